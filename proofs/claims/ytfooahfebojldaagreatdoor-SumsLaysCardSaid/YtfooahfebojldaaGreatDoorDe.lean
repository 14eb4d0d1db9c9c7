/-
  PROVED HERE: contracts of functions (De). No condition beside each statement's own.
-/
import Derived.Test.YtfooahfebojldaaGreatDoorDc
import Derived.Test.YtfooahfebojldaaGreatDoorSxb
set_option linter.unusedVariables false
set_option linter.unusedSimpArgs false
namespace Go.Proofs.cR
open Go aD Go.Proofs dE
set_option maxRecDepth 100000
set_option maxHeartbeats 1000000
theorem UX(call:ay->List I->J->an)(s o:List UInt8)(n:Nat)(h:J)(cS eE:List UInt8)(bk:J)
  (H1:(!cg s [])=true)
  (az:dn (.ofNat (List.length s)) (.ofNat n)=true)
  (a0:eQ .add [97,98,99,100,101,102,103,104,105,106,107,108,109,110,111,112,113,114,115,116,117,118,119,120,121,122,65,66,67,68,69,70,71,72,73,74,75,76,77,78,79,80,81,82,83,84,85,86,87,88,89,90,48,49,50,51,52,53,54,55,56,57,95] o=some (.str cS))
  (aS:call (.fn 116) [.str s,.str cS] h=an.ret (.str eE) bk):
  av Tryz.prog Tryz.f104 none call [] (ag.mk [(0,.str s),(1,.str o),(2,.int .i64 (.ofNat n))] [] .none h) (.ret)
   (ag.mk [(6,.bool (cg eE []))] [] .none bk):=
 a1 [6] (hs:=[.b true,.b true,.b true,.b true,.b true,.b true,.b true,.b true,.v (.str cS),.b true,.c (.str eE) bk,.b true,.b true]) (by kernel_rfl)<| .cons H1<| .cons H1<| .cons H1<| .cons H1<| .cons H1<| .cons az<| .cons az<| .cons az<| .cons a0<| .cons az<| .cons aS<| .cons az<| .cons az<| .nil
theorem UY(call:ay->List I->J->an)(s o:List UInt8)(n:Nat)(h:J)
  (H1:(!cg s [])=true)
  (az:dn (.ofNat (List.length s)) (.ofNat n)=false):
  av Tryz.prog Tryz.f104 none call [] (ag.mk [(0,.str s),(1,.str o),(2,.int .i64 (.ofNat n))] [] .none h) (.ret)
   (ag.mk [(6,.bool false)] [] .none h):=
 a1 [6] (hs:=[.b true,.b true,.b true,.b true,.b true,.b false,.b false,.b false,.b false,.b false,.b false]) (by kernel_rfl)<| .cons H1<| .cons H1<| .cons H1<| .cons H1<| .cons H1<| .cons az<| .cons az<| .cons az<| .cons az<| .cons az<| .cons az<| .nil
theorem UZ(call:ay->List I->J->an)(s o:List UInt8)(n:Nat)(h:J)
  (H1:(!cg s [])=false):
  av Tryz.prog Tryz.f104 none call [] (ag.mk [(0,.str s),(1,.str o),(2,.int .i64 (.ofNat n))] [] .none h) (.ret)
   (ag.mk [(6,.bool false)] [] .none h):=
 a1 [6] (hs:=[.b false,.b false,.b false,.b false,.b false,.b false,.b false,.b false,.b false,.b false,.b false]) (by kernel_rfl)<| .cons H1<| .cons H1<| .cons H1<| .cons H1<| .cons H1<| .cons (by kernel_rfl:false=false)<| .cons (by kernel_rfl:false=false)<| .cons (by kernel_rfl:false=false)<| .cons (by kernel_rfl:false=false)<| .cons (by kernel_rfl:false=false)<| .cons (by kernel_rfl:false=false)<| .nil
theorem U0(call:ay->List I->J->an)(s:List UInt8)(h:J)(cI:Bool)(bk:J)(cS:List UInt8)(ja:Bool)(dB:J)
  (H1:call (.fn 104) [.str s,.str [],.int .i64 (.ofNat 24)] h=an.ret (.bool cI) bk)
  (az:cI=true)
  (a0:fM Tryz.prog bk 9 (I.str s) none (some (I.int IntKind.i64 (Int.ofNat 1))) none=some (I.str cS))
  (aS:call (.fn 118) [.str [48,49,50,51,52,53,54,55,56,57],.str cS] bk=an.ret (.bool ja) dB):
  av Tryz.prog Tryz.f107 none call [] (ag.mk [(0,.str s)] [] .none h) (.ret)
   (ag.mk [(2,.bool !ja)] [] .none dB):=
 a1 [2] (hs:=[.c (.bool cI) bk,.b true,.b true,.v (.str cS),.b true,.c (.bool ja) dB,.b true,.b true]) (by kernel_rfl)<| .cons H1<| .cons az<| .cons az<| .cons a0<| .cons az<| .cons aS<| .cons az<| .cons az<| .nil
theorem U1(call:ay->List I->J->an)(s:List UInt8)(h:J)(cI:Bool)(bk:J)
  (H1:call (.fn 104) [.str s,.str [],.int .i64 (.ofNat 24)] h=an.ret (.bool cI) bk)
  (az:cI=false):
  av Tryz.prog Tryz.f107 none call [] (ag.mk [(0,.str s)] [] .none h) (.ret)
   (ag.mk [(2,.bool false)] [] .none bk):=
 a1 [2] (hs:=[.c (.bool cI) bk,.b false,.b false,.b false,.b false,.b false]) (by kernel_rfl)<| .cons H1<| .cons az<| .cons az<| .cons az<| .cons az<| .cons az<| .nil
theorem trim(call:ay->List I->J->an)(s o:List UInt8)(l:List I)(h bk:J)(cS:List UInt8)(dB:J)(eE:List UInt8)(kL:J)
  (H1:cg s []=false)
  (az:cg o []=false)
  (a0:a7 (.ofNat (List.length o)) (.ofNat 1)=false)
  (aS:call (.fn 139) [.str o] h=an.ret (.aW [.agg l,.bool true]) h)
  (bo:some 256=some (List.length l)/\aD.storeCells (J.push h (cx.cells (List.replicate 256 (I.bool false)) 177 eC.own 0 0)) (J.n h) 0 l=some bk/\I.aW []=I.aW [])
  (bV:call (.fn 141) [.str s,.ptr (J.n h) 0] bk=an.ret (.str cS) dB)
  (cw:call (.fn 140) [.str cS,.ptr (J.n h) 0] dB=an.ret (.str eE) kL):
  av Tryz.prog Tryz.f116 none call [] (ag.mk [(0,.str s),(1,.str o)] [] .none h) (.ret)
   (ag.mk [(4,.str eE)] [] .none kL):=
 a1 [4] (hs:=[.b false,.b false,.b false,.b false,.b false,.b false,.b false,.b false,.b false,.c (.aW [.agg l,.bool true]) h,.ih (.aW []) bk,.b true,.c (.str cS) dB,.c (.str eE) kL]) (by kernel_rfl)<| .cons H1<| .cons H1<| .cons H1<| .cons az<| .cons a0<| .cons a0<| .cons a0<| .cons a0<| .cons (by kernel_rfl:false=false)<| .cons aS<| .cons bo<| .cons (by kernel_rfl:true=true)<| .cons bV<| .cons cw<| .nil
theorem U2(call:ay->List I->J->an)(s t:List UInt8)(a:Nat)(h:J)
  (H1:av Tryz.prog Tryz.f141 none call [1,0,0] (ag.mk [(4,.str []),(0,.str s),(1,.ptr a 0)] [] .none h) (.exit 0) (ag.mk [(0,.str t)] [] .none h)):
  av Tryz.prog Tryz.f141 none call [] (ag.mk [(0,.str s),(1,.ptr a 0)] [] .none h) (.ret)
   (ag.mk [(4,.str t)] [] .none h):=
 a1 [4] (hs:=[Hint.loop (bF.exit 0) (ag.mk [(0,I.str t)] [] bJ.none h)]) (by kernel_rfl)<| .cons H1<| .nil
theorem U3(call:ay->List I->J->an)(s:List UInt8)(a:Nat)(h:J)(ca dy:Nat)(cI:Bool)(bk:J)
  (H1:bC (.ofNat 0) (.ofNat (List.length s))=true)
  (az:arith .sub .i64 (.ofNat (List.length s)) (.ofNat 1)=some (.int .i64 (.ofNat ca)))
  (a0:gB ca s=some (.int .u8 (.ofNat dy)))
  (aS:call (.fn 146) [.ptr a 0,.int .u8 (.ofNat dy)] h=an.ret (.bool cI) bk)
  (bo:(!cI)=true):
  av Tryz.prog Tryz.f141 none call [1,0,0,0] (ag.mk [(0,.str s),(1,.ptr a 0)] [] .none h) (.exit 0)
   (ag.mk [(0,.str s),(1,.ptr a 0)] [] .none bk):=
 a1 [0,1] (hs:=[.o (.int .i64 (.ofNat (List.length s))),.b true,.o (.int .i64 (.ofNat (List.length s))),.v (.int .i64 (.ofNat ca)),.v (.int .u8 (.ofNat dy)),.c (.bool cI) bk,.b true]) (by kernel_rfl)<| .cons (by kernel_rfl:bU Tryz.prog h 9 (I.str s)=some (I.int IntKind.i64 (Int.ofNat (List.length s))))<| .cons H1<| .cons (by kernel_rfl:bU Tryz.prog h 9 (I.str s)=some (I.int IntKind.i64 (Int.ofNat (List.length s))))<| .cons az<| .cons a0<| .cons aS<| .cons bo<| .nil
theorem U4(call:ay->List I->J->an)(s:List UInt8)(a:Nat)(h:J)(ca dy:Nat)(cI:Bool)(bk:J)(cS:List UInt8)
  (H1:bC (.ofNat 0) (.ofNat (List.length s))=true)
  (az:arith .sub .i64 (.ofNat (List.length s)) (.ofNat 1)=some (.int .i64 (.ofNat ca)))
  (a0:gB ca s=some (.int .u8 (.ofNat dy)))
  (aS:call (.fn 146) [.ptr a 0,.int .u8 (.ofNat dy)] h=an.ret (.bool cI) bk)
  (bo:(!cI)=false)
  (bV:fM Tryz.prog bk 9 (I.str s) none (some (I.int IntKind.i64 (Int.ofNat ca))) none=some (I.str cS)):
  av Tryz.prog Tryz.f141 none call [1,0,0,0] (ag.mk [(0,.str s),(1,.ptr a 0)] [] .none h) (.nrm)
   (ag.mk [(0,.str cS),(1,.ptr a 0)] [] .none bk):=
 a1 [0,1] (hs:=[.o (.int .i64 (.ofNat (List.length s))),.b true,.o (.int .i64 (.ofNat (List.length s))),.v (.int .i64 (.ofNat ca)),.v (.int .u8 (.ofNat dy)),.c (.bool cI) bk,.b false,.o (.int .i64 (.ofNat (List.length s))),.v (.int .i64 (.ofNat ca)),.v (.str cS)]) (by kernel_rfl)<| .cons (by kernel_rfl:bU Tryz.prog h 9 (I.str s)=some (I.int IntKind.i64 (Int.ofNat (List.length s))))<| .cons H1<| .cons (by kernel_rfl:bU Tryz.prog h 9 (I.str s)=some (I.int IntKind.i64 (Int.ofNat (List.length s))))<| .cons az<| .cons a0<| .cons aS<| .cons bo<| .cons (by kernel_rfl:bU Tryz.prog bk 9 (I.str s)=some (I.int IntKind.i64 (Int.ofNat (List.length s))))<| .cons az<| .cons bV<| .nil
theorem U5(call:ay->List I->J->an)(s:List UInt8)(a:Nat)(h:J)
  (H1:bC (.ofNat 0) (.ofNat (List.length s))=false):
  av Tryz.prog Tryz.f141 none call [1,0,0,0] (ag.mk [(0,.str s),(1,.ptr a 0)] [] .none h) (.exit 0)
   (ag.mk [(0,.str s),(1,.ptr a 0)] [] .none h):=
 a1 [0,1] (hs:=[.o (.int .i64 (.ofNat (List.length s))),.b false]) (by kernel_rfl)<| .cons (by kernel_rfl:bU Tryz.prog h 9 (I.str s)=some (I.int IntKind.i64 (Int.ofNat (List.length s))))<| .cons H1<| .nil
theorem U6(call:ay->List I->J->an)(s t:List UInt8)(a:Nat)(h:J)
  (H1:av Tryz.prog Tryz.f140 none call [1,0,0] (ag.mk [(4,.str []),(0,.str s),(1,.ptr a 0)] [] .none h) (.exit 0) (ag.mk [(0,.str t)] [] .none h)):
  av Tryz.prog Tryz.f140 none call [] (ag.mk [(0,.str s),(1,.ptr a 0)] [] .none h) (.ret)
   (ag.mk [(4,.str t)] [] .none h):=
 a1 [4] (hs:=[Hint.loop (bF.exit 0) (ag.mk [(0,I.str t)] [] bJ.none h)]) (by kernel_rfl)<| .cons H1<| .nil
theorem U7(call:ay->List I->J->an)(s:List UInt8)(a:Nat)(h:J)(ca:Nat)(cI:Bool)(bk:J)
  (H1:bC (.ofNat 0) (.ofNat (List.length s))=true)
  (az:gB 0 s=some (.int .u8 (.ofNat ca)))
  (a0:call (.fn 146) [.ptr a 0,.int .u8 (.ofNat ca)] h=an.ret (.bool cI) bk)
  (aS:(!cI)=true):
  av Tryz.prog Tryz.f140 none call [1,0,0,0] (ag.mk [(0,.str s),(1,.ptr a 0)] [] .none h) (.exit 0)
   (ag.mk [(0,.str s),(1,.ptr a 0)] [] .none bk):=
 a1 [0,1] (hs:=[.o (.int .i64 (.ofNat (List.length s))),.b true,.v (.int .u8 (.ofNat ca)),.c (.bool cI) bk,.b true]) (by kernel_rfl)<| .cons (by kernel_rfl:bU Tryz.prog h 9 (I.str s)=some (I.int IntKind.i64 (Int.ofNat (List.length s))))<| .cons H1<| .cons az<| .cons a0<| .cons aS<| .nil
theorem U8(call:ay->List I->J->an)(s:List UInt8)(a:Nat)(h:J)(ca:Nat)(cI:Bool)(bk:J)(cS:List UInt8)
  (H1:bC (.ofNat 0) (.ofNat (List.length s))=true)
  (az:gB 0 s=some (.int .u8 (.ofNat ca)))
  (a0:call (.fn 146) [.ptr a 0,.int .u8 (.ofNat ca)] h=an.ret (.bool cI) bk)
  (aS:(!cI)=false)
  (bo:fM Tryz.prog bk 9 (I.str s) (some (I.int IntKind.i64 (Int.ofNat 1))) none none=some (I.str cS)):
  av Tryz.prog Tryz.f140 none call [1,0,0,0] (ag.mk [(0,.str s),(1,.ptr a 0)] [] .none h) (.nrm)
   (ag.mk [(0,.str cS),(1,.ptr a 0)] [] .none bk):=
 a1 [0,1] (hs:=[.o (.int .i64 (.ofNat (List.length s))),.b true,.v (.int .u8 (.ofNat ca)),.c (.bool cI) bk,.b false,.v (.str cS)]) (by kernel_rfl)<| .cons (by kernel_rfl:bU Tryz.prog h 9 (I.str s)=some (I.int IntKind.i64 (Int.ofNat (List.length s))))<| .cons H1<| .cons az<| .cons a0<| .cons aS<| .cons bo<| .nil
theorem U9(call:ay->List I->J->an)(s:List UInt8)(a:Nat)(h:J)
  (H1:bC (.ofNat 0) (.ofNat (List.length s))=false):
  av Tryz.prog Tryz.f140 none call [1,0,0,0] (ag.mk [(0,.str s),(1,.ptr a 0)] [] .none h) (.exit 0)
   (ag.mk [(0,.str s),(1,.ptr a 0)] [] .none h):=
 a1 [0,1] (hs:=[.o (.int .i64 (.ofNat (List.length s))),.b false]) (by kernel_rfl)<| .cons (by kernel_rfl:bU Tryz.prog h 9 (I.str s)=some (I.int IntKind.i64 (Int.ofNat (List.length s))))<| .cons H1<| .nil
theorem U_(call:ay->List I->J->an)(a n:Nat)(h:J)(cI:Bool)
  (H1:Nat.le (Nat.succ n) 256)
  (az:aq h a (0+n*1)=some (.bool cI)):
  av Tryz.prog Tryz.f146 none call [] (ag.mk [(0,.ptr a 0),(1,.int .u8 (.ofNat n))] [] .none h) (.ret)
   (ag.mk [(4,.bool cI)] [] .none h):=
 a1 [4] (hs:=[.v (.ptr a (0+n*1)),.v (.bool cI)]) (by kernel_rfl)<| .cons (⟨H1,rfl⟩:Nat.le (Nat.succ n) 256/\I.ptr a (0+n*1)=I.ptr a (0+n*1))<| .cons az<| .nil
theorem Va(call:ay->List I->J->an)(s o:List UInt8)(i:Int)(h g:J)
  (H1:call (.fn 144) [.str s,.str o] h=an.ret (.int .i64 i) g):
  av Tryz.prog Tryz.f118 none call [] (ag.mk [(0,.str s),(1,.str o)] [] .none h) (.ret)
   (ag.mk [(4,.bool (dn (.ofNat 0) i))] [] .none g):=
 a1 [4] (hs:=[.c (.int .i64 i) g]) (by kernel_rfl)<| .cons H1<| .nil
theorem Vb(call:ay->List I->J->an)(s o:List UInt8)(i:Int)(h g:J)
  (H1:call (.fn 150) [.str s,.str o] h=an.ret (.int .i64 i) g):
  av Tryz.prog Tryz.f144 none call [] (ag.mk [(0,.str s),(1,.str o)] [] .none h) (.ret)
   (ag.mk [(4,.int .i64 i)] [] .none g):=
 a1 [4] (hs:=[.c (.int .i64 i) g]) (by kernel_rfl)<| .cons H1<| .nil
theorem Vc(call:ay->List I->J->an)(s:List UInt8)(c:UInt8)(i:Int)(h g:J)
  (H1:cg [c] s=false)
  (az:gB 0 [c]=some (.int .u8 (.ofNat (BitVec.toFin (UInt8.toBitVec c)).1)))
  (a0:call (.fn 155) [.str s,.int .u8 (.ofNat (BitVec.toFin (UInt8.toBitVec c)).1)] h=an.ret (.int .i64 i) g):
  av Tryz.prog Tryz.f150 none call [] (ag.mk [(0,.str s),(1,.str [c])] [] .none h) (.ret)
   (ag.mk [(4,.int .i64 i)] [] .none g):=
 a1 [4] (hs:=[.b false,.b false,.b false,.b false,.b false,.b true,.v (.int .u8 (.ofNat (UInt8.toNat c))),.c (.int .i64 i) g]) (by kernel_rfl)<| .cons (by kernel_rfl:a7 (Int.ofNat 1) (Int.ofNat 0)=false)<| .cons (by kernel_rfl:a7 (Int.ofNat 1) (Int.ofNat 0)=false)<| .cons (by kernel_rfl:a7 (Int.ofNat 1) (Int.ofNat 0)=false)<| .cons (by kernel_rfl:a7 (Int.ofNat 1) (Int.ofNat 0)=false)<| .cons H1<| .cons (by kernel_rfl:a7 (Int.ofNat 1) (Int.ofNat 1)=true)<| .cons az<| .cons a0<| .nil
theorem Vd(call:ay->List I->J->an)(s:List UInt8)(n:Nat)(i:Int)(h g:J)
  (H1:call (.fn 161) [.str s,.int .u8 (.ofNat n)] h=an.ret (.int .i64 i) g):
  av Tryz.prog Tryz.f155 none call [] (ag.mk [(0,.str s),(1,.int .u8 (.ofNat n))] [] .none h) (.ret)
   (ag.mk [(4,.int .i64 i)] [] .none g):=
 a1 [4] (hs:=[.c (.int .i64 i) g]) (by kernel_rfl)<| .cons H1<| .nil
theorem Ve(m:Nat)(s:List UInt8)(o:List UInt8)(n:Nat)(h:J){R:an->Prop}(H:
  ((!cg s [])=true->
    ((List.length s)<=n->
      List.length [97,98,99,100,101,102,103,104,105,106,107,108,109,110,111,112,113,114,115,116,117,118,119,120,121,122,65,66,67,68,69,70,71,72,73,74,75,76,77,78,79,80,81,82,83,84,85,86,87,88,89,90,48,49,50,51,52,53,54,55,56,57,95]+List.length o<=1000000000000/\
      ∃(eE:List UInt8) (bk:J),(Y m) (ay.fn 116) [I.str s,I.str ([97,98,99,100,101,102,103,104,105,106,107,108,109,110,111,112,113,114,115,116,117,118,119,120,121,122,65,66,67,68,69,70,71,72,73,74,75,76,77,78,79,80,81,82,83,84,85,86,87,88,89,90,48,49,50,51,52,53,54,55,56,57,95]++o)] h=an.ret (I.str eE) bk/\
      R (an.ret (I.bool (cg eE [])) bk))/\
    (¬(List.length s)<=n->
     R (an.ret (I.bool false) h)))/\
  ((!cg s [])=false->
    R (an.ret (I.bool false) h))):
  R (Y (m+1) (.fn 104) [I.str s,I.str o,I.int IntKind.i64 (Int.ofNat n)] h):=by
 rcases Bool.eq_false_or_eq_true ((!cg s [])) with aa|aa
 · have H:=H.1 aa
   by_cases ad:(List.length s)<=n
   · have H:=H.1 ad
     obtain⟨ax,H⟩:=H
     obtain⟨eE,bk,aO,H⟩:=H
     rw[show Y (m+1) (.fn 104) [I.str s,I.str o,I.int IntKind.i64 (Int.ofNat n)] h=_ from dJ (intr:=bT) (n:=m) (args:=[I.str s,I.str o,I.int IntKind.i64 (Int.ofNat n)]) Tryz.func104 (by kernel_rfl) (by kernel_rfl) (by kernel_rfl) (UX (Y m) s o n h ([97,98,99,100,101,102,103,104,105,106,107,108,109,110,111,112,113,114,115,116,117,118,119,120,121,122,65,66,67,68,69,70,71,72,73,74,75,76,77,78,79,80,81,82,83,84,85,86,87,88,89,90,48,49,50,51,52,53,54,55,56,57,95]++o) eE bk aa (iV ad) (fo ax) aO) (.inl rfl) (by kernel_rfl)];exact H
   · have H:=H.2 ad
     rw[show Y (m+1) (.fn 104) [I.str s,I.str o,I.int IntKind.i64 (Int.ofNat n)] h=_ from dJ (intr:=bT) (n:=m) (args:=[I.str s,I.str o,I.int IntKind.i64 (Int.ofNat n)]) Tryz.func104 (by kernel_rfl) (by kernel_rfl) (by kernel_rfl) (UY (Y m) s o n h aa (js ad)) (.inl rfl) (by kernel_rfl)];exact H
 · have H:=H.2 aa
   rw[show Y (m+1) (.fn 104) [I.str s,I.str o,I.int IntKind.i64 (Int.ofNat n)] h=_ from dJ (intr:=bT) (n:=m) (args:=[I.str s,I.str o,I.int IntKind.i64 (Int.ofNat n)]) Tryz.func104 (by kernel_rfl) (by kernel_rfl) (by kernel_rfl) (UZ (Y m) s o n h aa) (.inl rfl) (by kernel_rfl)];exact H
theorem Vf(m:Nat)(s:List UInt8)(h:J){R:an->Prop}(H:
  ∃(cI:Bool) (bk:J),(Y m) (ay.fn 104) [I.str s,I.str [],I.int IntKind.i64 (Int.ofNat 24)] h=an.ret (I.bool cI) bk/\
  (cI=true->
   ∃(cS:List UInt8),fM Tryz.prog bk 9 (I.str s) none (some (I.int IntKind.i64 (Int.ofNat 1))) none=some (I.str cS)/\
   ∃(ja:Bool) (dB:J),(Y m) (ay.fn 118) [I.str [48,49,50,51,52,53,54,55,56,57],I.str cS] bk=an.ret (I.bool ja) dB/\
   R (an.ret (I.bool !ja) dB))/\
  (cI=false->
   R (an.ret (I.bool false) bk))):
  R (Y (m+1) (.fn 107) [I.str s] h):=by
 obtain⟨cI,bk,aa,H⟩:=H
 rcases Bool.eq_false_or_eq_true (cI) with ad|ad
 · have H:=H.1 ad
   obtain⟨cS,ax,H⟩:=H
   obtain⟨ja,dB,aO,H⟩:=H
   rw[show Y (m+1) (.fn 107) [I.str s] h=_ from dJ (intr:=bT) (n:=m) (args:=[I.str s]) Tryz.func107 (by kernel_rfl) (by kernel_rfl) (by kernel_rfl) (U0 (Y m) s h cI bk cS ja dB aa ad ax aO) (.inl rfl) (by kernel_rfl)];exact H
 · have H:=H.2 ad
   rw[show Y (m+1) (.fn 107) [I.str s] h=_ from dJ (intr:=bT) (n:=m) (args:=[I.str s]) Tryz.func107 (by kernel_rfl) (by kernel_rfl) (by kernel_rfl) (U1 (Y m) s h cI bk aa ad) (.inl rfl) (by kernel_rfl)];exact H
theorem Vg(m:Nat)(s:List UInt8)(o:List UInt8)(h:J){R:an->Prop}(H:
  cg s []=false/\
  cg o []=false/\
  ¬(List.length o)=1/\
  ∃(l:List I),(Y m) (ay.fn 139) [I.str o] h=an.ret (I.aW [I.agg l,I.bool true]) h/\
  ∃(bk:J),(some 256=some (List.length l)/\aD.storeCells (J.push h (cx.cells (List.replicate 256 (I.bool false)) 177 eC.own 0 0)) (J.n h) 0 l=some bk/\I.aW []=I.aW [])/\
  ∃(cS:List UInt8) (dB:J),(Y m) (ay.fn 141) [I.str s,I.ptr (J.n h) 0] bk=an.ret (I.str cS) dB/\
  ∃(eE:List UInt8) (kL:J),(Y m) (ay.fn 140) [I.str cS,I.ptr (J.n h) 0] dB=an.ret (I.str eE) kL/\
  R (an.ret (I.str eE) kL)):
  R (Y (m+1) (.fn 116) [I.str s,I.str o] h):=by
 obtain⟨aa,H⟩:=H
 obtain⟨ad,H⟩:=H
 obtain⟨ax,H⟩:=H
 obtain⟨l,aO,H⟩:=H
 obtain⟨bk,bZ,H⟩:=H
 obtain⟨cS,dB,dj,H⟩:=H
 obtain⟨eE,kL,ek,H⟩:=H
 rw[show Y (m+1) (.fn 116) [I.str s,I.str o] h=_ from dJ (intr:=bT) (n:=m) (args:=[I.str s,I.str o]) Tryz.func116 (by kernel_rfl) (by kernel_rfl) (by kernel_rfl) (trim (Y m) s o l h bk cS dB eE kL aa ad (k3 ax) aO bZ dj ek) (.inl rfl) (by kernel_rfl)];exact H
theorem Vh(m:Nat)(s:List UInt8)(a:Nat)(h:J){R:an->Prop}(H:
  bw Tryz.prog Tryz.f141 (Y m) [1,0,0] (ag.mk [(4,I.str []),(0,I.str s),(1,I.ptr a 0)] [] bJ.none h) (λcG cH=>
   (∃(t:List UInt8) (b8:Env),cG=(bF.exit 0)/\cH=(ag.mk b8 [] bJ.none h)/\cC [(0,I.str t)] b8/\
    R (an.ret (I.str t) h)))):
  R (Y (m+1) (.fn 141) [I.str s,I.ptr a 0] h):=by
 obtain⟨cG,cH,aa,H⟩:=H
 obtain⟨t,b8,rfl,rfl,dd,H⟩:=H
 replace aa:=ck.post aa dd
 rw[show Y (m+1) (.fn 141) [I.str s,I.ptr a 0] h=_ from dJ (intr:=bT) (n:=m) (args:=[I.str s,I.ptr a 0]) Tryz.func141 (by kernel_rfl) (by kernel_rfl) (by kernel_rfl) (U2 (Y m) s t a h aa) (.inl rfl) (by kernel_rfl)];exact H
theorem Vi(call:ay->List I->J->an)(s:List UInt8)(a:Nat)(h:J){Q:bF->ag->Prop}(H:
  (0<(List.length s)->
   (1<=(List.length s)/\(List.length s)<9223372036854775808)/\
   ∃(dy:Nat),gB ((List.length s)-1) s=some (I.int IntKind.u8 (Int.ofNat dy))/\
   ∃(cI:Bool) (bk:J),call (ay.fn 146) [I.ptr a 0,I.int IntKind.u8 (Int.ofNat dy)] h=an.ret (I.bool cI) bk/\
   ((!cI)=true->
     Q (bF.exit 0) (ag.mk [(0,I.str s),(1,I.ptr a 0)] [] bJ.none bk))/\
   ((!cI)=false->
     ∃(cS:List UInt8),fM Tryz.prog bk 9 (I.str s) none (some (I.int IntKind.i64 (Int.ofNat ((List.length s)-1)))) none=some (I.str cS)/\
     Q (bF.nrm) (ag.mk [(0,I.str cS),(1,I.ptr a 0)] [] bJ.none bk)))/\
  (¬0<(List.length s)->
   Q (bF.exit 0) (ag.mk [(0,I.str s),(1,I.ptr a 0)] [] bJ.none h))):
  bw Tryz.prog Tryz.f141 call [1,0,0,0] (ag.mk [(0,I.str s),(1,I.ptr a 0)] [] bJ.none h) Q:=by
 by_cases aa:0<(List.length s)
 · have H:=H.1 aa
   obtain⟨ad,H⟩:=H
   obtain⟨dy,ax,H⟩:=H
   obtain⟨cI,bk,aO,H⟩:=H
   rcases Bool.eq_false_or_eq_true ((!cI)) with bZ|bZ
   · have H:=H.1 bZ
     exact bw.of (U3 call s a h ((List.length s)-1) dy cI bk (ds aa) (pP ad.1 ad.2) ax aO bZ) H
   · have H:=H.2 bZ
     obtain⟨cS,dj,H⟩:=H
     exact bw.of (U4 call s a h ((List.length s)-1) dy cI bk cS (ds aa) (pP ad.1 ad.2) ax aO bZ dj) H
 · have H:=H.2 aa
   exact bw.of (U5 call s a h (eh aa)) H
theorem Vj(m:Nat)(s:List UInt8)(a:Nat)(h:J){R:an->Prop}(H:
  bw Tryz.prog Tryz.f140 (Y m) [1,0,0] (ag.mk [(4,I.str []),(0,I.str s),(1,I.ptr a 0)] [] bJ.none h) (λcG cH=>
   (∃(t:List UInt8) (b8:Env),cG=(bF.exit 0)/\cH=(ag.mk b8 [] bJ.none h)/\cC [(0,I.str t)] b8/\
    R (an.ret (I.str t) h)))):
  R (Y (m+1) (.fn 140) [I.str s,I.ptr a 0] h):=by
 obtain⟨cG,cH,aa,H⟩:=H
 obtain⟨t,b8,rfl,rfl,dd,H⟩:=H
 replace aa:=ck.post aa dd
 rw[show Y (m+1) (.fn 140) [I.str s,I.ptr a 0] h=_ from dJ (intr:=bT) (n:=m) (args:=[I.str s,I.ptr a 0]) Tryz.func140 (by kernel_rfl) (by kernel_rfl) (by kernel_rfl) (U6 (Y m) s t a h aa) (.inl rfl) (by kernel_rfl)];exact H
theorem Vk(call:ay->List I->J->an)(s:List UInt8)(a:Nat)(h:J){Q:bF->ag->Prop}(H:
  (0<(List.length s)->
   ∃(ca:Nat),gB 0 s=some (I.int IntKind.u8 (Int.ofNat ca))/\
   ∃(cI:Bool) (bk:J),call (ay.fn 146) [I.ptr a 0,I.int IntKind.u8 (Int.ofNat ca)] h=an.ret (I.bool cI) bk/\
   ((!cI)=true->
     Q (bF.exit 0) (ag.mk [(0,I.str s),(1,I.ptr a 0)] [] bJ.none bk))/\
   ((!cI)=false->
     ∃(cS:List UInt8),fM Tryz.prog bk 9 (I.str s) (some (I.int IntKind.i64 (Int.ofNat 1))) none none=some (I.str cS)/\
     Q (bF.nrm) (ag.mk [(0,I.str cS),(1,I.ptr a 0)] [] bJ.none bk)))/\
  (¬0<(List.length s)->
   Q (bF.exit 0) (ag.mk [(0,I.str s),(1,I.ptr a 0)] [] bJ.none h))):
  bw Tryz.prog Tryz.f140 call [1,0,0,0] (ag.mk [(0,I.str s),(1,I.ptr a 0)] [] bJ.none h) Q:=by
 by_cases aa:0<(List.length s)
 · have H:=H.1 aa
   obtain⟨ca,ad,H⟩:=H
   obtain⟨cI,bk,ax,H⟩:=H
   rcases Bool.eq_false_or_eq_true ((!cI)) with aO|aO
   · have H:=H.1 aO
     exact bw.of (U7 call s a h ca cI bk (ds aa) ad ax aO) H
   · have H:=H.2 aO
     obtain⟨cS,bZ,H⟩:=H
     exact bw.of (U8 call s a h ca cI bk cS (ds aa) ad ax aO bZ) H
 · have H:=H.2 aa
   exact bw.of (U9 call s a h (eh aa)) H
theorem Vl(m:Nat)(a:Nat)(n:Nat)(h:J){R:an->Prop}(H:
  n<256/\
  ∃(cI:Bool),aq h a (0+n*1)=some (I.bool cI)/\
  R (an.ret (I.bool cI) h)):
  R (Y (m+1) (.fn 146) [I.ptr a 0,I.int IntKind.u8 (Int.ofNat n)] h):=by
 obtain⟨aa,H⟩:=H
 obtain⟨cI,ad,H⟩:=H
 rw[show Y (m+1) (.fn 146) [I.ptr a 0,I.int IntKind.u8 (Int.ofNat n)] h=_ from dJ (intr:=bT) (n:=m) (args:=[I.ptr a 0,I.int IntKind.u8 (Int.ofNat n)]) Tryz.func146 (by kernel_rfl) (by kernel_rfl) (by kernel_rfl) (U_ (Y m) a n h cI aa ad) (.inl rfl) (by kernel_rfl)];exact H
theorem Vm(m:Nat)(s:List UInt8)(o:List UInt8)(h:J){R:an->Prop}(H:
  ∃(i:Int) (g:J),(Y m) (ay.fn 144) [I.str s,I.str o] h=an.ret (I.int IntKind.i64 i) g/\
  R (an.ret (I.bool (dn (Int.ofNat 0) i)) g)):
  R (Y (m+1) (.fn 118) [I.str s,I.str o] h):=by
 obtain⟨i,g,aa,H⟩:=H
 rw[show Y (m+1) (.fn 118) [I.str s,I.str o] h=_ from dJ (intr:=bT) (n:=m) (args:=[I.str s,I.str o]) Tryz.func118 (by kernel_rfl) (by kernel_rfl) (by kernel_rfl) (Va (Y m) s o i h g aa) (.inl rfl) (by kernel_rfl)];exact H
theorem Vn(m:Nat)(s:List UInt8)(o:List UInt8)(h:J){R:an->Prop}(H:
  ∃(i:Int) (g:J),(Y m) (ay.fn 150) [I.str s,I.str o] h=an.ret (I.int IntKind.i64 i) g/\
  R (an.ret (I.int IntKind.i64 i) g)):
  R (Y (m+1) (.fn 144) [I.str s,I.str o] h):=by
 obtain⟨i,g,aa,H⟩:=H
 rw[show Y (m+1) (.fn 144) [I.str s,I.str o] h=_ from dJ (intr:=bT) (n:=m) (args:=[I.str s,I.str o]) Tryz.func144 (by kernel_rfl) (by kernel_rfl) (by kernel_rfl) (Vb (Y m) s o i h g aa) (.inl rfl) (by kernel_rfl)];exact H
theorem Vo(m:Nat)(s:List UInt8)(c:UInt8)(h:J){R:an->Prop}(H:
  cg [c] s=false/\
  gB 0 [c]=some (I.int IntKind.u8 (Int.ofNat (BitVec.toFin (UInt8.toBitVec c)).1))/\
  ∃(i:Int) (g:J),(Y m) (ay.fn 155) [I.str s,I.int IntKind.u8 (Int.ofNat (BitVec.toFin (UInt8.toBitVec c)).1)] h=an.ret (I.int IntKind.i64 i) g/\
  R (an.ret (I.int IntKind.i64 i) g)):
  R (Y (m+1) (.fn 150) [I.str s,I.str [c]] h):=by
 obtain⟨aa,H⟩:=H
 obtain⟨ad,H⟩:=H
 obtain⟨i,g,ax,H⟩:=H
 rw[show Y (m+1) (.fn 150) [I.str s,I.str [c]] h=_ from dJ (intr:=bT) (n:=m) (args:=[I.str s,I.str [c]]) Tryz.func150 (by kernel_rfl) (by kernel_rfl) (by kernel_rfl) (Vc (Y m) s c i h g aa ad ax) (.inl rfl) (by kernel_rfl)];exact H
theorem Vp(m:Nat)(s:List UInt8)(n:Nat)(h:J){R:an->Prop}(H:
  ∃(i:Int) (g:J),(Y m) (ay.fn 161) [I.str s,I.int IntKind.u8 (Int.ofNat n)] h=an.ret (I.int IntKind.i64 i) g/\
  R (an.ret (I.int IntKind.i64 i) g)):
  R (Y (m+1) (.fn 155) [I.str s,I.int IntKind.u8 (Int.ofNat n)] h):=by
 obtain⟨i,g,aa,H⟩:=H
 rw[show Y (m+1) (.fn 155) [I.str s,I.int IntKind.u8 (Int.ofNat n)] h=_ from dJ (intr:=bT) (n:=m) (args:=[I.str s,I.int IntKind.u8 (Int.ofNat n)]) Tryz.func155 (by kernel_rfl) (by kernel_rfl) (by kernel_rfl) (Vd (Y m) s n i h g aa) (.inl rfl) (by kernel_rfl)];exact H
theorem u6:Tryz.prog.underlying 9=some .string:=by kernel_rfl
theorem Vq(m:Nat)(h:J):Y (m+1) (.fn 139) [.str nX] h=.ret (.aW [.agg (jV o5),.bool true]) h:=by
 have e:bT 139 [.str nX] h=some (.aW [.agg (jV o5),.bool true],h):=by kernel_rfl
 unfold Y;simp only[fD,e]
theorem Vr(m:Nat)(h:J):Y (m+1) (.fn 139) [.str (nX++[45,47,46])] h=.ret (.aW [.agg (jV jy),.bool true]) h:=by
 have e:bT 139 [.str (nX++[45,47,46])] h=some (.aW [.agg (jV jy),.bool true],h):=by kernel_rfl
 unfold Y;simp only[fD,e]
theorem AI(p:Nat->Bool):(jV p).length=256:=by simp[jV]
def AJ(h:J)(a:Nat)(p:Nat->Bool):Prop:=h.get a=some (.cells (jV p) 177 .own 0 0)
theorem KB(m a n:Nat)(p:Nat->Bool)(h:J)(aK:n<256)(a2:AJ h a p):Y (m+1) (.fn 146) [.ptr a 0,.int .u8 (Int.ofNat n)] h=.ret (.bool (p n)) h:=
 Vl m a n h (R:=λx=>x=_) ⟨aK,_,Dw a2 (by rw[show 0+n*1=n by omega];simp[jV,aK]),rfl⟩
theorem Vs(p:Nat->Bool)(s:aU)(hs:0<s.length)(au:p (s[s.length-1]'(by omega)).toNat=true):(s.take (s.length-1)).all (λc=>p c.toNat)=s.all (λc=>p c.toNat):=by
 have e:s=s.take (s.length-1)++[s[s.length-1]'(by omega)]:=by
  have:=List.take_append_drop (s.length-1) s
  rw[List.drop_eq_getElem_cons (by omega),List.drop_of_length_le (by omega)] at this
  exact this.symm
 conv=>rhs;rw[e]
 rw[List.all_append];simp[au]
theorem KC{s:aU}{i:Nat}(h:i<s.length):gB i s=some (.int .u8 (Int.ofNat (s[i]).toNat)):=nc h
theorem Vt(m a:Nat)(p:Nat->Bool)(s:aU)(h:J)(hs:s.length<=90000)(a2:AJ h a p):∃t,Y (m+2) (.fn 141) [.str s,.ptr a 0] h=.ret (.str t) h/\t.length<=s.length/\t.all (λc=>p c.toNat)=s.all (λc=>p c.toNat)/\(t.all (λc=>p c.toNat)=true->t=[]):=by
 refine Vh (m+1) s a h (R:=λx=>∃t,x=.ret (.str t) h/\t.length<=s.length/\t.all (λc=>p c.toNat)=s.all (λc=>p c.toNat)/\(t.all (λc=>p c.toNat)=true->t=[])) ?_
 refine bw.loop (by kernel_rfl) (λk st=>∃(t:aU) (Γ:Env),st=⟨Γ,[],.none,h⟩/\cC [(0,.str t),(1,.ptr a 0)] Γ/\t.length=k/\t.length<=s.length/\t.all (λc=>p c.toNat)=s.all (λc=>p c.toNat)) ?_ s.length _ (by omega) ⟨s,_,rfl,⟨rfl,rfl,trivial⟩,rfl,Nat.le_refl _,rfl⟩
 rintro k st ⟨t,Γ,rfl,dd,aw,au,bq⟩
 refine bw.pre (Vi (Y (m+1)) t a h ⟨λh0=>⟨⟨by omega,by omega⟩,_,KC (by omega),_,_,KB m a _ p h (UInt8.toNat_lt _) a2,λah=>?_,λah=>?_⟩,λh0=>?_⟩) dd rfl rfl rfl
 · refine⟨t,_,rfl,rfl,⟨rfl,trivial⟩,t,rfl,au,bq,λaa=>?_⟩
   have:=List.all_eq_true.1 aa _ (List.getElem_mem (show t.length-1<t.length by omega))
   simp[this] at ah
 · have ox:p (t[t.length-1]'(by omega)).toNat=true:=by simpa using ah
   refine⟨_,Dr u6 (by omega),_,(by show _<k;simp;omega),_,_,rfl,⟨rfl,rfl,trivial⟩,rfl,by simp;omega,by rw[Vs p t h0 ox,bq]⟩
 · obtain rfl:t=[]:=List.eq_nil_of_length_eq_zero (by omega)
   exact⟨[],_,rfl,rfl,⟨rfl,trivial⟩,[],rfl,au,bq,λ_=>rfl⟩
theorem Vu(m a:Nat)(p:Nat->Bool)(s:aU)(h:J)(hs:s.length<=90000)(a2:AJ h a p):∃t,Y (m+2) (.fn 140) [.str s,.ptr a 0] h=.ret (.str t) h/\t.all (λc=>p c.toNat)=s.all (λc=>p c.toNat)/\(t.all (λc=>p c.toNat)=true->t=[]):=by
 refine Vj (m+1) s a h (R:=λx=>∃t,x=.ret (.str t) h/\t.all (λc=>p c.toNat)=s.all (λc=>p c.toNat)/\(t.all (λc=>p c.toNat)=true->t=[])) ?_
 refine bw.loop (by kernel_rfl) (λk st=>∃(t:aU) (Γ:Env),st=⟨Γ,[],.none,h⟩/\cC [(0,.str t),(1,.ptr a 0)] Γ/\t.length=k/\t.all (λc=>p c.toNat)=s.all (λc=>p c.toNat)) ?_ s.length _ (by omega) ⟨s,_,rfl,⟨rfl,rfl,trivial⟩,rfl,rfl⟩
 rintro k st ⟨t,Γ,rfl,dd,aw,bq⟩
 refine bw.pre (Vk (Y (m+1)) t a h ⟨λh0=>⟨_,KC h0,_,_,KB m a _ p h (UInt8.toNat_lt _) a2,λah=>?_,λah=>?_⟩,λh0=>?_⟩) dd rfl rfl rfl
 · refine⟨t,_,rfl,rfl,⟨rfl,trivial⟩,t,rfl,bq,λaa=>?_⟩
   have:=List.all_eq_true.1 aa _ (List.getElem_mem h0)
   simp[this] at ah
 · have ox:p (t[0]'h0).toNat=true:=by simpa using ah
   refine⟨_,QF u6 (by omega),_,(by show _<k;simp;omega),_,_,rfl,⟨rfl,rfl,trivial⟩,rfl,?_⟩
   rw[<-bq]
   cases t with
   |nil=>simp at h0
   |cons c t=>simp at ox;simp[ox]
 · obtain rfl:t=[]:=List.eq_nil_of_length_eq_zero (by omega)
   exact⟨[],_,rfl,rfl,⟨rfl,trivial⟩,[],rfl,bq,λ_=>rfl⟩
theorem tm(s:aU):cg s []=decide (s=[]):=by cases s<;>simp[cg]
theorem KD(m B:Nat)(p:Nat->Bool)(s o:aU)(h:J)(bO:B<=h.n)(hs:s.length<=90000)(h0:s≠[])(bd:o.length≠1)(aK:o≠[])(hm:Y (m+2) (.fn 139) [.str o] h=.ret (.aW [.agg (jV p),.bool true]) h):
  ∃t al,Y (m+3) (.fn 116) [.str s,.str o] h=.ret (.str t) al/\cg t []=s.all (λc=>p c.toNat)/\Ext B h al:=by
 have st:aD.storeCells (h.push (.cells (List.replicate 256 (.bool false)) 177 .own 0 0)) h.n 0 (jV p)=some ((h.push (.cells (List.replicate 256 (.bool false)) 177 .own 0 0)).set h.n (some (.cells (jV p) 177 .own 0 0))):=by
  refine iG (fp rfl) (by rw[AI];rfl) ?_
  have:=w5 (jV p) (List.replicate 256 (.bool false)) (by simp[jV,I.bY]) (by rw[AI];simp)
  rw[this,AI];simp
 obtain⟨g,aj⟩:∃g,g=(h.push (.cells (List.replicate 256 (.bool false)) 177 .own 0 0)).set h.n (some (.cells (jV p) 177 .own 0 0)):=⟨_,rfl⟩
 rw[<-aj] at st
 have kW:AJ g h.n p:=by rw[aj];exact iF rfl
 have fy:Ext B h g:=by rw[aj];exact(Ext.push bO _).hA bO
 obtain⟨t,c1,bp,dD,aA⟩:=Vt m h.n p s g hs kW
 obtain⟨u,c2,ef,aC⟩:=Vu m h.n p t g (by omega) kW
 refine Vg (m+2) s o h (R:=λx=>∃t al,x=.ret (.str t) al/\cg t []=s.all (λc=>p c.toNat)/\Ext B h al) ⟨by rw[tm];simp[h0],by rw[tm];simp[aK],bd,_,hm,_,⟨by rw[AI],st,rfl⟩,t,g,c1,u,g,c2,u,g,rfl,?_,fy⟩
 rw[tm,<-dD,<-ef]
 cases bq:u.all (λc=>p c.toNat) with
 |true=>simp[aC bq]
 |false=>
  cases u with
  |nil=>simp at bq
  |cons c u=>simp
theorem KE(m B:Nat)(p:Nat->Bool)(s o:aU)(n:Nat)(h:J)(bO:B<=h.n)(aav:n<=90000)(bd:(o=[]/\p=o5)\/(o=[45,47,46]/\p=jy)):bK B h (.bool (decide (1<=s.length)&&decide (s.length<=n)&&s.all (λc=>p c.toNat))) (Y (m+4) (.fn 104) [.str s,.str o,.int .i64 (Int.ofNat n)] h):=by
 refine Ve (m+3) s o n h ⟨λaa=>⟨λad=>?_,λad=>?_⟩,λaa=>?_⟩
 · have h0:s≠[]:=by rw[tm] at aa;simpa using aa
   have bl:1<=s.length:=List.length_pos_iff.2 h0
   have key:∃t al,Y (m+3) (.fn 116) [.str s,.str (nX++o)] h=.ret (.str t) al/\cg t []=s.all (λc=>p c.toNat)/\Ext B h al:=by
    rcases bd with⟨rfl,rfl⟩|⟨rfl,rfl⟩
    · rw[List.append_nil]
      exact KD m B o5 s nX h bO (by omega) h0 (by decide) (by decide) (Vq _ h)
    · exact KD m B jy s (nX++[45,47,46]) h bO (by omega) h0 (by decide) (by decide) (Vr _ h)
   obtain⟨t,al,c,e,x⟩:=key
   exact⟨by rcases bd with⟨rfl,_⟩|⟨rfl,_⟩<;>simp,t,al,c,bK.of (dK (by rw[e];simp[bl,ad])) x⟩
 · exact bK.of (dK (by simp[ad])) (Ext.refl _ _)
 · have h0:s=[]:=by rw[tm] at aa;simpa using aa
   subst h0
   exact bK.of (dK (by simp)) (Ext.refl _ _)
end Go.Proofs.cR
