/-
  PROVED HERE: contracts of functions (De). No condition beside each statement's own.
-/
import Derived.Test.YtjkomfonmcmgdaaGreatDoorDc
import Derived.Test.YtjkomfonmcmgdaaGreatDoorSxb
set_option linter.unusedVariables false
set_option linter.unusedSimpArgs false
set_option maxRecDepth 100000
set_option maxHeartbeats 1000000
namespace Go.Proofs.kh
open Go bg Go.Proofs ir
variable {Q:bW->bL->Prop} {R:bE->Prop} (call:aW)
theorem abq(s o:List UInt8)(n:Nat)(h:ab)(e2 mw:List UInt8)(cZ:ab)
  (H1:(!c1 s [])=true)
  (bh:jU s.length n=true)
  (bD:hL .add [97,98,99,100,101,102,103,104,105,106,107,108,109,110,111,112,113,114,115,116,117,118,119,120,121,122,65,66,67,68,69,70,71,72,73,74,75,76,77,78,79,80,81,82,83,84,85,86,87,88,89,90,48,49,50,51,52,53,54,55,56,57,95] o=some (.str e2))
  (cm:call (.fn 83) [.str s,.str e2] h=bE.ret (.str mw) cZ):
  a5 an Tryz.f64 none call [] (aj [(0,.str s),(1,.str o),(2,J n)] h) (.ret)
   (aj [(6,.bool (c1 mw []))] cZ):=
 bN [6] (cv 8 255 (.v (.str e2)::.b true::.c (.str mw) cZ::cv 2 3 [])) 16 13 600480236713267 (mW H1 bh bD cm bM)
theorem abr(s o:List UInt8)(n:Nat)(h:ab)
  (H1:(!c1 s [])=true)
  (bh:jU s.length n=false):
  a5 an Tryz.f64 none call [] (aj [(0,.str s),(1,.str o),(2,J n)] h) (.ret)
   (aj [(6,.bool false)] h):=
 bN [6] (cv 11 1984 []) 16 11 2345625924403 (ji H1 bh bM)
theorem abt(s o:List UInt8)(n:Nat)(h:ab)
  (H1:(!c1 s [])=false):
  a5 an Tryz.f64 none call [] (aj [(0,.str s),(1,.str o),(2,J n)] h) (.ret)
   (aj [(6,.bool false)] h):=
 bN [6] (cv 11 0 []) 16 11 2345623687441 (hR H1 bM)
theorem abu(s:List UInt8)(h:ab)(ez:Bool)(cZ:ab)(e2:List UInt8)(u2:Bool)(iV:ab)
  (H1:call (.fn 64) [.str s,.str [],J 24] h=bE.ret (.bool ez) cZ)
  (bh:ez=true)
  (bD:dC an cZ 9 (ad.str s) none (some (J 1)) none=some (ad.str e2))
  (cm:call (.fn 85) [.str [48,49,50,51,52,53,54,55,56,57],.str e2] cZ=bE.ret (.bool u2) iV):
  a5 an Tryz.f67 none call [] (aj [(0,.str s)] h) (.ret)
   (aj [(2,.bool !u2)] iV):=
 bN [2] (.c (.bool ez) cZ::cv 2 3 (.v (.str e2)::.b true::.c (.bool u2) iV::cv 2 3 [])) 16 8 590624051 (mW H1 bh bD cm bM)
theorem abv(s:List UInt8)(h:ab)(ez:Bool)(cZ:ab)
  (H1:call (.fn 64) [.str s,.str [],J 24] h=bE.ret (.bool ez) cZ)
  (bh:ez=false):
  a5 an Tryz.f67 none call [] (aj [(0,.str s)] h) (.ret)
   (aj [(2,.bool false)] cZ):=
 bN [2] (.c (.bool ez) cZ::cv 5 0 []) 16 6 2306867 (ji H1 bh bM)
theorem trim(s o:List UInt8)(l:List ad)(h cZ:ab)(e2:List UInt8)(iV:ab)(mw:List UInt8)(u3:ab)
  (H1:c1 s []=false)
  (bh:c1 o []=false)
  (bD:bQ o.length 1=false)
  (cm:call (.fn 106) [.str o] h=bE.ret (.aR [.agg l,.bool true]) h)
  (cS:some 256=some l.length/\bg.storeCells (ab.push h (dQ.cells (List.replicate 256 (ad.bool false)) 144 hb.own 0 0)) (ab.n h) 0 l=some cZ/\ad.aR []=ad.aR [])
  (dT:call (.fn 108) [.str s,af (ab.n h)] cZ=bE.ret (.str e2) iV)
  (eS:call (.fn 107) [.str e2,af (ab.n h)] iV=bE.ret (.str mw) u3):
  a5 an Tryz.f83 none call [] (aj [(0,.str s),(1,.str o)] h) (.ret)
   (aj [(4,.str mw)] u3):=
 bN [4] (cv 9 0 [.c (.aR [.agg l,.bool true]) h,.n5 (.aR []) cZ,.b true,.c (.str e2) iV,.c (.str mw) u3]) 16 14 9608925315162232 (s5 H1 bh bD cm cS dT eS bM)
theorem abw(s t:List UInt8)(a:Nat)(h:ab)
  (H1:a5 an Tryz.f108 none call [1,0,0] (aj [(4,.str []),(0,.str s),(1,af a)] h) (.exit 0) (aj [(0,.str t)] h)):
  a5 an Tryz.f108 none call [] (aj [(0,.str s),(1,af a)] h) (.ret)
   (aj [(4,.str t)] h):=
 bN [4] [Hint.loop (bW.exit 0) (bL.mk [(0,ad.str t)] [] bU.none h)] 16 1 2 (hR H1 bM)
theorem abx(s:List UInt8)(a:Nat)(h:ab)(gw pd:Nat)(ez:Bool)(cZ:ab)
  (H1:cE 0 s.length=true)
  (bh:arith .sub .i64 (.ofNat s.length) (.ofNat 1)=some (J gw))
  (bD:hX gw s=some (b4 pd))
  (cm:call (.fn 113) [af a,b4 pd] h=bE.ret (.bool ez) cZ)
  (cS:(!ez)=true):
  a5 an Tryz.f108 none call [1,0,0,0] (aj [(0,.str s),(1,af a)] h) (.exit 0)
   (aj [(0,.str s),(1,af a)] cZ):=
 bN [0,1] [.o (J s.length),.b true,.o (J s.length),.v (J gw),.v (b4 pd),.c (.bool ez) cZ,.b true] 16 7 36848999 (wA (by kernel_rfl:bV an h 9 (ad.str s)=some (J s.length)) H1 bh bD cm cS bM)
theorem aby(s:List UInt8)(a:Nat)(h:ab)(gw pd:Nat)(ez:Bool)(cZ:ab)(e2:List UInt8)
  (H1:cE 0 s.length=true)
  (bh:arith .sub .i64 (.ofNat s.length) (.ofNat 1)=some (J gw))
  (bD:hX gw s=some (b4 pd))
  (cm:call (.fn 113) [af a,b4 pd] h=bE.ret (.bool ez) cZ)
  (cS:(!ez)=false)
  (dT:dC an cZ 9 (ad.str s) none (some (J gw)) none=some (ad.str e2)):
  a5 an Tryz.f108 none call [1,0,0,0] (aj [(0,.str s),(1,af a)] h) (.nrm)
   (aj [(0,.str e2),(1,af a)] cZ):=
 bN [0,1] [.o (J s.length),.b true,.o (J s.length),.v (J gw),.v (b4 pd),.c (.bool ez) cZ,.b false,.o (J s.length),.v (J gw),.v (.str e2)] 16 10 150933502025 (Be (by kernel_rfl:bV an h 9 (ad.str s)=some (J s.length)) H1 bh bD cm cS (by kernel_rfl:bV an cZ 9 (ad.str s)=some (J s.length)) dT bM)
theorem abz(s:List UInt8)(a:Nat)(h:ab)
  (H1:cE 0 s.length=false):
  a5 an Tryz.f108 none call [1,0,0,0] (aj [(0,.str s),(1,af a)] h) (.exit 0)
   (aj [(0,.str s),(1,af a)] h):=
 bN [0,1] [.o (J s.length),.b false] 16 2 35 (ji (by kernel_rfl:bV an h 9 (ad.str s)=some (J s.length)) H1 bM)
theorem abA(s t:List UInt8)(a:Nat)(h:ab)
  (H1:a5 an Tryz.f107 none call [1,0,0] (aj [(4,.str []),(0,.str s),(1,af a)] h) (.exit 0) (aj [(0,.str t)] h)):
  a5 an Tryz.f107 none call [] (aj [(0,.str s),(1,af a)] h) (.ret)
   (aj [(4,.str t)] h):=
 bN [4] [Hint.loop (bW.exit 0) (bL.mk [(0,ad.str t)] [] bU.none h)] 16 1 2 (hR H1 bM)
theorem abB(s:List UInt8)(a:Nat)(h:ab)(gw:Nat)(ez:Bool)(cZ:ab)
  (H1:cE 0 s.length=true)
  (bh:hX 0 s=some (b4 gw))
  (bD:call (.fn 113) [af a,b4 gw] h=bE.ret (.bool ez) cZ)
  (cm:(!ez)=true):
  a5 an Tryz.f107 none call [1,0,0,0] (aj [(0,.str s),(1,af a)] h) (.exit 0)
   (aj [(0,.str s),(1,af a)] cZ):=
 bN [0,1] [.o (J s.length),.b true,.v (b4 gw),.c (.bool ez) cZ,.b true] 16 5 144470 (mX (by kernel_rfl:bV an h 9 (ad.str s)=some (J s.length)) H1 bh bD cm bM)
theorem abC(s:List UInt8)(a:Nat)(h:ab)(gw:Nat)(ez:Bool)(cZ:ab)(e2:List UInt8)
  (H1:cE 0 s.length=true)
  (bh:hX 0 s=some (b4 gw))
  (bD:call (.fn 113) [af a,b4 gw] h=bE.ret (.bool ez) cZ)
  (cm:(!ez)=false)
  (cS:dC an cZ 9 (ad.str s) (some (J 1)) none none=some (ad.str e2)):
  a5 an Tryz.f107 none call [1,0,0,0] (aj [(0,.str s),(1,af a)] h) (.nrm)
   (aj [(0,.str e2),(1,af a)] cZ):=
 bN [0,1] [.o (J s.length),.b true,.v (b4 gw),.c (.bool ez) cZ,.b false,.v (.str e2)] 16 6 2311527 (wA (by kernel_rfl:bV an h 9 (ad.str s)=some (J s.length)) H1 bh bD cm cS bM)
theorem abD(s:List UInt8)(a:Nat)(h:ab)
  (H1:cE 0 s.length=false):
  a5 an Tryz.f107 none call [1,0,0,0] (aj [(0,.str s),(1,af a)] h) (.exit 0)
   (aj [(0,.str s),(1,af a)] h):=
 bN [0,1] [.o (J s.length),.b false] 16 2 35 (ji (by kernel_rfl:bV an h 9 (ad.str s)=some (J s.length)) H1 bM)
theorem abE(a n:Nat)(h:ab)(ez:Bool)
  (H1:Nat.le (Nat.succ n) 256)
  (bh:aq h a (0+n*1)=some (.bool ez)):
  a5 an Tryz.f113 none call [] (aj [(0,af a),(1,b4 n)] h) (.ret)
   (aj [(4,.bool ez)] h):=
 bN [4] [.v (.ptr a (0+n*1)),.v (.bool ez)] 16 2 35 (ji (⟨H1,rfl⟩:Nat.le (Nat.succ n) 256/\ad.ptr a (0+n*1)=ad.ptr a (0+n*1)) bh bM)
theorem abF(s o:List UInt8)(i:Int)(h g:ab)
  (H1:call (.fn 111) [.str s,.str o] h=bE.ret (.int .i64 i) g):
  a5 an Tryz.f85 none call [] (aj [(0,.str s),(1,.str o)] h) (.ret)
   (aj [(4,.bool (j5 (.ofNat 0) i))] g):=
 bN [4] [.c (.int .i64 i) g] 16 1 2 (hR H1 bM)
theorem abG(s o:List UInt8)(i:Int)(h g:ab)
  (H1:call (.fn 117) [.str s,.str o] h=bE.ret (.int .i64 i) g):
  a5 an Tryz.f111 none call [] (aj [(0,.str s),(1,.str o)] h) (.ret)
   (aj [(4,.int .i64 i)] g):=
 bN [4] [.c (.int .i64 i) g] 16 1 2 (hR H1 bM)
theorem abH(s:List UInt8)(c:UInt8)(i:Int)(h g:ab)
  (H1:c1 [c] s=false)
  (bh:hX 0 [c]=some (b4 (BitVec.toFin (UInt8.toBitVec c)).1))
  (bD:call (.fn 121) [.str s,b4 (BitVec.toFin (UInt8.toBitVec c)).1] h=bE.ret (.int .i64 i) g):
  a5 an Tryz.f117 none call [] (aj [(0,.str s),(1,.str [c])] h) (.ret)
   (aj [(4,.int .i64 i)] g):=
 bN [4] (cv 6 1 [.v (b4 (UInt8.toNat c)),.c (.int .i64 i) g]) 16 8 572666966 (mX (by kernel_rfl:bQ 1 0=false) H1 (by kernel_rfl:bQ 1 1=true) bh bD bM)
theorem abI(s:List UInt8)(n:Nat)(i:Int)(h g:ab)
  (H1:call (.fn 127) [.str s,b4 n] h=bE.ret (.int .i64 i) g):
  a5 an Tryz.f121 none call [] (aj [(0,.str s),(1,b4 n)] h) (.ret)
   (aj [(4,.int .i64 i)] g):=
 bN [4] [.c (.int .i64 i) g] 16 1 2 (hR H1 bM)
theorem abJ(m:Nat)(s o:List UInt8)(n:Nat)(h:ab)(H:
  ((!c1 s [])=true->
    ((List.length s)<=n->
      List.length [97,98,99,100,101,102,103,104,105,106,107,108,109,110,111,112,113,114,115,116,117,118,119,120,121,122,65,66,67,68,69,70,71,72,73,74,75,76,77,78,79,80,81,82,83,84,85,86,87,88,89,90,48,49,50,51,52,53,54,55,56,57,95]+List.length o<=1000000000000/\
      ∃(mw:List UInt8) (cZ:ab),(Y m) (ff.fn 83) [ad.str s,ad.str ([97,98,99,100,101,102,103,104,105,106,107,108,109,110,111,112,113,114,115,116,117,118,119,120,121,122,65,66,67,68,69,70,71,72,73,74,75,76,77,78,79,80,81,82,83,84,85,86,87,88,89,90,48,49,50,51,52,53,54,55,56,57,95]++o)] h=bE.ret (ad.str mw) cZ/\
      R (bE.ret (ad.bool (c1 mw [])) cZ))/\
    (¬(List.length s)<=n->
     R (bE.ret (ad.bool false) h)))/\
  ((!c1 s [])=false->
    R (bE.ret (ad.bool false) h))):
  R (Y (m+1) (.fn 64) [ad.str s,ad.str o,J n] h):=by
 rcases Bool.eq_false_or_eq_true ((!c1 s [])) with I|I
 · have H:=H.1 I
   by_cases ae:(List.length s)<=n
   · have H:=H.1 ae
     obtain⟨ax,H⟩:=H
     obtain⟨mw,cZ,aN,H⟩:=H
     rw[show Y (m+1) (.fn 64) [ad.str s,ad.str o,J n] h=_ from nk (intr:=ea) (n:=m) (args:=[ad.str s,ad.str o,J n]) Tryz.func64 (by kernel_rfl) (by kernel_rfl) (by kernel_rfl) (abq (Y m) s o n h ([97,98,99,100,101,102,103,104,105,106,107,108,109,110,111,112,113,114,115,116,117,118,119,120,121,122,65,66,67,68,69,70,71,72,73,74,75,76,77,78,79,80,81,82,83,84,85,86,87,88,89,90,48,49,50,51,52,53,54,55,56,57,95]++o) mw cZ I (n8 ae) (iR ax) aN) (.inl rfl) (by kernel_rfl)];exact H
   · have H:=H.2 ae
     rw[show Y (m+1) (.fn 64) [ad.str s,ad.str o,J n] h=_ from nk (intr:=ea) (n:=m) (args:=[ad.str s,ad.str o,J n]) Tryz.func64 (by kernel_rfl) (by kernel_rfl) (by kernel_rfl) (abr (Y m) s o n h I (pS ae)) (.inl rfl) (by kernel_rfl)];exact H
 · have H:=H.2 I
   rw[show Y (m+1) (.fn 64) [ad.str s,ad.str o,J n] h=_ from nk (intr:=ea) (n:=m) (args:=[ad.str s,ad.str o,J n]) Tryz.func64 (by kernel_rfl) (by kernel_rfl) (by kernel_rfl) (abt (Y m) s o n h I) (.inl rfl) (by kernel_rfl)];exact H
theorem abK(m:Nat)(s:List UInt8)(h:ab)(H:
  ∃(ez:Bool) (cZ:ab),(Y m) (ff.fn 64) [ad.str s,ad.str [],J 24] h=bE.ret (ad.bool ez) cZ/\
  (ez=true->
   ∃(e2:List UInt8),dC an cZ 9 (ad.str s) none (some (J 1)) none=some (ad.str e2)/\
   ∃(u2:Bool) (iV:ab),(Y m) (ff.fn 85) [ad.str [48,49,50,51,52,53,54,55,56,57],ad.str e2] cZ=bE.ret (ad.bool u2) iV/\
   R (bE.ret (ad.bool !u2) iV))/\
  (ez=false->
   R (bE.ret (ad.bool false) cZ))):
  R (Y (m+1) (.fn 67) [ad.str s] h):=by
 obtain⟨ez,cZ,I,H⟩:=H
 rcases Bool.eq_false_or_eq_true (ez) with ae|ae
 · have H:=H.1 ae
   obtain⟨e2,ax,H⟩:=H
   obtain⟨u2,iV,aN,H⟩:=H
   rw[show Y (m+1) (.fn 67) [ad.str s] h=_ from nk (intr:=ea) (n:=m) (args:=[ad.str s]) Tryz.func67 (by kernel_rfl) (by kernel_rfl) (by kernel_rfl) (abu (Y m) s h ez cZ e2 u2 iV I ae ax aN) (.inl rfl) (by kernel_rfl)];exact H
 · have H:=H.2 ae
   rw[show Y (m+1) (.fn 67) [ad.str s] h=_ from nk (intr:=ea) (n:=m) (args:=[ad.str s]) Tryz.func67 (by kernel_rfl) (by kernel_rfl) (by kernel_rfl) (abv (Y m) s h ez cZ I ae) (.inl rfl) (by kernel_rfl)];exact H
theorem abL(m:Nat)(s o:List UInt8)(h:ab)(H:
  c1 s []=false/\
  c1 o []=false/\
  ¬(List.length o)=1/\
  ∃(l:List ad),(Y m) (ff.fn 106) [ad.str o] h=bE.ret (ad.aR [ad.agg l,ad.bool true]) h/\
  ∃(cZ:ab),(some 256=some (List.length l)/\bg.storeCells (ab.push h (dQ.cells (List.replicate 256 (ad.bool false)) 144 hb.own 0 0)) (ab.n h) 0 l=some cZ/\ad.aR []=ad.aR [])/\
  ∃(e2:List UInt8) (iV:ab),(Y m) (ff.fn 108) [ad.str s,ad.ptr (ab.n h) 0] cZ=bE.ret (ad.str e2) iV/\
  ∃(mw:List UInt8) (u3:ab),(Y m) (ff.fn 107) [ad.str e2,ad.ptr (ab.n h) 0] iV=bE.ret (ad.str mw) u3/\
  R (bE.ret (ad.str mw) u3)):
  R (Y (m+1) (.fn 83) [ad.str s,ad.str o] h):=by
 obtain⟨I,H⟩:=H
 obtain⟨ae,H⟩:=H
 obtain⟨ax,H⟩:=H
 obtain⟨l,aN,H⟩:=H
 obtain⟨cZ,bS,H⟩:=H
 obtain⟨e2,iV,cz,H⟩:=H
 obtain⟨mw,u3,dw,H⟩:=H
 rw[show Y (m+1) (.fn 83) [ad.str s,ad.str o] h=_ from nk (intr:=ea) (n:=m) (args:=[ad.str s,ad.str o]) Tryz.func83 (by kernel_rfl) (by kernel_rfl) (by kernel_rfl) (trim (Y m) s o l h cZ e2 iV mw u3 I ae (kS ax) aN bS cz dw) (.inl rfl) (by kernel_rfl)];exact H
theorem abM(m:Nat)(s:List UInt8)(a:Nat)(h:ab)(H:
  bp an Tryz.f108 (Y m) [1,0,0] (bL.mk [(4,ad.str []),(0,ad.str s),(1,ad.ptr a 0)] [] bU.none h) (λb2 cc=>
   (∃(t:List UInt8) (cD:Env),b2=(bW.exit 0)/\cc=(bL.mk cD [] bU.none h)/\bY [(0,ad.str t)] cD/\
    R (bE.ret (ad.str t) h)))):
  R (Y (m+1) (.fn 108) [ad.str s,ad.ptr a 0] h):=by
 obtain⟨b2,cc,I,H⟩:=H
 obtain⟨t,cD,rfl,rfl,cn,H⟩:=H
 replace I:=dA.post I cn
 rw[show Y (m+1) (.fn 108) [ad.str s,ad.ptr a 0] h=_ from nk (intr:=ea) (n:=m) (args:=[ad.str s,ad.ptr a 0]) Tryz.func108 (by kernel_rfl) (by kernel_rfl) (by kernel_rfl) (abw (Y m) s t a h I) (.inl rfl) (by kernel_rfl)];exact H
theorem abN(s:List UInt8)(a:Nat)(h:ab)(H:
  (0<(List.length s)->
   (1<=(List.length s)/\(List.length s)<9223372036854775808)/\
   ∃(pd:Nat),hX ((List.length s)-1) s=some (b4 pd)/\
   ∃(ez:Bool) (cZ:ab),call (ff.fn 113) [ad.ptr a 0,b4 pd] h=bE.ret (ad.bool ez) cZ/\
   ((!ez)=true->
     Q (bW.exit 0) (bL.mk [(0,ad.str s),(1,ad.ptr a 0)] [] bU.none cZ))/\
   ((!ez)=false->
     ∃(e2:List UInt8),dC an cZ 9 (ad.str s) none (some (J ((List.length s)-1))) none=some (ad.str e2)/\
     Q (bW.nrm) (bL.mk [(0,ad.str e2),(1,ad.ptr a 0)] [] bU.none cZ)))/\
  (¬0<(List.length s)->
   Q (bW.exit 0) (bL.mk [(0,ad.str s),(1,ad.ptr a 0)] [] bU.none h))):
  bp an Tryz.f108 call [1,0,0,0] (bL.mk [(0,ad.str s),(1,ad.ptr a 0)] [] bU.none h) Q:=by
 by_cases I:0<(List.length s)
 · have H:=H.1 I
   obtain⟨ae,H⟩:=H
   obtain⟨pd,ax,H⟩:=H
   obtain⟨ez,cZ,aN,H⟩:=H
   rcases Bool.eq_false_or_eq_true ((!ez)) with bS|bS
   · have H:=H.1 bS
     exact bp.of (abx call s a h ((List.length s)-1) pd ez cZ (eD I) (yw ae.1 ae.2) ax aN bS) H
   · have H:=H.2 bS
     obtain⟨e2,cz,H⟩:=H
     exact bp.of (aby call s a h ((List.length s)-1) pd ez cZ e2 (eD I) (yw ae.1 ae.2) ax aN bS cz) H
 · have H:=H.2 I
   exact bp.of (abz call s a h (fI I)) H
theorem abO(m:Nat)(s:List UInt8)(a:Nat)(h:ab)(H:
  bp an Tryz.f107 (Y m) [1,0,0] (bL.mk [(4,ad.str []),(0,ad.str s),(1,ad.ptr a 0)] [] bU.none h) (λb2 cc=>
   (∃(t:List UInt8) (cD:Env),b2=(bW.exit 0)/\cc=(bL.mk cD [] bU.none h)/\bY [(0,ad.str t)] cD/\
    R (bE.ret (ad.str t) h)))):
  R (Y (m+1) (.fn 107) [ad.str s,ad.ptr a 0] h):=by
 obtain⟨b2,cc,I,H⟩:=H
 obtain⟨t,cD,rfl,rfl,cn,H⟩:=H
 replace I:=dA.post I cn
 rw[show Y (m+1) (.fn 107) [ad.str s,ad.ptr a 0] h=_ from nk (intr:=ea) (n:=m) (args:=[ad.str s,ad.ptr a 0]) Tryz.func107 (by kernel_rfl) (by kernel_rfl) (by kernel_rfl) (abA (Y m) s t a h I) (.inl rfl) (by kernel_rfl)];exact H
theorem abP(s:List UInt8)(a:Nat)(h:ab)(H:
  (0<(List.length s)->
   ∃(gw:Nat),hX 0 s=some (b4 gw)/\
   ∃(ez:Bool) (cZ:ab),call (ff.fn 113) [ad.ptr a 0,b4 gw] h=bE.ret (ad.bool ez) cZ/\
   ((!ez)=true->
     Q (bW.exit 0) (bL.mk [(0,ad.str s),(1,ad.ptr a 0)] [] bU.none cZ))/\
   ((!ez)=false->
     ∃(e2:List UInt8),dC an cZ 9 (ad.str s) (some (J 1)) none none=some (ad.str e2)/\
     Q (bW.nrm) (bL.mk [(0,ad.str e2),(1,ad.ptr a 0)] [] bU.none cZ)))/\
  (¬0<(List.length s)->
   Q (bW.exit 0) (bL.mk [(0,ad.str s),(1,ad.ptr a 0)] [] bU.none h))):
  bp an Tryz.f107 call [1,0,0,0] (bL.mk [(0,ad.str s),(1,ad.ptr a 0)] [] bU.none h) Q:=by
 by_cases I:0<(List.length s)
 · have H:=H.1 I
   obtain⟨gw,ae,H⟩:=H
   obtain⟨ez,cZ,ax,H⟩:=H
   rcases Bool.eq_false_or_eq_true ((!ez)) with aN|aN
   · have H:=H.1 aN
     exact bp.of (abB call s a h gw ez cZ (eD I) ae ax aN) H
   · have H:=H.2 aN
     obtain⟨e2,bS,H⟩:=H
     exact bp.of (abC call s a h gw ez cZ e2 (eD I) ae ax aN bS) H
 · have H:=H.2 I
   exact bp.of (abD call s a h (fI I)) H
theorem abQ(m a n:Nat)(h:ab)(H:
  n<256/\
  ∃(ez:Bool),aq h a (0+n*1)=some (ad.bool ez)/\
  R (bE.ret (ad.bool ez) h)):
  R (Y (m+1) (.fn 113) [ad.ptr a 0,b4 n] h):=by
 obtain⟨I,H⟩:=H
 obtain⟨ez,ae,H⟩:=H
 rw[show Y (m+1) (.fn 113) [ad.ptr a 0,b4 n] h=_ from nk (intr:=ea) (n:=m) (args:=[ad.ptr a 0,b4 n]) Tryz.func113 (by kernel_rfl) (by kernel_rfl) (by kernel_rfl) (abE (Y m) a n h ez I ae) (.inl rfl) (by kernel_rfl)];exact H
theorem abR(m:Nat)(s o:List UInt8)(h:ab)(H:
  ∃(i:Int) (g:ab),(Y m) (ff.fn 111) [ad.str s,ad.str o] h=bE.ret (ad.int IntKind.i64 i) g/\
  R (bE.ret (ad.bool (j5 (Int.ofNat 0) i)) g)):
  R (Y (m+1) (.fn 85) [ad.str s,ad.str o] h):=by
 obtain⟨i,g,I,H⟩:=H
 rw[show Y (m+1) (.fn 85) [ad.str s,ad.str o] h=_ from nk (intr:=ea) (n:=m) (args:=[ad.str s,ad.str o]) Tryz.func85 (by kernel_rfl) (by kernel_rfl) (by kernel_rfl) (abF (Y m) s o i h g I) (.inl rfl) (by kernel_rfl)];exact H
theorem abS(m:Nat)(s o:List UInt8)(h:ab)(H:
  ∃(i:Int) (g:ab),(Y m) (ff.fn 117) [ad.str s,ad.str o] h=bE.ret (ad.int IntKind.i64 i) g/\
  R (bE.ret (ad.int IntKind.i64 i) g)):
  R (Y (m+1) (.fn 111) [ad.str s,ad.str o] h):=by
 obtain⟨i,g,I,H⟩:=H
 rw[show Y (m+1) (.fn 111) [ad.str s,ad.str o] h=_ from nk (intr:=ea) (n:=m) (args:=[ad.str s,ad.str o]) Tryz.func111 (by kernel_rfl) (by kernel_rfl) (by kernel_rfl) (abG (Y m) s o i h g I) (.inl rfl) (by kernel_rfl)];exact H
theorem abT(m:Nat)(s:List UInt8)(c:UInt8)(h:ab)(H:
  c1 [c] s=false/\
  hX 0 [c]=some (b4 (BitVec.toFin (UInt8.toBitVec c)).1)/\
  ∃(i:Int) (g:ab),(Y m) (ff.fn 121) [ad.str s,b4 (BitVec.toFin (UInt8.toBitVec c)).1] h=bE.ret (ad.int IntKind.i64 i) g/\
  R (bE.ret (ad.int IntKind.i64 i) g)):
  R (Y (m+1) (.fn 117) [ad.str s,ad.str [c]] h):=by
 obtain⟨I,H⟩:=H
 obtain⟨ae,H⟩:=H
 obtain⟨i,g,ax,H⟩:=H
 rw[show Y (m+1) (.fn 117) [ad.str s,ad.str [c]] h=_ from nk (intr:=ea) (n:=m) (args:=[ad.str s,ad.str [c]]) Tryz.func117 (by kernel_rfl) (by kernel_rfl) (by kernel_rfl) (abH (Y m) s c i h g I ae ax) (.inl rfl) (by kernel_rfl)];exact H
theorem abU(m:Nat)(s:List UInt8)(n:Nat)(h:ab)(H:
  ∃(i:Int) (g:ab),(Y m) (ff.fn 127) [ad.str s,b4 n] h=bE.ret (ad.int IntKind.i64 i) g/\
  R (bE.ret (ad.int IntKind.i64 i) g)):
  R (Y (m+1) (.fn 121) [ad.str s,b4 n] h):=by
 obtain⟨i,g,I,H⟩:=H
 rw[show Y (m+1) (.fn 121) [ad.str s,b4 n] h=_ from nk (intr:=ea) (n:=m) (args:=[ad.str s,b4 n]) Tryz.func121 (by kernel_rfl) (by kernel_rfl) (by kernel_rfl) (abI (Y m) s n i h g I) (.inl rfl) (by kernel_rfl)];exact H
theorem Jn:an.underlying 9=some .string:=by kernel_rfl
theorem abV(m:Nat)(h:ab):Y (m+1) (.fn 106) [.str qP] h=.ret (.aR [.agg (l4 r3),.bool true]) h:=by
 have e:ea 106 [.str qP] h=some (.aR [.agg (l4 r3),.bool true],h):=by kernel_rfl
 unfold Y;simp only[fF,e]
theorem abW(m:Nat)(h:ab):Y (m+1) (.fn 106) [.str (qP++[45,47,46])] h=.ret (.aR [.agg (l4 lF),.bool true]) h:=by
 have e:ea 106 [.str (qP++[45,47,46])] h=some (.aR [.agg (l4 lF),.bool true],h):=by kernel_rfl
 unfold Y;simp only[fF,e]
theorem E7(p:Nat->Bool):(l4 p).length=256:=by simp[l4]
def E8(h:ab)(a:Nat)(p:Nat->Bool):Prop:=h.get a=some (aQ (l4 p) 144)
theorem Qp(m a n:Nat)(p:Nat->Bool)(h:ab)(aH:n<256)(aV:E8 h a p):Y (m+1) (.fn 113) [.ptr a 0,b4 n] h=.ret (.bool (p n)) h:=
 abQ m a n h (R:=λx=>x=_) ⟨aH,_,lb aV (by rw[show 0+n*1=n by omega];simp[l4,aH]),rfl⟩
theorem abX(p:Nat->Bool)(s:bb)(al:0<s.length)(aA:p (s[s.length-1]'(by omega)).toNat=true):(s.take (s.length-1)).all (λc=>p c.toNat)=s.all (λc=>p c.toNat):=by
 have e:s=s.take (s.length-1)++[s[s.length-1]'(by omega)]:=by
  have:=List.take_append_drop (s.length-1) s
  rw[List.drop_eq_getElem_cons (by omega),List.drop_of_length_le (by omega)] at this
  exact this.symm
 conv=>rhs;rw[e]
 rw[List.all_append];simp[aA]
theorem Qq{s:bb}{i:Nat}(h:i<s.length):hX i s=some (b4 (s[i]).toNat):=pQ h
theorem abY(m a:Nat)(p:Nat->Bool)(s:bb)(h:ab)(al:s.length<=90000)(aV:E8 h a p):∃t,Y (m+2) (.fn 108) [.str s,.ptr a 0] h=.ret (.str t) h/\t.length<=s.length/\t.all (λc=>p c.toNat)=s.all (λc=>p c.toNat)/\(t.all (λc=>p c.toNat)=true->t=[]):=by
 refine abM (m+1) s a h (R:=λx=>∃t,x=.ret (.str t) h/\t.length<=s.length/\t.all (λc=>p c.toNat)=s.all (λc=>p c.toNat)/\(t.all (λc=>p c.toNat)=true->t=[])) ?_
 refine e8 (λk st=>∃(t:bb) (Γ:Env),st=aks Γ h/\bY [(0,.str t),(1,.ptr a 0)] Γ/\t.length=k/\t.length<=s.length/\t.all (λc=>p c.toNat)=s.all (λc=>p c.toNat)) ?_ s.length _ (by omega) ⟨s,_,rfl,⟨rfl,rfl,trivial⟩,rfl,Nat.le_refl _,rfl⟩
 rintro k st ⟨t,Γ,rfl,cn,ay,aA,aK⟩
 refine ei (abN (Y (m+1)) t a h ⟨λh0=>⟨⟨by omega,by omega⟩,_,Qq (by omega),_,_,Qp m a _ p h (UInt8.toNat_lt _) aV,λah=>?_,λah=>?_⟩,λh0=>?_⟩) cn
 · refine⟨t,_,rfl,rfl,⟨rfl,trivial⟩,t,rfl,aA,aK,λI=>?_⟩
   have:=List.all_eq_true.1 I _ (List.getElem_mem (show t.length-1<t.length by omega))
   simp[this] at ah
 · have qn:p (t[t.length-1]'(by omega)).toNat=true:=by simpa using ah
   refine⟨_,Ov Jn (by omega),_,(by show _<k;simp;omega),_,_,rfl,⟨rfl,rfl,trivial⟩,rfl,by simp;omega,by rw[abX p t h0 qn,aK]⟩
 · obtain rfl:t=[]:=List.eq_nil_of_length_eq_zero (by omega)
   exact⟨[],_,rfl,rfl,⟨rfl,trivial⟩,[],rfl,aA,aK,λ_=>rfl⟩
theorem abZ(m a:Nat)(p:Nat->Bool)(s:bb)(h:ab)(al:s.length<=90000)(aV:E8 h a p):∃t,Y (m+2) (.fn 107) [.str s,.ptr a 0] h=.ret (.str t) h/\t.all (λc=>p c.toNat)=s.all (λc=>p c.toNat)/\(t.all (λc=>p c.toNat)=true->t=[]):=by
 refine abO (m+1) s a h (R:=λx=>∃t,x=.ret (.str t) h/\t.all (λc=>p c.toNat)=s.all (λc=>p c.toNat)/\(t.all (λc=>p c.toNat)=true->t=[])) ?_
 refine e8 (λk st=>∃(t:bb) (Γ:Env),st=aks Γ h/\bY [(0,.str t),(1,.ptr a 0)] Γ/\t.length=k/\t.all (λc=>p c.toNat)=s.all (λc=>p c.toNat)) ?_ s.length _ (by omega) ⟨s,_,rfl,⟨rfl,rfl,trivial⟩,rfl,rfl⟩
 rintro k st ⟨t,Γ,rfl,cn,ay,aK⟩
 refine ei (abP (Y (m+1)) t a h ⟨λh0=>⟨_,Qq h0,_,_,Qp m a _ p h (UInt8.toNat_lt _) aV,λah=>?_,λah=>?_⟩,λh0=>?_⟩) cn
 · refine⟨t,_,rfl,rfl,⟨rfl,trivial⟩,t,rfl,aK,λI=>?_⟩
   have:=List.all_eq_true.1 I _ (List.getElem_mem h0)
   simp[this] at ah
 · have qn:p (t[0]'h0).toNat=true:=by simpa using ah
   refine⟨_,Xt Jn (by omega),_,(by show _<k;simp;omega),_,_,rfl,⟨rfl,rfl,trivial⟩,rfl,?_⟩
   rw[<-aK]
   cases t with
   |nil=>simp at h0
   |cons c t=>simp at qn;simp[qn]
 · obtain rfl:t=[]:=List.eq_nil_of_length_eq_zero (by omega)
   exact⟨[],_,rfl,rfl,⟨rfl,trivial⟩,[],rfl,aK,λ_=>rfl⟩
theorem y9(s:bb):c1 s []=decide (s=[]):=by cases s<;>simp[c1]
theorem Qr(m B:Nat)(p:Nat->Bool)(s o:bb)(h:ab)(dd:B<=h.n)(al:s.length<=90000)(h0:s≠[])(bc:o.length≠1)(aH:o≠[])(hm:Y (m+2) (.fn 106) [.str o] h=.ret (.aR [.agg (l4 p),.bool true]) h):
  ∃t aw,Y (m+3) (.fn 83) [.str s,.str o] h=.ret (.str t) aw/\c1 t []=s.all (λc=>p c.toNat)/\Ext B h aw:=by
 have st:bg.storeCells (h.push (aQ (List.replicate 256 (.bool false)) 144)) h.n 0 (l4 p)=some ((h.push (aQ (List.replicate 256 (.bool false)) 144)).set h.n (some (aQ (l4 p) 144))):=by
  refine eV (e7 rfl) (by rw[E7];rfl) ?_
  have:=H4 (l4 p) (List.replicate 256 (.bool false)) (by simp[l4,ad.de]) (by rw[E7];simp)
  rw[this,E7];simp
 obtain⟨g,ar⟩:∃g,g=(h.push (aQ (List.replicate 256 (.bool false)) 144)).set h.n (some (aQ (l4 p) 144)):=⟨_,rfl⟩
 rw[<-ar] at st
 have sG:E8 g h.n p:=by rw[ar];exact eK rfl
 have jX:Ext B h g:=by rw[ar];exact(Ext.push dd _).hQ dd
 obtain⟨t,aM,bt,cu,aG⟩:=abY m h.n p s g al sG
 obtain⟨u,bf,cU,aE⟩:=abZ m h.n p t g (by omega) sG
 refine abL (m+2) s o h (R:=λx=>∃t aw,x=.ret (.str t) aw/\c1 t []=s.all (λc=>p c.toNat)/\Ext B h aw) ⟨by rw[y9];simp[h0],by rw[y9];simp[aH],bc,_,hm,_,⟨by rw[E7],st,rfl⟩,t,g,aM,u,g,bf,u,g,rfl,?_,jX⟩
 rw[y9,<-cu,<-cU]
 cases aK:u.all (λc=>p c.toNat) with
 |true=>simp[aE aK]
 |false=>
  cases u with
  |nil=>simp at aK
  |cons c u=>simp
theorem Qs(m B:Nat)(p:Nat->Bool)(s o:bb)(n:Nat)(h:ab)(dd:B<=h.n)(ajN:n<=90000)(bc:(o=[]/\p=r3)\/(o=[45,47,46]/\p=lF)):dq B h (.bool (decide (1<=s.length)&&decide (s.length<=n)&&s.all (λc=>p c.toNat))) (Y (m+4) (.fn 64) [.str s,.str o,J n] h):=by
 refine abJ (m+3) s o n h ⟨λI=>⟨λae=>?_,λae=>?_⟩,λI=>?_⟩
 · have h0:s≠[]:=by rw[y9] at I;simpa using I
   have a0:1<=s.length:=List.length_pos_iff.2 h0
   have key:∃t aw,Y (m+3) (.fn 83) [.str s,.str (qP++o)] h=.ret (.str t) aw/\c1 t []=s.all (λc=>p c.toNat)/\Ext B h aw:=by
    rcases bc with⟨rfl,rfl⟩|⟨rfl,rfl⟩
    · rw[List.append_nil]
      exact Qr m B r3 s qP h dd (by omega) h0 (by decide) (by decide) (abV _ h)
    · exact Qr m B lF s (qP++[45,47,46]) h dd (by omega) h0 (by decide) (by decide) (abW _ h)
   obtain⟨t,aw,c,e,x⟩:=key
   exact⟨by rcases bc with⟨rfl,_⟩|⟨rfl,_⟩<;>simp,t,aw,c,dq.of (jz (by rw[e];simp[a0,ae])) x⟩
 · exact dq.of (jz (by simp[ae])) (Ext.refl _ _)
 · have h0:s=[]:=by rw[y9] at I;simpa using I
   subst h0
   exact dq.of (jz (by simp)) (Ext.refl _ _)
end Go.Proofs.kh
