/-
  PROVED HERE: contracts of functions (Dh). No condition beside each statement's own.
-/
import Derived.Test.YtfooahfebojldaaGreatDoorSxa
import Derived.Test.YtfooahfebojldaaGreatDoorDg
import Derived.Test.YtfooahfebojldaaGreatDoorProg
set_option linter.unusedVariables false
set_option linter.unusedSimpArgs false
namespace Go.Proofs.gI
open Go aB
def jJ:Nat->Nat->List UInt8->List UInt8
 |_,0,acc=>acc
 |n,k+1,acc=>jJ (n/256) k (UInt8.ofNat (n %256)::acc)
theorem jh:∀(k n:Nat) (acc:List UInt8),(jJ n k acc).length=k+acc.length
 |0,n,acc=>by simp[jJ]
 |k+1,n,acc=>by rw[jJ,jh k];simp;omega
def iK(n:Nat):Nat->Nat->Nat
 |0,m=>m
 |k+1,m=>if n<256^m then m else iK n k (m+1)
theorem z_(n:Nat):∀(k m:Nat),m<=iK n k m/\iK n k m<=m+k
 |0,m=>by simp[iK]
 |k+1,m=>by
  have:=z_ n k (m+1)
  simp only[iK];split<;>omega
theorem D6(n:Nat):∀(k m:Nat),n<256^(m+k)->n<256^(iK n k m)
 |0,m,h=>by simpa[iK] using h
 |k+1,m,h=>by
  simp only[iK]
  split
  · assumption
  · exact D6 n k (m+1) (by have e:m+1+k=m+(k+1):=by omega
                           rw[e];exact h)
def iq(n:Nat):Nat:=iK n 5 3
def ct(n:Nat):List UInt8:=
 if n<=240 then jJ n 1 [] else if n<=2287 then jJ (241+(n-240)/256) 1 []++jJ ((n-240) %256) 1 []
 else if n<=67823 then jJ 249 1 []++jJ (n-2288) 2 [] else jJ (247+iq n) 1 []++jJ n (iq n) []
def gu(n:Nat):Nat×Nat×Nat×Nat:=
 if n<=240 then(0,240,0,0) else if n<=2287 then(240,2287,241,1) else if n<=67823 then(2288,67823,249,2)
 else(0,256^iq n-1,247+iq n,iq n)
def oO(n:Nat):List UInt8:=UInt8.ofNat (((gu n).2.2.1+(n-(gu n).1)/256^(gu n).2.2.2) %256)::jJ (n-(gu n).1) (gu n).2.2.2 []
theorem UR(n:Nat)(h:n<18446744073709551616):oO n=ct n:=by
 unfold oO ct gu
 by_cases aa:n<=240
 · simp only[if_pos aa,jJ,Nat.sub_zero,Nat.pow_zero,Nat.div_one,Nat.zero_add]
 · by_cases ad:n<=2287
   · simp only[if_neg aa,if_pos ad,jJ,Nat.pow_one,List.singleton_append,List.cons_append,List.nil_append]
     rw[Nat.mod_mod]
   · by_cases aw:n<=67823
     · have e:(n-2288)/256^2=0:=Nat.div_eq_of_lt (by omega)
       simp only[if_neg aa,if_neg ad,if_pos aw,e,Nat.add_zero]
       rfl
     · have hs:n<256^iq n:=D6 n 5 3 (by simpa using h)
       have e:n/256^iq n=0:=Nat.div_eq_of_lt hs
       simp only[if_neg aa,if_neg ad,if_neg aw,Nat.sub_zero,e,Nat.add_zero]
       rfl
theorem US(n:Nat)(h:n<18446744073709551616):(gu n).1<=n/\(gu n).2.2.2<=8/\n<=(gu n).2.1:=by
 unfold gu
 by_cases aa:n<=240
 · simp[aa]
 · by_cases ad:n<=2287
   · simp only[if_neg aa,if_pos ad];omega
   · by_cases aw:n<=67823
     · simp only[if_neg aa,if_neg ad,if_pos aw];omega
     · have hs:n<256^iq n:=D6 n 5 3 (by simpa using h)
       have:=z_ n 5 3
       simp only[if_neg aa,if_neg ad,if_neg aw]
       unfold iq at hs⊢
       omega
end Go.Proofs.gI
namespace Go.Proofs.gI
open Go aB
def xt(b:Nat):Nat:=if b<=240 then 0 else if b<=248 then 1 else if b=249 then 2 else b-247
def Aa:Nat->List UInt8->Nat
 |a,[]=>a
 |a,c::t=>Aa (a*256+c.toNat) t
def J3(b:Nat)(t:List UInt8):Nat:=if b<=240 then b else if b<=248 then 240+256*(b-241)+Aa 0 t else if b=249 then 2288+Aa 0 t else Aa 0 t
def rdNum:List UInt8->Option (Nat×List UInt8)
 |[]=>none
 |b::t=>if t.length<xt b.toNat then none else if ct (J3 b.toNat (t.take (xt b.toNat)))=b::t.take (xt b.toNat) then some (J3 b.toNat (t.take (xt b.toNat)),t.drop (xt b.toNat)) else none
abbrev j5:=Option (List UInt8)
def oP:j5->Nat×j5
 |none=>(0,none)
 |some s=>match rdNum s with
  |none=>(0,none)
  |some (n,r)=>(n,some r)
def pO(n:Nat):j5->List UInt8×j5
 |none=>([],none)
 |some s=>if n<=s.length then(s.take n,some (s.drop n)) else([],none)
def rk(st:j5):List UInt8×j5:=pO (oP st).1 (oP st).2
def left:j5->List UInt8
 |none=>[]
 |some s=>s
end Go.Proofs.gI
namespace Go.Proofs.dg
open Go aB Go.Proofs Go.Proofs.gI
set_option maxRecDepth 100000
theorem ae(call:aF->List I->J->ao)(n z:Nat)(s:List UInt8)(h ad:J)
  (H1:az Tryz.prog Tryz.f67 none call [1,1,0,1,0] (ah.mk [(6,.int .i64 (.ofNat 0)),(5,.str []),(4,.str []),(0,.int .u64 (.ofNat n)),(1,.int .i64 (.ofNat z))] [] .none h) (.exit 0) (ah.mk [(5,.str s)] [] .none ad)):
  az Tryz.prog Tryz.f67 none call [] (ah.mk [(0,.int .u64 (.ofNat n)),(1,.int .i64 (.ofNat z))] [] .none h) (.ret)
   (ah.mk [(4,.str s)] [] .none ad):=
 bh [4] (hs:=[Hint.loop (bw.exit 0) (ah.mk [(5,I.str s)] [] bE.none ad)]) (by kernel_rfl)<| .cons H1<| .nil
theorem UT(call:aF->List I->J->ao)(n z i c m:Nat)(s t t2:List UInt8)(h:J)(b3 dh:Nat)
  (H1:bD (.ofNat i) (.ofNat z)=true)
  (aE:arith .rem .u64 (.ofNat n) (.ofNat 256)=some (.int .u64 (.ofNat m)))
  (a3:et Tryz.prog 65 5 (I.int IntKind.u64 (Int.ofNat m)) h=e5.val (I.int IntKind.u8 (Int.ofNat c)) h)
  (aX:et Tryz.prog 98 9 (I.slice (J.n h) 0 1 (ch.exact 1)) (J.push h (cp.cells [I.int IntKind.u8 (Int.ofNat c)] 5 ey.own 0 0))=e5.val (I.str t) (J.push h (cp.cells [I.int IntKind.u8 (Int.ofNat c)] 5 ey.own 0 0)))
  (bA:eA .add t s=some (.str t2))
  (b_:arith .quo .u64 (.ofNat n) (.ofNat 256)=some (.int .u64 (.ofNat b3)))
  (cQ:arith .add .i64 (.ofNat i) (.ofNat 1)=some (.int .i64 (.ofNat dh))):
  az Tryz.prog Tryz.f67 none call [1,1,0,1,0,0] (ah.mk [(0,.int .u64 (.ofNat n)),(1,.int .i64 (.ofNat z)),(5,.str s),(6,.int .i64 (.ofNat i))] [] .none h) (.nrm)
   (ah.mk [(0,.int .u64 (.ofNat b3)),(1,.int .i64 (.ofNat z)),(5,.str t2),(6,.int .i64 (.ofNat dh))] [] .none (J.push h (.cells [.int .u8 (.ofNat c)] 5 .own 0 0))):=
 bh [0,1,5,6] (hs:=[.b true,.v (.int .u64 (.ofNat m)),.v (.int .u8 (.ofNat c)),.v (.str t),.v (.str t2),.v (.int .u64 (.ofNat b3)),.v (.int .i64 (.ofNat dh))]) (by kernel_rfl)<| .cons H1<| .cons aE<| .cons a3<| .cons aX<| .cons bA<| .cons b_<| .cons cQ<| .nil
theorem UU(call:aF->List I->J->ao)(n z i c m:Nat)(s t t2:List UInt8)(h:J)
  (H1:bD (.ofNat i) (.ofNat z)=false):
  az Tryz.prog Tryz.f67 none call [1,1,0,1,0,0] (ah.mk [(0,.int .u64 (.ofNat n)),(1,.int .i64 (.ofNat z)),(5,.str s),(6,.int .i64 (.ofNat i))] [] .none h) (.exit 0)
   (ah.mk [(0,.int .u64 (.ofNat n)),(1,.int .i64 (.ofNat z)),(5,.str s),(6,.int .i64 (.ofNat i))] [] .none h):=
 bh [0,1,5,6] (hs:=[.b false]) (by kernel_rfl)<| .cons H1<| .nil
theorem UW(call:aF->List I->J->ao)(n m:Nat)(s:List UInt8)(h:J)(cK:List UInt8)(bc:J)(er:List UInt8)
  (H1:dv (.ofNat n) (.ofNat 240)=true)
  (aE:call (.fn 67) [.int .u64 (.ofNat n),.int .i64 (.ofNat 1)] h=ao.ret (.str cK) bc)
  (a3:eA .add s cK=some (.str er)):
  az Tryz.prog Tryz.f44 none call [] (ah.mk [(0,.str s),(1,.int .u64 (.ofNat n))] [] .none h) (.ret)
   (ah.mk [(4,.str er)] [] .none bc):=
 bh [4] (hs:=[.b true,.c (.str cK) bc,.v (.str er)]) (by kernel_rfl)<| .cons H1<| .cons aE<| .cons a3<| .nil
theorem UX(call:aF->List I->J->ao)(n m:Nat)(s:List UInt8)(h:J)(b3 dh fe:Nat)(cK:List UInt8)(bc:J)(er:List UInt8)(gh:Nat)(nR:List UInt8)(dj:J)(nS:List UInt8)
  (H1:dv (.ofNat n) (.ofNat 240)=false)
  (aE:dv (.ofNat n) (.ofNat 2287)=true)
  (a3:arith .sub .u64 (.ofNat n) (.ofNat 240)=some (.int .u64 (.ofNat b3)))
  (aX:arith .quo .u64 (.ofNat b3) (.ofNat 256)=some (.int .u64 (.ofNat dh)))
  (bA:arith .add .u64 (.ofNat 241) (.ofNat dh)=some (.int .u64 (.ofNat fe)))
  (b_:call (.fn 67) [.int .u64 (.ofNat fe),.int .i64 (.ofNat 1)] h=ao.ret (.str cK) bc)
  (cQ:eA .add s cK=some (.str er))
  (ep:arith .rem .u64 (.ofNat b3) (.ofNat 256)=some (.int .u64 (.ofNat gh)))
  (gQ:call (.fn 67) [.int .u64 (.ofNat gh),.int .i64 (.ofNat 1)] bc=ao.ret (.str nR) dj)
  (jc:eA .add er nR=some (.str nS)):
  az Tryz.prog Tryz.f44 none call [] (ah.mk [(0,.str s),(1,.int .u64 (.ofNat n))] [] .none h) (.ret)
   (ah.mk [(4,.str nS)] [] .none dj):=
 bh [4] (hs:=[.b false,.b true,.v (.int .u64 (.ofNat b3)),.v (.int .u64 (.ofNat dh)),.v (.int .u64 (.ofNat fe)),.c (.str cK) bc,.v (.str er),.v (.int .u64 (.ofNat b3)),.v (.int .u64 (.ofNat gh)),.c (.str nR) dj,.v (.str nS)]) (by kernel_rfl)<| .cons H1<| .cons aE<| .cons a3<| .cons aX<| .cons bA<| .cons b_<| .cons cQ<| .cons a3<| .cons ep<| .cons gQ<| .cons jc<| .nil
theorem UY(call:aF->List I->J->ao)(n m:Nat)(s:List UInt8)(h:J)(cK:List UInt8)(bc:J)(er:List UInt8)(b3:Nat)(nR:List UInt8)(dj:J)(nS:List UInt8)
  (H1:dv (.ofNat n) (.ofNat 240)=false)
  (aE:dv (.ofNat n) (.ofNat 2287)=false)
  (a3:dv (.ofNat n) (.ofNat 67823)=true)
  (aX:call (.fn 67) [.int .u64 (.ofNat 249),.int .i64 (.ofNat 1)] h=ao.ret (.str cK) bc)
  (bA:eA .add s cK=some (.str er))
  (b_:arith .sub .u64 (.ofNat n) (.ofNat 2288)=some (.int .u64 (.ofNat b3)))
  (cQ:call (.fn 67) [.int .u64 (.ofNat b3),.int .i64 (.ofNat 2)] bc=ao.ret (.str nR) dj)
  (ep:eA .add er nR=some (.str nS)):
  az Tryz.prog Tryz.f44 none call [] (ah.mk [(0,.str s),(1,.int .u64 (.ofNat n))] [] .none h) (.ret)
   (ah.mk [(4,.str nS)] [] .none dj):=
 bh [4] (hs:=[.b false,.b false,.b true,.c (.str cK) bc,.v (.str er),.v (.int .u64 (.ofNat b3)),.c (.str nR) dj,.v (.str nS)]) (by kernel_rfl)<| .cons H1<| .cons aE<| .cons a3<| .cons aX<| .cons bA<| .cons b_<| .cons cQ<| .cons ep<| .nil
theorem UZ(call:aF->List I->J->ao)(n m:Nat)(s:List UInt8)(h:J)(b3 dh:Nat)(cK:List UInt8)(bc:J)(er nR:List UInt8)(dj:J)(nS:List UInt8)
  (H1:dv (.ofNat n) (.ofNat 240)=false)
  (aE:dv (.ofNat n) (.ofNat 2287)=false)
  (a3:dv (.ofNat n) (.ofNat 67823)=false)
  (aX:az Tryz.prog Tryz.f44 none call [1,1,1,0,0] (ah.mk [(5,.int .i64 (.ofNat 3)),(28,.bool (dv (.ofNat n) (.ofNat 67823))),(13,.bool (dv (.ofNat n) (.ofNat 2287))),(6,.bool (dv (.ofNat n) (.ofNat 240))),(4,.str []),(0,.str s),(1,.int .u64 (.ofNat n))] [] .none h) (.exit 1) (ah.mk [(0,.str s),(1,.int .u64 (.ofNat n)),(5,.int .i64 (.ofNat m))] [] .none h))
  (bA:arith .add .i64 (.ofNat 247) (.ofNat m)=some (.int .i64 (.ofNat b3)))
  (b_:et Tryz.prog 3 65 (I.int IntKind.i64 (Int.ofNat b3)) h=e5.val (I.int IntKind.u64 (Int.ofNat dh)) h)
  (cQ:call (.fn 67) [.int .u64 (.ofNat dh),.int .i64 (.ofNat 1)] h=ao.ret (.str cK) bc)
  (ep:eA .add s cK=some (.str er))
  (gQ:call (.fn 67) [.int .u64 (.ofNat n),.int .i64 (.ofNat m)] bc=ao.ret (.str nR) dj)
  (jc:eA .add er nR=some (.str nS)):
  az Tryz.prog Tryz.f44 none call [] (ah.mk [(0,.str s),(1,.int .u64 (.ofNat n))] [] .none h) (.ret)
   (ah.mk [(4,.str nS)] [] .none dj):=
 bh [4] (hs:=[Hint.b false,Hint.b false,Hint.b false,Hint.loop (bw.exit 1) (ah.mk [(0,I.str s),(1,I.int IntKind.u64 (Int.ofNat n)),(5,I.int IntKind.i64 (Int.ofNat m))] [] bE.none h),Hint.v (I.int IntKind.i64 (Int.ofNat b3)),Hint.v (I.int IntKind.u64 (Int.ofNat dh)),Hint.c (I.str cK) bc,Hint.v (I.str er),Hint.c (I.str nR) dj,Hint.v (I.str nS)]) (by kernel_rfl)<| .cons H1<| .cons aE<| .cons a3<| .cons aX<| .cons bA<| .cons b_<| .cons cQ<| .cons ep<| .cons gQ<| .cons jc<| .nil
theorem U0(call:aF->List I->J->ao)(n m:Nat)(s:List UInt8)(h:J)(b3 dh fe:Nat)
  (H1:bD (.ofNat m) (.ofNat 8)=true)
  (aE:arith .mul .i64 (.ofNat 8) (.ofNat m)=some (.int .i64 (.ofNat b3)))
  (a3:mw .shr .u64 (.ofNat n) (.ofNat b3)=some (.int .u64 (.ofNat dh)))
  (aX:bD (.ofNat 0) (.ofNat dh)=true)
  (bA:arith .add .i64 (.ofNat m) (.ofNat 1)=some (.int .i64 (.ofNat fe))):
  az Tryz.prog Tryz.f44 none call [1,1,1,0,0,0] (ah.mk [(0,.str s),(1,.int .u64 (.ofNat n)),(5,.int .i64 (.ofNat m))] [] .none h) (.nrm)
   (ah.mk [(0,.str s),(1,.int .u64 (.ofNat n)),(5,.int .i64 (.ofNat fe))] [] .none h):=
 bh [0,1,5] (hs:=[.b true,.b true,.b true,.v (.int .i64 (.ofNat b3)),.b true,.v (.int .u64 (.ofNat dh)),.b true,.b true,.b true,.v (.int .i64 (.ofNat fe))]) (by kernel_rfl)<| .cons H1<| .cons H1<| .cons H1<| .cons aE<| .cons H1<| .cons a3<| .cons H1<| .cons H1<| .cons aX<| .cons bA<| .nil
theorem U1(call:aF->List I->J->ao)(n m:Nat)(s:List UInt8)(h:J)(b3 dh:Nat)
  (H1:bD (.ofNat m) (.ofNat 8)=true)
  (aE:arith .mul .i64 (.ofNat 8) (.ofNat m)=some (.int .i64 (.ofNat b3)))
  (a3:mw .shr .u64 (.ofNat n) (.ofNat b3)=some (.int .u64 (.ofNat dh)))
  (aX:bD (.ofNat 0) (.ofNat dh)=false):
  az Tryz.prog Tryz.f44 none call [1,1,1,0,0,0] (ah.mk [(0,.str s),(1,.int .u64 (.ofNat n)),(5,.int .i64 (.ofNat m))] [] .none h) (.exit 1)
   (ah.mk [(0,.str s),(1,.int .u64 (.ofNat n)),(5,.int .i64 (.ofNat m))] [] .none h):=
 bh [0,1,5] (hs:=[.b true,.b true,.b true,.v (.int .i64 (.ofNat b3)),.b true,.v (.int .u64 (.ofNat dh)),.b true,.b true,.b false]) (by kernel_rfl)<| .cons H1<| .cons H1<| .cons H1<| .cons aE<| .cons H1<| .cons a3<| .cons H1<| .cons H1<| .cons aX<| .nil
theorem U2(call:aF->List I->J->ao)(n m:Nat)(s:List UInt8)(h:J)
  (H1:bD (.ofNat m) (.ofNat 8)=false):
  az Tryz.prog Tryz.f44 none call [1,1,1,0,0,0] (ah.mk [(0,.str s),(1,.int .u64 (.ofNat n)),(5,.int .i64 (.ofNat m))] [] .none h) (.exit 1)
   (ah.mk [(0,.str s),(1,.int .u64 (.ofNat n)),(5,.int .i64 (.ofNat m))] [] .none h):=
 bh [0,1,5] (hs:=[.b false,.b false,.b false,.b false,.b false,.b false,.b false]) (by kernel_rfl)<| .cons H1<| .cons H1<| .cons H1<| .cons H1<| .cons H1<| .cons H1<| .cons (by kernel_rfl:false=false)<| .nil
theorem U3(call:aF->List I->J->ao)(s t:List UInt8)(h:J)(b3:Nat)(cK:List UInt8)(bc:J)(er:List UInt8)
  (H1:et Tryz.prog 3 65 (I.int IntKind.i64 (Int.ofNat (List.length t))) h=e5.val (I.int IntKind.u64 (Int.ofNat b3)) h)
  (aE:call (.fn 44) [.str s,.int .u64 (.ofNat b3)] h=ao.ret (.str cK) bc)
  (a3:eA .add cK t=some (.str er)):
  az Tryz.prog Tryz.f43 none call [] (ah.mk [(0,.str s),(1,.str t)] [] .none h) (.ret)
   (ah.mk [(4,.str er)] [] .none bc):=
 bh [4] (hs:=[.v (.int .u64 (.ofNat b3)),.c (.str cK) bc,.v (.str er)]) (by kernel_rfl)<| .cons H1<| .cons aE<| .cons a3<| .nil
theorem ec(call:aF->List I->J->ao)(n cz to jK z b m:Nat)(s:List UInt8)(h al ar aZ cb bc:J)(b3 dh fe gh ji kW D7 Ab:Nat)(dj:J)(cK er:List UInt8)
  (H1:call (.fn 73) [.int .u64 (.ofNat n)] h=ao.ret (.agg [.int .u64 (.ofNat cz),.int .u64 (.ofNat to),.int .u8 (.ofNat jK),.int .i64 (.ofNat z)]) al)
  (aE:aB.storeCells (J.push al (.cells [.int .u64 (.ofNat 0),.int .u64 (.ofNat 0),.int .u8 (.ofNat 0),.int .i64 (.ofNat 0)] 120 .own 0 0)) (J.n al) 0 [.int .u64 (.ofNat cz),.int .u64 (.ofNat to),.int .u8 (.ofNat jK),.int .i64 (.ofNat z)]=some bc)
  (a3:au bc (J.n al) (0+0)=some (.int .u64 (.ofNat b3)))
  (aX:arith .sub .u64 (.ofNat n) (.ofNat b3)=some (.int .u64 (.ofNat dh)))
  (bA:au bc (J.n al) (0+3)=some (.int .i64 (.ofNat fe)))
  (b_:arith .add .i64 (.ofNat 1) (.ofNat fe)=some (.int .i64 (.ofNat gh)))
  (cQ:tX Tryz.prog bc 98 (I.int IntKind.i64 (Int.ofNat gh)) (I.int IntKind.i64 (Int.ofNat gh))=some (I.slice b 0 (z+1) (ch.exact (z+1)),aZ))
  (ep:au aZ (J.n al) (0+3)=some (.int .i64 (.ofNat ji)))
  (gQ:az Tryz.prog Tryz.f52 none call [1,1,1,1,0,1,0] (ah.mk [(7,.int .i64 (.ofNat ji)),(6,.slice b 0 (z+1) (.exact (z+1))),(1,.int .u64 (.ofNat dh)),(5,.ptr (J.n al) 0),(4,.str []),(0,.str s)] [] .none aZ) (.exit 0) (ah.mk [(0,.str s),(1,.int .u64 (.ofNat m)),(5,.ptr (J.n al) 0),(6,.slice b 0 (z+1) (.exact (z+1)))] [] .none cb))
  (jc:au cb (J.n al) (0+2)=some (.int .u8 (.ofNat kW)))
  (mc:et Tryz.prog 65 5 (I.int IntKind.u64 (Int.ofNat m)) cb=e5.val (I.int IntKind.u8 (Int.ofNat D7)) cb)
  (oI:arith .add .u8 (.ofNat kW) (.ofNat D7)=some (.int .u8 (.ofNat Ab)))
  (q5:Nat.le 1 (z+1))
  (uJ:aB.storeCells cb b (0+0*1) [.int .u8 (.ofNat Ab)]=some dj)
  (w6:et Tryz.prog 98 9 (I.slice b 0 (z+1) (ch.exact (z+1))) dj=e5.val (I.str cK) dj)
  (w7:eA .add s cK=some (.str er)):
  az Tryz.prog Tryz.f52 none call [] (ah.mk [(0,.str s),(1,.int .u64 (.ofNat n))] [] .none h) (.ret)
   (ah.mk [(4,.str er)] [] .none dj):=
 bh [4] (hs:=[Hint.c (I.agg [I.int IntKind.u64 (Int.ofNat cz),I.int IntKind.u64 (Int.ofNat to),I.int IntKind.u8 (Int.ofNat jK),I.int IntKind.i64 (Int.ofNat z)]) al,Hint.h3 (I.aP []) bc,Hint.v (I.int IntKind.u64 (Int.ofNat b3)),Hint.v (I.int IntKind.u64 (Int.ofNat dh)),Hint.v (I.int IntKind.i64 (Int.ofNat fe)),Hint.v (I.int IntKind.i64 (Int.ofNat gh)),Hint.h3 (I.slice b 0 (z+1) (ch.exact (z+1))) aZ,Hint.v (I.int IntKind.i64 (Int.ofNat ji)),Hint.loop (bw.exit 0) (ah.mk [(0,I.str s),(1,I.int IntKind.u64 (Int.ofNat m)),(5,I.ptr (J.n al) 0),(6,I.slice b 0 (z+1) (ch.exact (z+1)))] [] bE.none cb),Hint.v (I.int IntKind.u8 (Int.ofNat kW)),Hint.v (I.int IntKind.u8 (Int.ofNat D7)),Hint.v (I.int IntKind.u8 (Int.ofNat Ab)),Hint.v (I.ptr b (0+0*1)),Hint.h3 (I.aP []) dj,Hint.v (I.str cK),Hint.v (I.str er)]) (by kernel_rfl)<| .cons H1<| .cons (⟨by kernel_rfl,aE,rfl⟩:some 4=some 4/\aB.storeCells (J.push al (cp.cells [I.int IntKind.u64 (Int.ofNat 0),I.int IntKind.u64 (Int.ofNat 0),I.int IntKind.u8 (Int.ofNat 0),I.int IntKind.i64 (Int.ofNat 0)] 120 ey.own 0 0)) (J.n al) 0 [I.int IntKind.u64 (Int.ofNat cz),I.int IntKind.u64 (Int.ofNat to),I.int IntKind.u8 (Int.ofNat jK),I.int IntKind.i64 (Int.ofNat z)]=some bc/\I.aP []=I.aP [])<| .cons a3<| .cons aX<| .cons bA<| .cons b_<| .cons cQ<| .cons ep<| .cons gQ<| .cons jc<| .cons mc<| .cons oI<| .cons (⟨q5,rfl⟩:Nat.le 1 (z+1)/\I.ptr b (0+0*1)=I.ptr b (0+0*1))<| .cons (⟨by kernel_rfl,uJ,rfl⟩:some 1=some 1/\aB.storeCells cb b (0+0*1) [I.int IntKind.u8 (Int.ofNat Ab)]=some dj/\I.aP []=I.aP [])<| .cons w6<| .cons w7<| .nil
theorem U4(call:aF->List I->J->ao)(n i z b:Nat)(s:List UInt8)(h:J)(p:I)(b3:Nat)(bc:J)(dh fe:Nat)
  (H1:bD (.ofNat 0) (.ofNat i)=true)
  (aE:et Tryz.prog 65 5 (I.int IntKind.u64 (Int.ofNat n)) h=e5.val (I.int IntKind.u8 (Int.ofNat b3)) h)
  (a3:Nat.le (Nat.succ i) (z+1))
  (aX:aB.storeCells h b (0+i*1) [.int .u8 (.ofNat b3)]=some bc)
  (bA:mw .shr .u64 (.ofNat n) (.ofNat 8)=some (.int .u64 (.ofNat dh)))
  (b_:arith .sub .i64 (.ofNat i) (.ofNat 1)=some (.int .i64 (.ofNat fe))):
  az Tryz.prog Tryz.f52 none call [1,1,1,1,0,1,0,0] (ah.mk [(0,.str s),(1,.int .u64 (.ofNat n)),(5,p),(6,.slice b 0 (z+1) (.exact (z+1))),(7,.int .i64 (.ofNat i))] [] .none h) (.nrm)
   (ah.mk [(0,.str s),(1,.int .u64 (.ofNat dh)),(5,p),(6,.slice b 0 (z+1) (.exact (z+1))),(7,.int .i64 (.ofNat fe))] [] .none bc):=
 bh [0,1,5,6,7] (hs:=[.b true,.v (.int .u8 (.ofNat b3)),.v (.ptr b (0+i*1)),.h3 (.aP []) bc,.v (.int .u64 (.ofNat dh)),.v (.int .i64 (.ofNat fe))]) (by kernel_rfl)<| .cons H1<| .cons aE<| .cons (⟨a3,rfl⟩:Nat.le (Nat.succ i) (z+1)/\I.ptr b (0+i*1)=I.ptr b (0+i*1))<| .cons (⟨by kernel_rfl,aX,rfl⟩:some 1=some 1/\aB.storeCells h b (0+i*1) [I.int IntKind.u8 (Int.ofNat b3)]=some bc/\I.aP []=I.aP [])<| .cons bA<| .cons b_<| .nil
theorem U5(call:aF->List I->J->ao)(n i z b:Nat)(s:List UInt8)(h:J)(p:I)
  (H1:bD (.ofNat 0) (.ofNat i)=false):
  az Tryz.prog Tryz.f52 none call [1,1,1,1,0,1,0,0] (ah.mk [(0,.str s),(1,.int .u64 (.ofNat n)),(5,p),(6,.slice b 0 (z+1) (.exact (z+1))),(7,.int .i64 (.ofNat i))] [] .none h) (.exit 0)
   (ah.mk [(0,.str s),(1,.int .u64 (.ofNat n)),(5,p),(6,.slice b 0 (z+1) (.exact (z+1))),(7,.int .i64 (.ofNat i))] [] .none h):=
 bh [0,1,5,6,7] (hs:=[.b false]) (by kernel_rfl)<| .cons H1<| .nil
theorem sZ(call:aF->List I->J->ao)(s t:List UInt8)(h:J)(b3:Nat)(cK:List UInt8)(bc:J)(er:List UInt8)
  (H1:et Tryz.prog 3 65 (I.int IntKind.i64 (Int.ofNat (List.length t))) h=e5.val (I.int IntKind.u64 (Int.ofNat b3)) h)
  (aE:call (.fn 52) [.str s,.int .u64 (.ofNat b3)] h=ao.ret (.str cK) bc)
  (a3:eA .add cK t=some (.str er)):
  az Tryz.prog Tryz.f64 none call [] (ah.mk [(0,.str s),(1,.str t)] [] .none h) (.ret)
   (ah.mk [(4,.str er)] [] .none bc):=
 bh [4] (hs:=[.v (.int .u64 (.ofNat b3)),.c (.str cK) bc,.v (.str er)]) (by kernel_rfl)<| .cons H1<| .cons aE<| .cons a3<| .nil
theorem U6(call:aF->List I->J->ao)(h:J):
  az Tryz.prog Tryz.f72 none call [] (ah.mk [] [] .none h) (.ret)
   (ah.mk [(0,.fn 89 [] [])] [] .none h):=
 bh [0] (hs:=[]) (by kernel_rfl)<| .nil
theorem U7(call:aF->List I->J->ao)(l:Nat)(e:bw)(h ad:J)(cx:Bool)(bc:J)
  (H1:call (.b8 l) [.agg [.int .u64 (.ofNat 0),.int .u64 (.ofNat 240),.int .u8 (.ofNat 0),.int .i64 (.ofNat 0)]] h=ao.ret (.bool cx) bc)
  (aE:(!cx)=true):
  az Tryz.prog Tryz.f89 none call [0] (ah.mk [(0,.b8 l)] [] .none h) (.ret)
   (ah.mk [(0,.b8 l)] [] .none bc):=
 bh [0] (hs:=[.c (.bool cx) bc,.b true,.b true,.b true,.b true,.b true,.b true,.b true,.b true,.b true,.b true,.b true]) (by kernel_rfl)<| .cons H1<| .cons aE<| .cons aE<| .cons aE<| .cons aE<| .cons aE<| .cons (by kernel_rfl:true=true)<| .cons (by kernel_rfl:true=true)<| .cons (by kernel_rfl:true=true)<| .cons (by kernel_rfl:true=true)<| .cons (by kernel_rfl:true=true)<| .cons (by kernel_rfl:true=true)<| .nil
theorem U8(call:aF->List I->J->ao)(l:Nat)(e:bw)(h ad:J)(cx:Bool)(bc:J)(iJ:Bool)(dj:J)
  (H1:call (.b8 l) [.agg [.int .u64 (.ofNat 0),.int .u64 (.ofNat 240),.int .u8 (.ofNat 0),.int .i64 (.ofNat 0)]] h=ao.ret (.bool cx) bc)
  (aE:(!cx)=false)
  (a3:call (.b8 l) [.agg [.int .u64 (.ofNat 240),.int .u64 (.ofNat 2287),.int .u8 (.ofNat 241),.int .i64 (.ofNat 1)]] bc=ao.ret (.bool iJ) dj)
  (aX:(!iJ)=true):
  az Tryz.prog Tryz.f89 none call [0] (ah.mk [(0,.b8 l)] [] .none h) (.ret)
   (ah.mk [(0,.b8 l)] [] .none dj):=
 bh [0] (hs:=[.c (.bool cx) bc,.b false,.b false,.b false,.c (.bool iJ) dj,.b false,.b false,.b true,.b true,.b true,.b true,.b true,.b true]) (by kernel_rfl)<| .cons H1<| .cons aE<| .cons aE<| .cons aE<| .cons a3<| .cons aE<| .cons aE<| .cons aX<| .cons aX<| .cons aX<| .cons aX<| .cons aX<| .cons (by kernel_rfl:true=true)<| .nil
theorem U9(call:aF->List I->J->ao)(l:Nat)(e:bw)(h ad:J)(cx:Bool)(bc:J)(iJ:Bool)(dj:J)(tb:Bool)(ks:J)
  (H1:call (.b8 l) [.agg [.int .u64 (.ofNat 0),.int .u64 (.ofNat 240),.int .u8 (.ofNat 0),.int .i64 (.ofNat 0)]] h=ao.ret (.bool cx) bc)
  (aE:(!cx)=false)
  (a3:call (.b8 l) [.agg [.int .u64 (.ofNat 240),.int .u64 (.ofNat 2287),.int .u8 (.ofNat 241),.int .i64 (.ofNat 1)]] bc=ao.ret (.bool iJ) dj)
  (aX:(!iJ)=false)
  (bA:call (.b8 l) [.agg [.int .u64 (.ofNat 2288),.int .u64 (.ofNat 67823),.int .u8 (.ofNat 249),.int .i64 (.ofNat 2)]] dj=ao.ret (.bool tb) ks)
  (b_:(!tb)=true):
  az Tryz.prog Tryz.f89 none call [0] (ah.mk [(0,.b8 l)] [] .none h) (.ret)
   (ah.mk [(0,.b8 l)] [] .none ks):=
 bh [0] (hs:=[.c (.bool cx) bc,.b false,.b false,.b false,.c (.bool iJ) dj,.b false,.b false,.b false,.b false,.b false,.c (.bool tb) ks,.b false,.b false,.b true]) (by kernel_rfl)<| .cons H1<| .cons aE<| .cons aE<| .cons aE<| .cons a3<| .cons aE<| .cons aE<| .cons aX<| .cons aX<| .cons aX<| .cons bA<| .cons aX<| .cons aX<| .cons b_<| .nil
theorem U_(call:aF->List I->J->ao)(l:Nat)(e:bw)(h ad:J)(cx:Bool)(bc:J)(iJ:Bool)(dj:J)(tb:Bool)(ks:J)
  (H1:call (.b8 l) [.agg [.int .u64 (.ofNat 0),.int .u64 (.ofNat 240),.int .u8 (.ofNat 0),.int .i64 (.ofNat 0)]] h=ao.ret (.bool cx) bc)
  (aE:(!cx)=false)
  (a3:call (.b8 l) [.agg [.int .u64 (.ofNat 240),.int .u64 (.ofNat 2287),.int .u8 (.ofNat 241),.int .i64 (.ofNat 1)]] bc=ao.ret (.bool iJ) dj)
  (aX:(!iJ)=false)
  (bA:call (.b8 l) [.agg [.int .u64 (.ofNat 2288),.int .u64 (.ofNat 67823),.int .u8 (.ofNat 249),.int .i64 (.ofNat 2)]] dj=ao.ret (.bool tb) ks)
  (b_:(!tb)=false):
  az Tryz.prog Tryz.f89 none call [0] (ah.mk [(0,.b8 l)] [] .none h) (.nrm)
   (ah.mk [(0,.b8 l)] [] .none ks):=
 bh [0] (hs:=[.c (.bool cx) bc,.b false,.b false,.b false,.c (.bool iJ) dj,.b false,.b false,.b false,.b false,.b false,.c (.bool tb) ks,.b false,.b false,.b false]) (by kernel_rfl)<| .cons H1<| .cons aE<| .cons aE<| .cons aE<| .cons a3<| .cons aE<| .cons aE<| .cons aX<| .cons aX<| .cons aX<| .cons bA<| .cons aX<| .cons aX<| .cons b_<| .nil
theorem Va(call:aF->List I->J->ao)(l:Nat)(h:J):
  az Tryz.prog Tryz.f89 none call [1,0] (ah.mk [(0,.b8 l)] [] .none h) (.nrm)
   (ah.mk [(0,.b8 l),(2,.int .i64 (.ofNat 3))] [] .none h):=
 bh [0,2] (hs:=[]) (by kernel_rfl)<| .nil
theorem Vb(call:aF->List I->J->ao)(l i:Nat)(h:J)(b3 dh fe gh ji:Nat)(cx:Bool)(bc:J)
  (H1:dv (.ofNat i) (.ofNat 8)=true)
  (aE:arith .sub .i64 (.ofNat 8) (.ofNat i)=some (.int .i64 (.ofNat b3)))
  (a3:arith .mul .i64 (.ofNat 8) (.ofNat b3)=some (.int .i64 (.ofNat dh)))
  (aX:mw .shr .u64 (.ofNat 18446744073709551615) (.ofNat dh)=some (.int .u64 (.ofNat fe)))
  (bA:arith .add .i64 (.ofNat 247) (.ofNat i)=some (.int .i64 (.ofNat gh)))
  (b_:et Tryz.prog 3 5 (I.int IntKind.i64 (Int.ofNat gh)) h=e5.val (I.int IntKind.u8 (Int.ofNat ji)) h)
  (cQ:call (.b8 l) [.agg [.int .u64 (.ofNat 0),.int .u64 (.ofNat fe),.int .u8 (.ofNat ji),.int .i64 (.ofNat i)]] h=ao.ret (.bool cx) bc)
  (ep:(!cx)=true):
  az Tryz.prog Tryz.f89 none call [1,1,0,0] (ah.mk [(0,.b8 l),(2,.int .i64 (.ofNat i))] [] .none h) (.ret)
   (ah.mk [(0,.b8 l),(2,.int .i64 (.ofNat i))] [] .none bc):=
 bh [0,2] (hs:=[.b true,.v (.int .i64 (.ofNat b3)),.v (.int .i64 (.ofNat dh)),.v (.int .u64 (.ofNat fe)),.v (.int .i64 (.ofNat gh)),.v (.int .u8 (.ofNat ji)),.c (.bool cx) bc,.b true]) (by kernel_rfl)<| .cons H1<| .cons aE<| .cons a3<| .cons aX<| .cons bA<| .cons b_<| .cons cQ<| .cons ep<| .nil
theorem Vc(call:aF->List I->J->ao)(l i:Nat)(h:J)(b3 dh fe gh ji:Nat)(cx:Bool)(bc:J)(kW:Nat)
  (H1:dv (.ofNat i) (.ofNat 8)=true)
  (aE:arith .sub .i64 (.ofNat 8) (.ofNat i)=some (.int .i64 (.ofNat b3)))
  (a3:arith .mul .i64 (.ofNat 8) (.ofNat b3)=some (.int .i64 (.ofNat dh)))
  (aX:mw .shr .u64 (.ofNat 18446744073709551615) (.ofNat dh)=some (.int .u64 (.ofNat fe)))
  (bA:arith .add .i64 (.ofNat 247) (.ofNat i)=some (.int .i64 (.ofNat gh)))
  (b_:et Tryz.prog 3 5 (I.int IntKind.i64 (Int.ofNat gh)) h=e5.val (I.int IntKind.u8 (Int.ofNat ji)) h)
  (cQ:call (.b8 l) [.agg [.int .u64 (.ofNat 0),.int .u64 (.ofNat fe),.int .u8 (.ofNat ji),.int .i64 (.ofNat i)]] h=ao.ret (.bool cx) bc)
  (ep:(!cx)=false)
  (gQ:arith .add .i64 (.ofNat i) (.ofNat 1)=some (.int .i64 (.ofNat kW))):
  az Tryz.prog Tryz.f89 none call [1,1,0,0] (ah.mk [(0,.b8 l),(2,.int .i64 (.ofNat i))] [] .none h) (.nrm)
   (ah.mk [(0,.b8 l),(2,.int .i64 (.ofNat kW))] [] .none bc):=
 bh [0,2] (hs:=[.b true,.v (.int .i64 (.ofNat b3)),.v (.int .i64 (.ofNat dh)),.v (.int .u64 (.ofNat fe)),.v (.int .i64 (.ofNat gh)),.v (.int .u8 (.ofNat ji)),.c (.bool cx) bc,.b false,.v (.int .i64 (.ofNat kW))]) (by kernel_rfl)<| .cons H1<| .cons aE<| .cons a3<| .cons aX<| .cons bA<| .cons b_<| .cons cQ<| .cons ep<| .cons gQ<| .nil
theorem Vd(call:aF->List I->J->ao)(n:Nat)(h:J):
  az Tryz.prog Tryz.f73 none call [0] (ah.mk [(0,.int .u64 (.ofNat n))] [] .none h) (.nrm)
   (ah.mk [(1,.ptr (J.n h) 0),(2,.ptr (J.n (J.push h (.cells [.int .u64 (.ofNat n)] 65 .own 0 0))) 0)] [] .none (J.push (J.push h (.cells [.int .u64 (.ofNat n)] 65 .own 0 0)) (.cells [.int .u64 (.ofNat 0),.int .u64 (.ofNat 0),.int .u8 (.ofNat 0),.int .i64 (.ofNat 0)] 120 .own 0 0))):=
 bh [1,2] (hs:=[]) (by kernel_rfl)<| .nil
theorem Ve(call:aF->List I->J->ao)(a b:Nat)(h:J)(D8:I)(bc:J)
  (H1:call (.fn 72) [] h=ao.ret D8 bc):
  az Tryz.prog Tryz.f73 none call [1,0,0] (ah.mk [(1,.ptr a 0),(2,.ptr b 0)] [] .none h) (.nrm)
   (ah.mk [(1,.ptr a 0),(2,.ptr b 0),(4,D8)] [] .none bc):=
 bh [1,2,4] (hs:=[.c D8 bc]) (by kernel_rfl)<| .cons H1<| .nil
theorem Vf(call:aF->List I->J->ao)(l a b:Nat)(x:List I)(h bc:J)
  (H1:some 4=some (List.length x)/\aB.storeCells (J.push h (cp.cells [I.int IntKind.u64 (Int.ofNat 0),I.int IntKind.u64 (Int.ofNat 0),I.int IntKind.u8 (Int.ofNat 0),I.int IntKind.i64 (Int.ofNat 0)] 120 ey.own 0 0)) (J.n h) 0 x=some bc/\I.aP []=I.aP []):
  az Tryz.prog Tryz.f73 (some l) call [1,0,1,0,0] (ah.mk [(5,.agg x),(1,.ptr a 0),(2,.ptr b 0)] [] .none h) (.nrm)
   (ah.mk [(1,.ptr a 0),(2,.ptr b 0),(3,.ptr (J.n h) 0)] [] .none bc):=
 bh [1,2,3] (hs:=[.h3 (.aP []) bc]) (by kernel_rfl)<| .cons H1<| .nil
theorem Vg(call:aF->List I->J->ao)(l a b c:Nat)(h:J)(b3 dh fe gh:Nat)(bc:J)(ji kW:Nat)
  (H1:aB.loadCells h c 0 4=some [.int .u64 (.ofNat b3),.int .u64 (.ofNat dh),.int .u8 (.ofNat fe),.int .i64 (.ofNat gh)])
  (aE:aB.storeCells h b 0 [.int .u64 (.ofNat b3),.int .u64 (.ofNat dh),.int .u8 (.ofNat fe),.int .i64 (.ofNat gh)]=some bc)
  (a3:au bc a 0=some (.int .u64 (.ofNat ji)))
  (aX:au bc c (0+1)=some (.int .u64 (.ofNat kW)))
  (bA:dv (.ofNat ji) (.ofNat kW)=true):
  az Tryz.prog Tryz.f73 (some l) call [1,0,1,0,1] (ah.mk [(1,.ptr a 0),(2,.ptr b 0),(3,.ptr c 0)] [] .none h) (.exit 0)
   (ah.mk [] [] .none bc):=
 bh [] (hs:=[.v (.agg [.int .u64 (.ofNat b3),.int .u64 (.ofNat dh),.int .u8 (.ofNat fe),.int .i64 (.ofNat gh)]),.h3 (.aP []) bc,.v (.int .u64 (.ofNat ji)),.v (.int .u64 (.ofNat kW)),.b true]) (by kernel_rfl)<| .cons H1<| .cons (⟨by kernel_rfl,aE,rfl⟩:some 4=some 4/\aB.storeCells h b 0 [I.int IntKind.u64 (Int.ofNat b3),I.int IntKind.u64 (Int.ofNat dh),I.int IntKind.u8 (Int.ofNat fe),I.int IntKind.i64 (Int.ofNat gh)]=some bc/\I.aP []=I.aP [])<| .cons a3<| .cons aX<| .cons bA<| .nil
theorem Vh(call:aF->List I->J->ao)(l a b c:Nat)(h:J)(b3 dh fe gh:Nat)(bc:J)(ji kW:Nat)
  (H1:aB.loadCells h c 0 4=some [.int .u64 (.ofNat b3),.int .u64 (.ofNat dh),.int .u8 (.ofNat fe),.int .i64 (.ofNat gh)])
  (aE:aB.storeCells h b 0 [.int .u64 (.ofNat b3),.int .u64 (.ofNat dh),.int .u8 (.ofNat fe),.int .i64 (.ofNat gh)]=some bc)
  (a3:au bc a 0=some (.int .u64 (.ofNat ji)))
  (aX:au bc c (0+1)=some (.int .u64 (.ofNat kW)))
  (bA:dv (.ofNat ji) (.ofNat kW)=false):
  az Tryz.prog Tryz.f73 (some l) call [1,0,1,0,1] (ah.mk [(1,.ptr a 0),(2,.ptr b 0),(3,.ptr c 0)] [] .none h) (.nrm)
   (ah.mk [] [] .none bc):=
 bh [] (hs:=[.v (.agg [.int .u64 (.ofNat b3),.int .u64 (.ofNat dh),.int .u8 (.ofNat fe),.int .i64 (.ofNat gh)]),.h3 (.aP []) bc,.v (.int .u64 (.ofNat ji)),.v (.int .u64 (.ofNat kW)),.b false]) (by kernel_rfl)<| .cons H1<| .cons (⟨by kernel_rfl,aE,rfl⟩:some 4=some 4/\aB.storeCells h b 0 [I.int IntKind.u64 (Int.ofNat b3),I.int IntKind.u64 (Int.ofNat dh),I.int IntKind.u8 (Int.ofNat fe),I.int IntKind.i64 (Int.ofNat gh)]=some bc/\I.aP []=I.aP [])<| .cons a3<| .cons aX<| .cons bA<| .nil
theorem Vi(call:aF->List I->J->ao)(b:Nat)(d:List bP)(h:J)(b3 dh fe gh:Nat)(bc:J)
  (H1:aB.loadCells h b 0 4=some [.int .u64 (.ofNat b3),.int .u64 (.ofNat dh),.int .u8 (.ofNat fe),.int .i64 (.ofNat gh)])
  (aE:aB.storeCells h b 0 [.int .u64 (.ofNat b3),.int .u64 (.ofNat dh),.int .u8 (.ofNat fe),.int .i64 (.ofNat gh)]=some bc):
  az Tryz.prog Tryz.f73 none call [1,1] (ah.mk [(2,.ptr b 0)] d .none h) (.ret)
   (ah.mk [(2,.ptr b 0)] d .none bc):=
 bh [2] (hs:=[.v (.agg [.int .u64 (.ofNat b3),.int .u64 (.ofNat dh),.int .u8 (.ofNat fe),.int .i64 (.ofNat gh)]),.h3 (.aP []) bc]) (by kernel_rfl)<| .cons H1<| .cons (⟨by kernel_rfl,aE,rfl⟩:some 4=some 4/\aB.storeCells h b 0 [I.int IntKind.u64 (Int.ofNat b3),I.int IntKind.u64 (Int.ofNat dh),I.int IntKind.u8 (Int.ofNat fe),I.int IntKind.i64 (Int.ofNat gh)]=some bc/\I.aP []=I.aP [])<| .nil
noncomputable abbrev rl:Nat->List I->J->Option (I×J):=Go.Proofs.cD.bW
noncomputable abbrev C(n:Nat):aF->List I->J->ao:=Go.Proofs.cD.Y n
theorem J4:Tryz.prog.underlying 65=some (.int .u64):=by kernel_rfl
theorem uZ:Tryz.prog.underlying 5=some (.int .u8):=by kernel_rfl
theorem D9:Tryz.prog.underlying 3=some (.int .i64):=by kernel_rfl
theorem D_:Tryz.prog.underlying 98=some (.slice 5):=by kernel_rfl
theorem uS:Tryz.prog.underlying 9=some .string:=by kernel_rfl
theorem Ea(n:Nat)(h:J):et Tryz.prog 65 5 (.int .u64 (Int.ofNat n)) h=.val (.int .u8 (Int.ofNat (n %256))) h:=zs J4 uZ (wrap_u8 n)
theorem Vj(n:Nat)(h:J):et Tryz.prog 3 5 (.int .i64 (Int.ofNat n)) h=.val (.int .u8 (Int.ofNat (n %256))) h:=zs D9 uZ (wrap_u8 n)
theorem Ac(n:Nat)(aI:n<9223372036854775808)(h:J):et Tryz.prog 3 65 (.int .i64 (Int.ofNat n)) h=.val (.int .u64 (Int.ofNat n)) h:=zs D9 J4 (zp n (by omega))
theorem Vk(n:Nat):(UInt8.ofNat n).toNat=n %256:=by simp
theorem J5(call:aF->List I->J->ao)(z:Nat)(a4:z<=8):∀(k i n:Nat) (s:List UInt8) (h:J),z-i=k->i<=z->n<18446744073709551616->s.length<=i->
  ∃an,ef Tryz.prog Tryz.f67 none call [1,1,0,1,0] (k+1) ⟨[(0,.int .u64 (Int.ofNat n)),(1,.int .i64 (Int.ofNat z)),(5,.str s),(6,.int .i64 (Int.ofNat i))],[],.none,h⟩ (.exit 0) ⟨[(5,.str (jJ n k s))],[],.none,an⟩/\Ext h.n h an
 |0,i,n,s,h,av,ae,aI,hs=>⟨h,.exit (cC.post (UU call n z i 0 0 s [] [] h (eg (by omega))) ⟨rfl,trivial⟩) (by simp),Ext.refl _ _⟩
 |k+1,i,n,s,h,av,ae,aI,hs=>by
  have ak:(h.push (.cells [.int .u8 (Int.ofNat (n %256 %256))] 5 .own 0 0)).get h.n=some (.cells (cP [UInt8.ofNat (n %256)]++[]) 5 .own 0 0):=by
   rw[J.eB,if_pos rfl];simp[cP]
  have ag:=HQ (P:=Tryz.prog) (a:=98) (b:=9) (cap:=.exact 1) D_ uZ uS (.inl rfl) ak
  have st:=UT call n z i (n %256 %256) (n %256) s [UInt8.ofNat (n %256)] _ h (n/256) (i+1) (dx (by omega)) (HO .u64 (by omega)) (Ea (n %256) h) ag (fa (x:=[UInt8.ofNat (n %256)]) (y:=s) (by simp;omega)) (HN (by omega) aI) (qM (by omega))
  obtain⟨an,bl,bB⟩:=J5 call z a4 k (i+1) (n/256) (UInt8.ofNat (n %256)::s) _ (by omega) (by omega) (by have:=Nat.div_le_self n 256;omega) (by simp;omega)
  exact⟨an,.step st bl,(Ext.push (Nat.le_refl _) _).trans (Nat.le_succ _) bB⟩
theorem tc(m n z:Nat)(h:J)(aI:n<18446744073709551616)(a4:z<=8):∃an,C (m+1) (.fn 67) [.int .u64 (Int.ofNat n),.int .i64 (Int.ofNat z)] h=.ret (.str (jJ n z [])) an/\Ext h.n h an:=by
 obtain⟨an,bl,bB⟩:=J5 (C m) z a4 z 0 n [] h (by omega) (by omega) aI (by simp)
 have loop:=ef.run (p:=[1,1,0,1,0]) (by kernel_rfl) bl (by omega)
 exact⟨an,ed (intr:=rl) (n:=m) (args:=[.int .u64 (Int.ofNat n),.int .i64 (Int.ofNat z)]) Tryz.func67 (by kernel_rfl) rfl (by kernel_rfl) (ae (C m) n z _ h an (cC.pre loop ⟨rfl,rfl,rfl,rfl,trivial⟩ rfl rfl rfl)) (.inl rfl) (by kernel_rfl),bB⟩
theorem J6(call:aF->List I->J->ao)(n:Nat)(aI:n<18446744073709551616)(s:List UInt8)(h:J):∀(k m:Nat),8-m=k->m<=8->
  ef Tryz.prog Tryz.f44 none call [1,1,1,0,0] (k+1) ⟨[(0,.str s),(1,.int .u64 (Int.ofNat n)),(5,.int .i64 (Int.ofNat m))],[],.none,h⟩ (.exit 1) ⟨[(0,.str s),(1,.int .u64 (Int.ofNat n)),(5,.int .i64 (Int.ofNat (iK n k m)))],[],.none,h⟩
 |0,m,av,hm=>by
  have:m=8:=by omega
  subst this
  exact .exit (U2 call n 8 s h (eg (by omega))) (by simp)
 |k+1,m,av,hm=>by
  have e:(256:Nat)^m=2^(8*m):=by rw[Nat.pow_mul]
  simp only[iK]
  by_cases cu:n<256^m
  · rw[if_pos cu]
    have h0:n/2^(8*m)=0:=by rw[<-e];exact Nat.div_eq_of_lt cu
    exact .exit (U1 call n m s h (8*m) (n/2^(8*m)) (dx (by omega)) (wG (by omega)) (zr .u64 (by show 8*m<=64;omega)) (eg (by omega))) (by simp)
  · rw[if_neg cu]
    have h0:0<n/2^(8*m):=by rw[<-e];exact Nat.div_pos (by omega) (Nat.pow_pos (by omega))
    exact .step (U0 call n m s h (8*m) (n/2^(8*m)) (m+1) (dx (by omega)) (wG (by omega)) (zr .u64 (by show 8*m<=64;omega)) (dx h0) (qM (by omega))) (J6 call n aI s h k (m+1) (by omega) (by omega))
theorem nT(m n:Nat)(s:List UInt8)(h:J)(aI:n<18446744073709551616)(hs:s.length<=1000000000):∃an,C (m+2) (.fn 44) [.str s,.int .u64 (Int.ofNat n)] h=.ret (.str (s++ct n)) an/\Ext h.n h an:=by
 have fin:∀{Γ:Env} {an:J} {v:I},az Tryz.prog Tryz.f44 none (C (m+1)) [] ⟨[(0,.str s),(1,.int .u64 (Int.ofNat n))],[],.none,h⟩ .ret ⟨Γ,[],.none,an⟩->mV Tryz.prog (dM Tryz.f44) Tryz.f44 Γ an=some v->
   C (m+2) (.fn 44) [.str s,.int .u64 (Int.ofNat n)] h=.ret v an:=λai hR=>
  ed (intr:=rl) (n:=m+1) (args:=[.str s,.int .u64 (Int.ofNat n)]) Tryz.func44 (by kernel_rfl) rfl (by kernel_rfl) ai (.inl rfl) hR
 unfold ct
 by_cases aa:n<=240
 · rw[if_pos aa]
   obtain⟨g,c1,a8⟩:=tc m n 1 h aI (by omega)
   exact⟨g,fin (UW (C (m+1)) n 0 s h _ g _ (iD aa) c1 (fa (by rw[jh];simp;omega))) (by kernel_rfl),a8⟩
 · by_cases ad:n<=2287
   · rw[if_neg aa,if_pos ad]
     obtain⟨g,c1,a8⟩:=tc m (241+(n-240)/256) 1 h (by omega) (by omega)
     obtain⟨ar,c2,bu⟩:=tc m ((n-240) %256) 1 g (by omega) (by omega)
     refine⟨ar,?_,a8.trans a8.n bu⟩
     rw[<-List.append_assoc]
     exact fin (UX (C (m+1)) n 0 s h _ _ _ _ g _ _ _ ar _ (jA aa) (iD ad) (zq (by omega) aI) (HN (by omega) (by omega)) (HM (by omega)) c1 (fa (by rw[jh];simp;omega)) (HO .u64 (by omega)) c2 (fa (by rw[List.length_append,jh,jh];simp;omega))) (by kernel_rfl)
   · by_cases aw:n<=67823
     · rw[if_neg aa,if_neg ad,if_pos aw]
       obtain⟨g,c1,a8⟩:=tc m 249 1 h (by omega) (by omega)
       obtain⟨ar,c2,bu⟩:=tc m (n-2288) 2 g (by omega) (by omega)
       refine⟨ar,?_,a8.trans a8.n bu⟩
       rw[<-List.append_assoc]
       exact fin (UY (C (m+1)) n 0 s h _ g _ _ _ ar _ (jA aa) (jA ad) (iD aw) c1 (fa (by rw[jh];simp;omega)) (zq (by omega) aI) c2 (fa (by rw[List.length_append,jh,jh];simp;omega))) (by kernel_rfl)
     · rw[if_neg aa,if_neg ad,if_neg aw]
       have a4:=z_ n 5 3
       have loop:=ef.run (p:=[1,1,1,0,0]) (by kernel_rfl) (J6 (C (m+1)) n aI s h 5 3 rfl (by omega)) (by omega)
       obtain⟨g,c1,a8⟩:=tc m (247+iq n) 1 h (by unfold iq;omega) (by omega)
       obtain⟨ar,c2,bu⟩:=tc m n (iq n) g aI (by unfold iq;omega)
       refine⟨ar,?_,a8.trans a8.n bu⟩
       rw[<-List.append_assoc]
       exact fin (UZ (C (m+1)) n (iq n) s h (247+iq n) (247+iq n) _ g _ _ ar _ (jA aa) (jA ad) (jA aw) (cC.pre loop ⟨rfl,rfl,rfl,trivial⟩ rfl rfl rfl) (qM (by unfold iq;omega)) (Ac _ (by unfold iq;omega) h) c1 (fa (by rw[jh];simp;omega)) c2 (fa (by rw[List.length_append,jh,jh];unfold iq;simp;omega))) (by kernel_rfl)
theorem oQ(n:Nat):(ct n).length<=9:=by
 have:=z_ n 5 3
 unfold ct
 split
 · rw[jh];simp
 · split
   · rw[List.length_append,jh,jh];simp
   · split
     · rw[List.length_append,jh,jh];simp
     · rw[List.length_append,jh,jh];unfold iq;simp;omega
def cV(t:List UInt8):List UInt8:=ct t.length++t
theorem td(m:Nat)(s t:List UInt8)(h:J)(hs:s.length<=100000000)(aU:t.length<=100000000):∃an,C (m+3) (.fn 43) [.str s,.str t] h=.ret (.str (s++cV t)) an/\Ext h.n h an:=by
 obtain⟨g,c1,a8⟩:=nT m t.length s h (by omega) (by omega)
 have aq:=oQ t.length
 refine⟨g,?_,a8⟩
 rw[cV,<-List.append_assoc]
 exact ed (intr:=rl) (n:=m+2) (args:=[.str s,.str t]) Tryz.func43 (by kernel_rfl) rfl (by kernel_rfl) (U3 (C (m+2)) s t h _ _ g _ (Ac _ (by omega) h) c1 (fa (by simp;omega))) (.inl rfl) (by kernel_rfl)
end Go.Proofs.dg
namespace Go.Proofs.dg
open Go aB Go.Proofs Go.Proofs.gI
set_option maxRecDepth 100000
def g3(s:Nat×Nat×Nat×Nat):List I:=[.int .u64 (Int.ofNat s.1),.int .u64 (Int.ofNat s.2.1),.int .u8 (Int.ofNat s.2.2.1),.int .i64 (Int.ofNat s.2.2.2)]
theorem Vl(i:Nat)(aa:3<=i)(ad:i<=8):18446744073709551615/2^(8*(8-i))=256^i-1:=by
 have:i=3\/i=4\/i=5\/i=6\/i=7\/i=8:=by omega
 rcases this with rfl|rfl|rfl|rfl|rfl|rfl<;>rfl
section
variable (m l n:Nat) (l4:J->Prop) (Q:Nat×Nat×Nat×Nat->J->Prop)
 (a2:∀s x,l4 x->(n<=s.2.1->∃eX,C m (.b8 l) [.agg (g3 s)] x=.ret (.bool false) eX/\Q s eX)/\(¬n<=s.2.1->∃eX,C m (.b8 l) [.agg (g3 s)] x=.ret (.bool true) eX/\l4 eX))
include a2
theorem J7(aI:n<18446744073709551616):∀(k i:Nat) (x:J),8-i=k->3<=i->i<=8->l4 x->
  ∃eX,ef Tryz.prog Tryz.f89 none (C m) [1,1,0] (k+1) ⟨[(0,.b8 l),(2,.int .i64 (Int.ofNat i))],[],.none,x⟩ .ret ⟨[],[],.none,eX⟩/\Q (0,256^iK n k i-1,247+iK n k i,iK n k i) eX
 |k,i,x,av,aw,gL,ab=>by
  have hs:=Vl i aw gL
  have a_:0<256^i:=Nat.pow_pos (by omega)
  have kB:=Vj (247+i) x
  rw[Nat.mod_eq_of_lt (by omega)] at kB
  have ij:=zr .u64 (i:=18446744073709551615) (j:=8*(8-i)) (by show 8*(8-i)<=64;omega)
  rw[hs] at ij
  obtain⟨fy,gO⟩:=a2 (0,256^i-1,247+i,i) x ab
  by_cases hle:n<=256^i-1
  · obtain⟨eX,c1,c2⟩:=fy hle
    refine⟨eX,.exit (cC.post (Vb (C m) l i x _ _ _ _ _ false eX (iD gL) (pj gL (by omega)) (wG (by omega)) ij (qM (by omega)) kB c1 rfl) trivial) (by simp),?_⟩
    have:iK n k i=i:=by
     cases k with
     |zero=>rfl
     |succ k=>simp only[iK];rw[if_pos (by omega)]
    rw[this];exact c2
  · obtain⟨eX,c1,c2⟩:=gO hle
    cases k with
    |zero=>
     have:i=8:=by omega
     subst this
     exact absurd (by omega:n<=256^8-1) hle
    |succ k=>
     obtain⟨bu,bl,bB⟩:=J7 aI k (i+1) eX (by omega) (by omega) (by omega) c2
     refine⟨bu,.step (Vc (C m) l i x _ _ _ _ _ true eX _ (iD gL) (pj gL (by omega)) (wG (by omega)) ij (qM (by omega)) kB c1 rfl (qM (by omega))) bl,?_⟩
     simp only[iK];rw[if_neg (by omega)];exact bB
theorem Vm(aI:n<18446744073709551616)(x:J)(ab:l4 x):∃eX,C (m+1) (.fn 89) [.b8 l] x=.ret (.aP []) eX/\Q (gu n) eX:=by
 have fin:∀{Γ:Env} {eX:J},az Tryz.prog Tryz.f89 none (C m) [] ⟨[(0,.b8 l)],[],.none,x⟩ .ret ⟨Γ,[],.none,eX⟩->C (m+1) (.fn 89) [.b8 l] x=.ret (.aP []) eX:=λai=>
  ed (intr:=rl) (n:=m) (args:=[.b8 l]) Tryz.func89 (by kernel_rfl) rfl (by kernel_rfl) ai (.inl rfl) (by kernel_rfl)
 obtain⟨c9,dJ⟩:=a2 (0,240,0,0) x ab
 by_cases aa:n<=240
 · obtain⟨a8,c1,aV⟩:=c9 aa
   have:gu n=(0,240,0,0):=by simp[gu,aa]
   rw[this]
   exact⟨a8,fin (az.h4 (p:=[]) (by kernel_rfl) (U7 (C m) l .nrm x x false a8 c1 rfl) (by simp)),aV⟩
 · obtain⟨a8,c1,i1⟩:=dJ aa
   obtain⟨a5,bt⟩:=a2 (240,2287,241,1) a8 i1
   by_cases ad:n<=2287
   · obtain⟨bu,c2,aY⟩:=a5 ad
     have:gu n=(240,2287,241,1):=by simp[gu,aa,ad]
     rw[this]
     exact⟨bu,fin (az.h4 (p:=[]) (by kernel_rfl) (U8 (C m) l .nrm x x true a8 false bu c1 rfl c2 rfl) (by simp)),aY⟩
   · obtain⟨bu,c2,i2⟩:=bt ad
     obtain⟨d1,d2⟩:=a2 (2288,67823,249,2) bu i2
     by_cases aw:n<=67823
     · obtain⟨cU,c3,cw⟩:=d1 aw
       have:gu n=(2288,67823,249,2):=by simp[gu,aa,ad,aw]
       rw[this]
       exact⟨cU,fin (az.h4 (p:=[]) (by kernel_rfl) (U9 (C m) l .nrm x x true a8 true bu false cU c1 rfl c2 rfl c3 rfl) (by simp)),cw⟩
     · obtain⟨cU,c3,i3⟩:=d2 aw
       obtain⟨h5,bl,bB⟩:=J7 m l n l4 Q a2 aI 5 3 cU rfl (by omega) (by omega) i3
       have loop:=az.qL (p:=[1,1]) (id:=0) (by kernel_rfl) (ef.run (p:=[1,1,0]) (by kernel_rfl) bl (by omega)) (by simp)
       have:gu n=(0,256^iK n 5 3-1,247+iK n 5 3,iK n 5 3):=by simp[gu,aa,ad,aw,iq]
       rw[this]
       exact⟨h5,fin (az.seq (p:=[]) (by kernel_rfl) (U_ (C m) l .nrm x x true a8 true bu true cU c1 rfl c2 rfl c3 rfl) (az.seq (p:=[1]) (by kernel_rfl) (Va (C m) l cU) loop)),bB⟩
end
noncomputable def m7:Code:=sub (fF Tryz.f73) [1,0,1,0,0]
noncomputable def nU:Code:=sub (fF Tryz.f73) [1,0,1,0,1]
structure Ad(n N:Nat)(h:J)(r:aR)(x:J):Prop where
 num:x.get N=some (.cells [.int .u64 (Int.ofNat n)] 65 .own 0 0)
 out:∃a b c d,x.get (N+1)=some (.cells [a,b,c,d] 120 .own 0 0)
 jn:x.get (N+2)=some (.defrd (some []))
 pC:x.get (N+3)=some (.loop .ready none (dM Tryz.f73) r [5] m7 nU (N+2))
 ext:Ext N h x
 sa:N+4<=x.n
structure J8(N:Nat)(h:J)(r:aR)(s:Nat×Nat×Nat×Nat)(x:J):Prop where
 out:x.get (N+1)=some (.cells (g3 s) 120 .own 0 0)
 jn:x.get (N+2)=some (.defrd (some []))
 pC:x.get (N+3)=some (.loop .done (some (.exit 0)) (dM Tryz.f73) r [5] m7 nU (N+2))
 ext:Ext N h x
theorem Ae{h:J}{b t:Nat}{x:List I}(ab:x.length=4)(ak:h.get b=some (.cells x t .own 0 0)):aB.loadCells h b 0 4=some x:=by
 have:=zl (xs:=x) (rest:=[]) (by simpa using ak)
 rwa [ab] at this
theorem Af{h:J}{b t:Nat}{c9 dJ gA iZ c1 c2 c3 c4:I}(aa:c1.b0=true)(ad:c2.b0=true)(aw:c3.b0=true)(aQ:c4.b0=true)(ak:h.get b=some (.cells [c9,dJ,gA,iZ] t .own 0 0)):aB.storeCells h b 0 [c1,c2,c3,c4]=some (h.set b (some (.cells [c1,c2,c3,c4] t .own 0 0))):=by
 have hw:iN .own 0 0 0 [c1,c2,c3,c4].length=true:=rfl
 simp only[aB.storeCells,ak,hw,eR,aa,ad,aw,aQ]
theorem Vn(m n N:Nat)(h:J)(r:aR)(hm:aB.Mod r [(1,.ptr N 0),(2,.ptr (N+1) 0)])(s:Nat×Nat×Nat×Nat)(x:J)(ae:Ad n N h r x):
  (n<=s.2.1->∃eX,C (m+1) (.b8 (N+3)) [.agg (g3 s)] x=.ret (.bool false) eX/\J8 N h r s eX)/\(¬n<=s.2.1->∃eX,C (m+1) (.b8 (N+3)) [.agg (g3 s)] x=.ret (.bool true) eX/\Ad n N h r eX):=by
 obtain⟨wc,⟨a,b,c,d,vw⟩,Vo,Eb,qC,tR⟩:=ae
 have a2:C (m+1) (.b8 (N+3)) [.agg (g3 s)] x=n4 Tryz.prog (C m) (N+3) [.agg (g3 s)] x:=rfl
 let a8:=(x.push (.cells [.int .u64 (Int.ofNat 0),.int .u64 (Int.ofNat 0),.int .u8 (Int.ofNat 0),.int .i64 (Int.ofNat 0)] 120 .own 0 0)).set x.n (some (.cells (g3 s) 120 .own 0 0))
 have s1:=Af (c1:=.int .u64 (Int.ofNat s.1)) (c2:=.int .u64 (Int.ofNat s.2.1)) (c3:=.int .u8 (Int.ofNat s.2.2.1)) (c4:=.int .i64 (Int.ofNat s.2.2.2)) rfl rfl rfl rfl (by rw[J.eB,if_pos rfl]:(x.push (.cells [.int .u64 (Int.ofNat 0),.int .u64 (Int.ofNat 0),.int .u8 (Int.ofNat 0),.int .i64 (Int.ofNat 0)] 120 .own 0 0)).get x.n=_)
 have cH:∀j,j<x.n->a8.get j=x.get j:=λj aG=>by simp only[a8];rw[J.b2,if_neg (by omega),J.eB,if_neg (by omega)]
 have has:cC Tryz.prog (dM Tryz.f73) (some (N+3)) (C m) m7 ⟨put 5 (.agg (g3 s)) [(1,.ptr N 0),(2,.ptr (N+1) 0)],[],.none,x⟩ .nrm ⟨[(1,.ptr N 0),(2,.ptr (N+1) 0),(3,.ptr x.n 0)],[],.none,a8⟩:=
  cC.pre (st1:=⟨put 5 (.agg (g3 s)) [(1,.ptr N 0),(2,.ptr (N+1) 0)],[],.none,x⟩) (Vf (C m) (N+3) N (N+1) (g3 s) x a8 ⟨rfl,s1,rfl⟩) ⟨rfl,rfl,rfl,trivial⟩ rfl rfl rfl
 have bl:a8.get (N+3)=some (.loop .ready none (dM Tryz.f73) r [5] m7 nU (N+2)):=(cH _ (by omega)).trans Eb
 let bu:=a8.set (N+3) (some (.loop .busy none (dM Tryz.f73) r [5] m7 nU (N+2)))
 have gc:bu.get x.n=some (.cells (g3 s) 120 .own 0 0):=by simp only[bu,a8];rw[J.b2,if_neg (by omega),J.b2,if_pos rfl]
 have qk:bu.get (N+1)=some (.cells [a,b,c,d] 120 .own 0 0):=by simp only[bu];rw[J.b2,if_neg (by omega),cH _ (by omega)];exact vw
 have s2:=Af (c1:=.int .u64 (Int.ofNat s.1)) (c2:=.int .u64 (Int.ofNat s.2.1)) (c3:=.int .u8 (Int.ofNat s.2.2.1)) (c4:=.int .i64 (Int.ofNat s.2.2.2)) rfl rfl rfl rfl qk
 let cU:=bu.set (N+1) (some (.cells (g3 s) 120 .own 0 0))
 have kE:cU.get N=some (.cells [.int .u64 (Int.ofNat n)] 65 .own 0 0):=by simp only[cU,bu];rw[J.b2,if_neg (by omega),J.b2,if_neg (by omega),cH _ (by omega)];exact wc
 have Ag:cU.get x.n=some (.cells (g3 s) 120 .own 0 0):=by simp only[cU];rw[J.b2,if_neg (by omega)];exact gc
 have yQ:au cU x.n (0+1)=some (.int .u64 (Int.ofNat s.2.1)):=by simp only[au,Ag];rfl
 have av:cU.get (N+3)=some (.loop .busy none (dM Tryz.f73) r [5] m7 nU (N+2)):=by simp only[cU,bu];rw[J.b2,if_neg (by omega),J.b2,if_pos rfl]
 have ex:Ext N h cU:=((((qC.trans (Nat.le_refl _) (Ext.push (by omega) _)).trans (Nat.le_refl _) (Ext.set (by omega) _)).trans (Nat.le_refl _) (Ext.set (by omega) _)).trans (Nat.le_refl _) (Ext.set (by omega) _))
 have gd:cU.get (N+2)=some (.defrd (some [])):=by simp only[cU,bu];rw[J.b2,if_neg (by omega),J.b2,if_neg (by omega),cH _ (by omega)];exact Vo
 have go:cU.get (N+1)=some (.cells (g3 s) 120 .own 0 0):=by simp only[cU];rw[J.b2,if_pos rfl]
 have Vp:cU.n=x.n+1:=rfl
 refine⟨λhle=>?_,λhle=>?_⟩
 · have af:=Vg (C m) (N+3) N (N+1) x.n bu s.1 s.2.1 s.2.2.1 s.2.2.2 cU n s.2.1 (Ae rfl gc) s2 (lp kE) yQ (iD hle)
   have Ec:=HP Eb hm has bl (cC.pre (st1:=⟨[(1,.ptr N 0),(2,.ptr (N+1) 0),(3,.ptr x.n 0)],[],.none,bu⟩) af ⟨rfl,rfl,rfl,trivial⟩ rfl rfl rfl) av
   refine⟨_,a2.trans Ec,⟨?_,?_,?_,ex.trans (Nat.le_refl _) (Ext.set (by omega) _)⟩⟩
   · rw[J.b2,if_neg (by omega)];exact go
   · rw[J.b2,if_neg (by omega)];exact gd
   · rw[J.b2,if_pos rfl]
 · have af:=Vh (C m) (N+3) N (N+1) x.n bu s.1 s.2.1 s.2.2.1 s.2.2.2 cU n s.2.1 (Ae rfl gc) s2 (lp kE) yQ (jA hle)
   have Ec:=HP Eb hm has bl (cC.pre (st1:=⟨[(1,.ptr N 0),(2,.ptr (N+1) 0),(3,.ptr x.n 0)],[],.none,bu⟩) af ⟨rfl,rfl,rfl,trivial⟩ rfl rfl rfl) av
   refine⟨_,a2.trans Ec,⟨?_,⟨.int .u64 (Int.ofNat s.1),.int .u64 (Int.ofNat s.2.1),.int .u8 (Int.ofNat s.2.2.1),.int .i64 (Int.ofNat s.2.2.2),?_⟩,?_,?_,ex.trans (Nat.le_refl _) (Ext.set (by omega) _),by simp[Vp];omega⟩⟩
   · rw[J.b2,if_neg (by omega)];exact kE
   · rw[J.b2,if_neg (by omega)];exact go
   · rw[J.b2,if_neg (by omega)];exact gd
   · rw[J.b2,if_pos rfl]
theorem Vq(n:Nat)(h:J):C (n+1) (.fn 72) [] h=.ret (.fn 89 [] []) h:=
 ed (intr:=rl) (n:=n) (args:=[]) Tryz.func72 (by kernel_rfl) rfl (by kernel_rfl) (U6 (C n) h) (.inl rfl) (by kernel_rfl)
theorem Vr(m n:Nat)(h:J)(aI:n<18446744073709551616):∃an,C (m+3) (.fn 73) [.int .u64 (Int.ofNat n)] h=.ret (.agg (g3 (gu n))) an/\Ext h.n h an:=by
 let aa:=(h.push (.cells [.int .u64 (Int.ofNat n)] 65 .own 0 0)).push (.cells [.int .u64 (Int.ofNat 0),.int .u64 (Int.ofNat 0),.int .u8 (Int.ofNat 0),.int .i64 (Int.ofNat 0)] 120 .own 0 0)
 have w:WF Tryz.prog Tryz.f73 none (C (m+2)) [] (λe r d q an=>∃iF,lN Tryz.prog (C (m+2)) Tryz.f73 (.ok e r d q an)=.ret (.agg (g3 (gu n))) iF/\Ext h.n h iF) (nh 0 [.int .u64 (Int.ofNat n)] .leaf) [] .none h:=by
  refine WF.seq (p:=[]) (by kernel_rfl) (W.of (Vd (C (m+2)) n h) (zi [.int .u64 (Int.ofNat n)]) λr1 cM=>.inl ⟨rfl,?_⟩)
  refine WF.seq (p:=[1]) (by kernel_rfl) ?_
  refine WF.seq (p:=[1,0]) (by kernel_rfl) (W.of (Ve (C (m+2)) h.n (h.n+1) aa _ aa (Vq (m+1) aa)) cM λr2 ic=>.inl ⟨rfl,?_⟩)
  refine WF.block (p:=[1,0,1]) (id:=0) (by kernel_rfl) ?_
  refine WF.range (p:=[1,0,1,0]) (t:=4) (ps:=[5]) (by kernel_rfl) (by kernel_rfl) (hf:=rfl) (hm:=ic) ?_
  let h7:=(aa.push (.defrd (some []))).push (.loop .ready none (dM Tryz.f73) r2 [5] m7 nU (h.n+2))
  have i0:Ad n h.n h r2 h7:=by
   refine⟨?_,⟨.int .u64 (Int.ofNat 0),.int .u64 (Int.ofNat 0),.int .u8 (Int.ofNat 0),.int .i64 (Int.ofNat 0),?_⟩,?_,?_,?_,?_⟩
   · simp only[h7,aa,J.eB,J.mB];grind
   · simp only[h7,aa,J.eB,J.mB];rw[if_neg (by omega),if_neg (by omega)];simp
   · simp only[h7,aa,J.eB,J.mB];grind
   · simp only[h7,aa,J.eB,J.mB];grind
   · exact(((Ext.push (Nat.le_refl _) _).trans (Nat.le_refl _) (Ext.push (by simp) _)).trans (Nat.le_refl _) (Ext.push (by simp[aa];omega) _)).trans (Nat.le_refl _) (Ext.push (by simp[aa];omega) _)
   · simp[h7,aa]
  have J9:aB.Mod r2 [(1,.ptr h.n 0),(2,.ptr (h.n+1) 0)]:=ic.sub ⟨rfl,rfl,trivial⟩
  obtain⟨x,dn,fj⟩:=Vm (m+1) (h.n+3) n (Ad n h.n h r2) (J8 h.n h r2) (λs x ab=>Vn m n h.n h r2 J9 s x ab) aI h7 i0
  have w5:kA (h.n+3) r2 [.collected (h.n+2)] .none (.ret (.aP []) x)=.ok (.exit 0) r2 [.collected (h.n+2)] .none (x.set (h.n+3) (some (.loop .exhausted (some (.exit 0)) (dM Tryz.f73) r2 [5] m7 nU (h.n+2)))):=by
   simp only[kA,fj.pC]
  refine⟨.exit 0,_,(congrArg (kA (h.n+3) r2 [.collected (h.n+2)] .none) dn).trans w5,.inl ⟨rfl,.inl ⟨rfl,?_⟩⟩⟩
  have go:(x.set (h.n+3) (some (.loop .exhausted (some (.exit 0)) (dM Tryz.f73) r2 [5] m7 nU (h.n+2)))).get (h.n+1)=some (.cells (g3 (gu n)) 120 .own 0 0):=by rw[J.b2,if_neg (by omega)];exact fj.out
  have gd:(x.set (h.n+3) (some (.loop .exhausted (some (.exit 0)) (dM Tryz.f73) r2 [5] m7 nU (h.n+2)))).get (h.n+2)=some (.defrd (some [])):=by rw[J.b2,if_neg (by omega)];exact fj.jn
  have ex:Ext h.n h (x.set (h.n+3) (some (.loop .exhausted (some (.exit 0)) (dM Tryz.f73) r2 [5] m7 nU (h.n+2)))):=fj.ext.trans (Nat.le_refl _) (Ext.set (by omega) _)
  generalize x.set (h.n+3) (some (.loop .exhausted (some (.exit 0)) (dM Tryz.f73) r2 [5] m7 nU (h.n+2)))=y at go gd ex
  have cf:=Af (c1:=.int .u64 (Int.ofNat (gu n).1)) (c2:=.int .u64 (Int.ofNat (gu n).2.1)) (c3:=.int .u8 (Int.ofNat (gu n).2.2.1)) (c4:=.int .i64 (Int.ofNat (gu n).2.2.2)) rfl rfl rfl rfl go
  refine W.of (Vi (C (m+2)) (h.n+1) [.collected (h.n+2)] y _ _ _ _ _ (Ae rfl go) cf) (J9.sub ⟨rfl,trivial⟩) λgB zS=>?_
  let fy:=(y.set (h.n+1) (some (.cells (g3 (gu n)) 120 .own 0 0)))
  have Vs:fy.get (h.n+2)=some (.defrd (some [])):=by simp only[fy];rw[J.b2,if_neg (by omega)];exact gd
  have Vt:(fy.set (h.n+2) (some (.defrd none))).get (h.n+1)=some (.cells (g3 (gu n)) 120 .own 0 0):=by simp only[fy];rw[J.b2,if_neg (by omega),J.b2,if_pos rfl]
  have hR:oY Tryz.prog (dM Tryz.f73) Tryz.f73 gB (fy.set (h.n+2) (some (.defrd none)))=some (.agg (g3 (gu n))):=by
   refine Cv zS ?_
   have ax:Tryz.f73.results.toList=[.cell 2 120]:=by kernel_rfl
   have ay:Nat.testBit (dM Tryz.f73) 2=true:=by kernel_rfl
   have bF:nd Tryz.prog 120=some true:=by kernel_rfl
   have en:dd Tryz.prog 120=some 4:=by kernel_rfl
   have k9:eQ 2 [(2,I.ptr (h.n+1) 0)]=some (.ptr (h.n+1) 0):=rfl
   simp only[mV,ax,mz,ow,ay,bF,en,k9,Ae rfl Vt]
  refine⟨fy.set (h.n+2) (some (.defrd none)),?_,(ex.trans (Nat.le_refl _) (Ext.set (by omega) _)).trans (Nat.le_refl _) (Ext.set (by omega) _)⟩
  show lN Tryz.prog (C (m+2)) Tryz.f73 (.ok .ret gB [.collected (h.n+2)] .none fy)=_
  simp only[lN,jv,Vs,List.nil_append,hR]
 obtain⟨e,r,d,q,an,dw,iF,cT,vZ⟩:=w
 exact⟨iF,HI (intr:=rl) (n:=m+2) (args:=[.int .u64 (Int.ofNat n)]) Tryz.func73 (by kernel_rfl) rfl (by kernel_rfl) ⟨e,r,d,q,an,dw,cT⟩,vZ⟩
end Go.Proofs.dg
namespace Go.Proofs.dg
open Go aB Go.Proofs Go.Proofs.gI
set_option maxRecDepth 100000
abbrev rm:I:=.int .u8 (Int.ofNat 0)
theorem J_(n:Nat)(acc:List UInt8):(I.int .u8 (Int.ofNat (n %256)))::cP acc=cP (UInt8.ofNat (n %256)::acc):=by
 simp only[cP,Vk,Nat.mod_mod]
theorem Ka(call:aF->List I->J->ao)(s:List UInt8)(z b:Nat)(p:I):∀(i m:Nat) (acc:List UInt8) (x:J),i<=z->z<=8->x.get b=some (.cells (List.replicate (i+1) rm++cP acc) 5 .own 0 0)->
  ∃eX,ef Tryz.prog Tryz.f52 none call [1,1,1,1,0,1,0] (i+1) ⟨[(0,.str s),(1,.int .u64 (Int.ofNat m)),(5,p),(6,.slice b 0 (z+1) (.exact (z+1))),(7,.int .i64 (Int.ofNat i))],[],.none,x⟩ (.exit 0) ⟨[(0,.str s),(1,.int .u64 (Int.ofNat (m/256^i))),(5,p),(6,.slice b 0 (z+1) (.exact (z+1)))],[],.none,eX⟩/\
   eX.get b=some (.cells (rm::cP (jJ m i acc)) 5 .own 0 0)/\eJ b x.n x eX
 |0,m,acc,x,ae,a4,ak=>by
  refine⟨x,.exit (cC.post (U5 _ _ _ _ _ _ _ _ (eg (by omega))) ⟨rfl,by simp[eQ],rfl,rfl,trivial⟩) (by simp),ak,eJ.refl _ _ _⟩
 |i+1,m,acc,x,ae,a4,ak=>by
  have e:List.replicate (i+1+1) rm++cP acc=List.replicate (i+1) rm++rm::cP acc:=by rw[List.replicate_succ',List.append_assoc];rfl
  rw[e] at ak
  have st:=HS (.inl rfl) ak (off:=0+(i+1)*1) (x:=.int .u8 (Int.ofNat (m %256))) (by simp) rfl
  rw[J_] at st
  have b7:=zr .u64 (i:=m) (j:=8) (by decide)
  obtain⟨eX,bl,bB,de⟩:=Ka call s z b p i (m/2^8) (UInt8.ofNat (m %256)::acc) (x.set b (some (.cells (List.replicate (i+1) rm++cP (UInt8.ofNat (m %256)::acc)) 5 .own 0 0))) (by omega) a4 (by rw[J.b2,if_pos rfl])
  have em:m/2^8/256^i=m/256^(i+1):=by rw[show(2:Nat)^8=256 from rfl,Nat.div_div_eq_div_mul,Nat.pow_succ,Nat.mul_comm]
  rw[em] at bl
  refine⟨eX,.step ?_ bl,bB,(eJ.set _).trans (Nat.le_refl _) de⟩
  exact(U4 _ _ _ _ _ _ _ _ _ _ _ _ (dx (by omega)) (Ea m x) (by show(_:Nat)<=_;omega) (st) (b7) (pj (by omega) (by omega)))
theorem Kb(m n:Nat)(s:List UInt8)(h:J)(aI:n<18446744073709551616)(hs:s.length<=1000000000):∃an,C (m+4) (.fn 52) [.str s,.int .u64 (Int.ofNat n)] h=.ret (.str (s++ct n)) an/\Ext h.n h an:=by
 obtain⟨al,c1,a8⟩:=Vr m n h aI
 obtain⟨yh,a4,_⟩:=US n aI
 have kX:=UR n aI
 have hlen:=oQ n
 rw[<-kX] at hlen⊢
 generalize Vu:gu n=Vv at c1 yh a4
 obtain⟨cz,to,jK,z⟩:=Vv
 simp only at yh a4
 let ar:=(al.push (.cells [.int .u64 (Int.ofNat 0),.int .u64 (Int.ofNat 0),.int .u8 (Int.ofNat 0),.int .i64 (Int.ofNat 0)] 120 .own 0 0)).set al.n (some (.cells (g3 (cz,to,jK,z)) 120 .own 0 0))
 have s2:=Af (c1:=.int .u64 (Int.ofNat cz)) (c2:=.int .u64 (Int.ofNat to)) (c3:=.int .u8 (Int.ofNat jK)) (c4:=.int .i64 (Int.ofNat z)) rfl rfl rfl rfl (by rw[J.eB,if_pos rfl]:(al.push (.cells [.int .u64 (Int.ofNat 0),.int .u64 (Int.ofNat 0),.int .u8 (Int.ofNat 0),.int .i64 (Int.ofNat 0)] 120 .own 0 0)).get al.n=_)
 have Ed:ar.get al.n=some (.cells (g3 (cz,to,jK,z)) 120 .own 0 0):=by simp only[ar];rw[J.b2,if_pos rfl]
 have bz:ar.n=al.n+1:=rfl
 let aZ:=ar.push (.cells (List.replicate (z+1) rm) 5 .own 0 0)
 have Kc:aZ.get al.n=some (.cells (g3 (cz,to,jK,z)) 120 .own 0 0):=by simp only[aZ];rw[J.eB,if_neg (by omega)];exact Ed
 have Vw:aZ.get ar.n=some (.cells (List.replicate (z+1) rm++cP []) 5 .own 0 0):=by simp only[aZ];rw[J.eB,if_pos rfl];simp[cP]
 have mk:tX Tryz.prog ar 98 (.int .i64 (Int.ofNat (1+z))) (.int .i64 (Int.ofNat (1+z)))=some (.slice ar.n 0 (z+1) (.exact (z+1)),aZ):=by
  rw[Nat.add_comm 1 z]
  exact PJ (i:=((Tryz.prog.info? 5).getD default)) D_ (by kernel_rfl) (by kernel_rfl) (by kernel_rfl) (by kernel_rfl) (by omega) (by omega)
 obtain⟨cb,bl,bB,de⟩:=Ka (C (m+3)) s z ar.n (.ptr al.n 0) z (n-cz) [] aZ (Nat.le_refl _) a4 Vw
 have loop:=ef.run (p:=[1,1,1,1,0,1,0]) (by kernel_rfl) bl (by omega)
 have Vx:cb.get al.n=some (.cells (g3 (cz,to,jK,z)) 120 .own 0 0):=(de.get _ (by simp[aZ,bz];omega) (by omega)).trans Kc
 have ax:(jK+(n-cz)/256^z %256) %256=(jK+(n-cz)/256^z) %256:=by omega
 have qj:cP (oO n)=.int .u8 (Int.ofNat ((jK+(n-cz)/256^z) %256))::cP (jJ (n-cz) z []):=by
  rw[J_];simp only[oO,Vu]
 have s7:(oO n).length=z+1:=by
  have:=congrArg List.length qj
  simp only[ph,List.length_cons,jh] at this
  simpa using this
 let da:=cb.set ar.n (some (.cells (cP (oO n)) 5 .own 0 0))
 have Vy:aB.storeCells cb ar.n (0+0*1) [.int .u8 (Int.ofNat ((jK+(n-cz)/256^z %256) %256))]=some da:=by
  have:=HS (l:=[]) (k:=.own) (.inl rfl) bB (off:=0+0*1) (x:=.int .u8 (Int.ofNat ((jK+(n-cz)/256^z %256) %256))) (by simp) rfl
  rw[this];simp only[da,qj,ax,List.nil_append]
 have Vz:da.get ar.n=some (.cells (cP (oO n)++[]) 5 .own 0 0):=by simp only[da];rw[J.b2,if_pos rfl];simp
 have lR:=HQ (P:=Tryz.prog) (a:=98) (b:=9) (cap:=.exact (oO n).length) D_ uZ uS (.inl rfl) Vz
 rw[s7] at lR
 refine⟨da,?_,?_⟩
 · exact ed (intr:=rl) (n:=m+3) (args:=[.str s,.int .u64 (Int.ofNat n)]) Tryz.func52 (by kernel_rfl) rfl (by kernel_rfl)
    (ec (C (m+3)) n cz to jK z ar.n ((n-cz)/256^z) s h al ar aZ cb ar cz (n-cz) z (1+z) z jK ((n-cz)/256^z %256) ((jK+(n-cz)/256^z %256) %256) da (oO n) (s++oO n)
     c1 s2 (by simp only[au,Ed];rfl) (zq (by omega) aI) (by simp only[au,Ed];rfl) (qM (by omega)) mk (by simp only[au,Kc];rfl) (cC.pre loop ⟨rfl,rfl,rfl,rfl,rfl,trivial⟩ rfl rfl rfl)
     (by simp only[au,Vx];rfl) (Ea _ cb) PI (by show 1<=z+1;omega) Vy lR (fa (by omega))) (.inl rfl) (by kernel_rfl)
 · have c9:Ext h.n h ar:=(a8.trans (Nat.le_refl _) (Ext.push a8.n _)).trans (Nat.le_refl _) (Ext.set a8.n _)
   have af:h.n<=ar.n:=by have:=a8.n;omega
   have dJ:Ext h.n h aZ:=c9.trans (Nat.le_refl _) (Ext.push af _)
   exact(dJ.trans (Nat.le_refl _) ((de.le (by have:=dJ.n;omega)).PL af)).trans (Nat.le_refl _) (Ext.set af _)
theorem xu(t:List UInt8):(cV t).length<=9+t.length:=by
 have:=oQ t.length
 unfold cV;rw[List.length_append];omega
theorem VA(m:Nat)(s t:List UInt8)(h:J)(hs:s.length<=100000000)(aU:t.length<=100000000):∃an,C (m+5) (.fn 64) [.str s,.str t] h=.ret (.str (s++cV t)) an/\Ext h.n h an:=by
 obtain⟨g,c1,a8⟩:=Kb m t.length s h (by omega) (by omega)
 have aq:=oQ t.length
 refine⟨g,?_,a8⟩
 rw[cV,<-List.append_assoc]
 exact ed (intr:=rl) (n:=m+4) (args:=[.str s,.str t]) Tryz.func64 (by kernel_rfl) rfl (by kernel_rfl) (sZ (C (m+4)) s t h _ _ g _ (Ac _ (by omega) h) c1 (fa (by simp;omega))) (.inl rfl) (by kernel_rfl)
end Go.Proofs.dg
namespace Go.Proofs.dg
open Go aB Go.Proofs Go.Proofs.gI
set_option maxRecDepth 100000
set_option maxHeartbeats 1000000
theorem v7(call:aF->List I->J->ao)(p:Nat)(h:J)(cx:Bool)
  (H1:au h p (0+1)=some (.bool cx)):
  az Tryz.prog Tryz.f26 none call [] (ah.mk [(0,.ptr p 0)] [] .none h) (.ret)
   (ah.mk [(2,.bool !cx)] [] .none h):=
 bh [2] (hs:=[.v (.bool !false),.b true,.b true,.b true,.b true,.v (.bool cx),.b true,.b true]) (by kernel_rfl)<| .cons (by kernel_rfl:ej Tryz.prog h BinOp.neq 60 (Operand.tmp 3) (Operand.const (Value.pointer none)) (I.ptr p 0) I.bm=some (I.bool !false))<| .cons (by kernel_rfl:(!false)=true)<| .cons (by kernel_rfl:(!false)=true)<| .cons (by kernel_rfl:(!false)=true)<| .cons (by kernel_rfl:(!false)=true)<| .cons H1<| .cons (by kernel_rfl:(!false)=true)<| .cons (by kernel_rfl:(!false)=true)<| .nil
theorem s5:∀s:List UInt8,dU s []=s.isEmpty
 |[]=>rfl
 |_::_=>rfl
end Go.Proofs.dg
namespace Go.Proofs.dg
open Go aB Go.Proofs Go.Proofs.gI
set_option maxRecDepth 100000
set_option maxHeartbeats 1000000
def pP(h:J)(p:Nat)(v:I)(s:List UInt8):Prop:=
 (s=[]/\∃b o,v=.slice b o 0 .dead)\/∃b pre,v=.slice b pre.length s.length (.aS 1)/\b<h.n/\b<p/\h.get b=some (.cells (cP (pre++s)) 5 .aS 0 0)
def rn(h:J)(p:Nat):j5->Prop
 |none=>p<h.n/\h.get p=some (.cells [.bf,.bool true] 100 .own 0 0)
 |some s=>p<h.n/\s.length<=1000000/\∃v,h.get p=some (.cells [v,.bool false] 100 .own 0 0)/\pP h p v s
end Go.Proofs.dg
namespace Go.Proofs.dg
open Go aB Go.Proofs Go.Proofs.gI
set_option maxRecDepth 100000
set_option maxHeartbeats 1000000
def Kd:Nat->Nat×Nat×Nat×Nat
 |0=>(0,240,0,0)
 |1=>(240,2287,241,1)
 |2=>(2288,67823,249,2)
 |k=>(0,256^k-1,247+k,k)
section
variable (m l:Nat) (l4:Nat->J->Prop) (Q:J->Prop)
 (a2:∀k x,k<9->l4 k x->(∃eX,C m (.b8 l) [.agg (g3 (Kd k))] x=.ret (.bool true) eX/\l4 (k+1) eX)\/(∃eX,C m (.b8 l) [.agg (g3 (Kd k))] x=.ret (.bool false) eX/\Q eX))
include a2
end
end Go.Proofs.dg
namespace Go.Proofs.dg
open Go aB Go.Proofs Go.Proofs.gI
set_option maxRecDepth 100000
set_option maxHeartbeats 1000000
end Go.Proofs.dg
namespace Go.Proofs.dg
open Go aB Go.Proofs Go.Proofs.gI
set_option maxRecDepth 100000
set_option maxHeartbeats 1000000
end Go.Proofs.dg
