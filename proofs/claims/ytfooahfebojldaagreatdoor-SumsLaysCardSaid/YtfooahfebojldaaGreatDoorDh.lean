/-
  PROVED HERE: contracts of functions (Dh). No condition beside each statement's own.
-/
import Derived.Test.YtfooahfebojldaaGreatDoorSxa
import Derived.Test.YtfooahfebojldaaGreatDoorDg
import Derived.Test.YtfooahfebojldaaGreatDoorProg
set_option linter.unusedVariables false
set_option linter.unusedSimpArgs false
namespace Go.Proofs.hy
open Go aD
def j1:Nat->Nat->List UInt8->List UInt8
 |_,0,acc=>acc
 |n,k+1,acc=>j1 (n/256) k (UInt8.ofNat (n %256)::acc)
theorem jD:∀(k n:Nat) (acc:List UInt8),(j1 n k acc).length=k+acc.length
 |0,n,acc=>by simp[j1]
 |k+1,n,acc=>by rw[j1,jD k];simp;omega
def jc(n:Nat):Nat->Nat->Nat
 |0,m=>m
 |k+1,m=>if n<256^m then m else jc n k (m+1)
theorem AQ(n:Nat):∀(k m:Nat),m<=jc n k m/\jc n k m<=m+k
 |0,m=>by simp[jc]
 |k+1,m=>by
  have:=AQ n k (m+1)
  simp only[jc];split<;>omega
theorem E6(n:Nat):∀(k m:Nat),n<256^(m+k)->n<256^(jc n k m)
 |0,m,h=>by simpa[jc] using h
 |k+1,m,h=>by
  simp only[jc]
  split
  · assumption
  · exact E6 n k (m+1) (by have e:m+1+k=m+(k+1):=by omega
                           rw[e];exact h)
def iJ(n:Nat):Nat:=jc n 5 3
def df(n:Nat):List UInt8:=
 if n<=240 then j1 n 1 [] else if n<=2287 then j1 (241+(n-240)/256) 1 []++j1 ((n-240) %256) 1 []
 else if n<=67823 then j1 249 1 []++j1 (n-2288) 2 [] else j1 (247+iJ n) 1 []++j1 n (iJ n) []
def gN(n:Nat):Nat×Nat×Nat×Nat:=
 if n<=240 then(0,240,0,0) else if n<=2287 then(240,2287,241,1) else if n<=67823 then(2288,67823,249,2)
 else(0,256^iJ n-1,247+iJ n,iJ n)
def pd(n:Nat):List UInt8:=UInt8.ofNat (((gN n).2.2.1+(n-(gN n).1)/256^(gN n).2.2.2) %256)::j1 (n-(gN n).1) (gN n).2.2.2 []
theorem WV(n:Nat)(h:n<18446744073709551616):pd n=df n:=by
 unfold pd df gN
 by_cases aa:n<=240
 · simp only[if_pos aa,j1,Nat.sub_zero,Nat.pow_zero,Nat.div_one,Nat.zero_add]
 · by_cases ad:n<=2287
   · simp only[if_neg aa,if_pos ad,j1,Nat.pow_one,List.singleton_append,List.cons_append,List.nil_append]
     rw[Nat.mod_mod]
   · by_cases ax:n<=67823
     · have e:(n-2288)/256^2=0:=Nat.div_eq_of_lt (by omega)
       simp only[if_neg aa,if_neg ad,if_pos ax,e,Nat.add_zero]
       rfl
     · have hs:n<256^iJ n:=E6 n 5 3 (by simpa using h)
       have e:n/256^iJ n=0:=Nat.div_eq_of_lt hs
       simp only[if_neg aa,if_neg ad,if_neg ax,Nat.sub_zero,e,Nat.add_zero]
       rfl
theorem WW(n:Nat)(h:n<18446744073709551616):(gN n).1<=n/\(gN n).2.2.2<=8/\n<=(gN n).2.1:=by
 unfold gN
 by_cases aa:n<=240
 · simp[aa]
 · by_cases ad:n<=2287
   · simp only[if_neg aa,if_pos ad];omega
   · by_cases ax:n<=67823
     · simp only[if_neg aa,if_neg ad,if_pos ax];omega
     · have hs:n<256^iJ n:=E6 n 5 3 (by simpa using h)
       have:=AQ n 5 3
       simp only[if_neg aa,if_neg ad,if_neg ax]
       unfold iJ at hs⊢
       omega
end Go.Proofs.hy
namespace Go.Proofs.hy
open Go aD
def xZ(b:Nat):Nat:=if b<=240 then 0 else if b<=248 then 1 else if b=249 then 2 else b-247
def AR:Nat->List UInt8->Nat
 |a,[]=>a
 |a,c::t=>AR (a*256+c.toNat) t
def Lc(b:Nat)(t:List UInt8):Nat:=if b<=240 then b else if b<=248 then 240+256*(b-241)+AR 0 t else if b=249 then 2288+AR 0 t else AR 0 t
def rdNum:List UInt8->Option (Nat×List UInt8)
 |[]=>none
 |b::t=>if t.length<xZ b.toNat then none else if df (Lc b.toNat (t.take (xZ b.toNat)))=b::t.take (xZ b.toNat) then some (Lc b.toNat (t.take (xZ b.toNat)),t.drop (xZ b.toNat)) else none
abbrev kn:=Option (List UInt8)
def pe:kn->Nat×kn
 |none=>(0,none)
 |some s=>match rdNum s with
  |none=>(0,none)
  |some (n,r)=>(n,some r)
def qi(n:Nat):kn->List UInt8×kn
 |none=>([],none)
 |some s=>if n<=s.length then(s.take n,some (s.drop n)) else([],none)
def rG(st:kn):List UInt8×kn:=qi (pe st).1 (pe st).2
def left:kn->List UInt8
 |none=>[]
 |some s=>s
end Go.Proofs.hy
namespace Go.Proofs.ej
open Go aD Go.Proofs Go.Proofs.hy
set_option maxRecDepth 100000
theorem ae(call:ay->List I->J->an)(n z:Nat)(s:List UInt8)(h ad:J)
  (H1:av Tryz.prog Tryz.f67 none call [1,1,0,1,0] (ag.mk [(6,.int .i64 (.ofNat 0)),(5,.str []),(4,.str []),(0,.int .u64 (.ofNat n)),(1,.int .i64 (.ofNat z))] [] .none h) (.exit 0) (ag.mk [(5,.str s)] [] .none ad)):
  av Tryz.prog Tryz.f67 none call [] (ag.mk [(0,.int .u64 (.ofNat n)),(1,.int .i64 (.ofNat z))] [] .none h) (.ret)
   (ag.mk [(4,.str s)] [] .none ad):=
 a1 [4] (hs:=[Hint.loop (bF.exit 0) (ag.mk [(5,I.str s)] [] bJ.none ad)]) (by kernel_rfl)<| .cons H1<| .nil
theorem WX(call:ay->List I->J->an)(n z i c m:Nat)(s t t2:List UInt8)(h:J)(ca dy:Nat)
  (H1:bC (.ofNat i) (.ofNat z)=true)
  (az:arith .rem .u64 (.ofNat n) (.ofNat 256)=some (.int .u64 (.ofNat m)))
  (a0:eR Tryz.prog 65 5 (I.int IntKind.u64 (Int.ofNat m)) h=fs.val (I.int IntKind.u8 (Int.ofNat c)) h)
  (aS:eR Tryz.prog 98 9 (I.slice (J.n h) 0 1 (b5.exact 1)) (J.push h (cx.cells [I.int IntKind.u8 (Int.ofNat c)] 5 eC.own 0 0))=fs.val (I.str t) (J.push h (cx.cells [I.int IntKind.u8 (Int.ofNat c)] 5 eC.own 0 0)))
  (bo:eQ .add t s=some (.str t2))
  (bV:arith .quo .u64 (.ofNat n) (.ofNat 256)=some (.int .u64 (.ofNat ca)))
  (cw:arith .add .i64 (.ofNat i) (.ofNat 1)=some (.int .i64 (.ofNat dy))):
  av Tryz.prog Tryz.f67 none call [1,1,0,1,0,0] (ag.mk [(0,.int .u64 (.ofNat n)),(1,.int .i64 (.ofNat z)),(5,.str s),(6,.int .i64 (.ofNat i))] [] .none h) (.nrm)
   (ag.mk [(0,.int .u64 (.ofNat ca)),(1,.int .i64 (.ofNat z)),(5,.str t2),(6,.int .i64 (.ofNat dy))] [] .none (J.push h (.cells [.int .u8 (.ofNat c)] 5 .own 0 0))):=
 a1 [0,1,5,6] (hs:=[.b true,.v (.int .u64 (.ofNat m)),.v (.int .u8 (.ofNat c)),.v (.str t),.v (.str t2),.v (.int .u64 (.ofNat ca)),.v (.int .i64 (.ofNat dy))]) (by kernel_rfl)<| .cons H1<| .cons az<| .cons a0<| .cons aS<| .cons bo<| .cons bV<| .cons cw<| .nil
theorem WY(call:ay->List I->J->an)(n z i c m:Nat)(s t t2:List UInt8)(h:J)
  (H1:bC (.ofNat i) (.ofNat z)=false):
  av Tryz.prog Tryz.f67 none call [1,1,0,1,0,0] (ag.mk [(0,.int .u64 (.ofNat n)),(1,.int .i64 (.ofNat z)),(5,.str s),(6,.int .i64 (.ofNat i))] [] .none h) (.exit 0)
   (ag.mk [(0,.int .u64 (.ofNat n)),(1,.int .i64 (.ofNat z)),(5,.str s),(6,.int .i64 (.ofNat i))] [] .none h):=
 a1 [0,1,5,6] (hs:=[.b false]) (by kernel_rfl)<| .cons H1<| .nil
theorem WZ(call:ay->List I->J->an)(n m:Nat)(s:List UInt8)(h:J)(cS:List UInt8)(bk:J)(eE:List UInt8)
  (H1:dn (.ofNat n) (.ofNat 240)=true)
  (az:call (.fn 67) [.int .u64 (.ofNat n),.int .i64 (.ofNat 1)] h=an.ret (.str cS) bk)
  (a0:eQ .add s cS=some (.str eE)):
  av Tryz.prog Tryz.f44 none call [] (ag.mk [(0,.str s),(1,.int .u64 (.ofNat n))] [] .none h) (.ret)
   (ag.mk [(4,.str eE)] [] .none bk):=
 a1 [4] (hs:=[.b true,.c (.str cS) bk,.v (.str eE)]) (by kernel_rfl)<| .cons H1<| .cons az<| .cons a0<| .nil
theorem W0(call:ay->List I->J->an)(n m:Nat)(s:List UInt8)(h:J)(ca dy fr:Nat)(cS:List UInt8)(bk:J)(eE:List UInt8)(gF:Nat)(n9:List UInt8)(dB:J)(n_:List UInt8)
  (H1:dn (.ofNat n) (.ofNat 240)=false)
  (az:dn (.ofNat n) (.ofNat 2287)=true)
  (a0:arith .sub .u64 (.ofNat n) (.ofNat 240)=some (.int .u64 (.ofNat ca)))
  (aS:arith .quo .u64 (.ofNat ca) (.ofNat 256)=some (.int .u64 (.ofNat dy)))
  (bo:arith .add .u64 (.ofNat 241) (.ofNat dy)=some (.int .u64 (.ofNat fr)))
  (bV:call (.fn 67) [.int .u64 (.ofNat fr),.int .i64 (.ofNat 1)] h=an.ret (.str cS) bk)
  (cw:eQ .add s cS=some (.str eE))
  (dS:arith .rem .u64 (.ofNat ca) (.ofNat 256)=some (.int .u64 (.ofNat gF)))
  (fJ:call (.fn 67) [.int .u64 (.ofNat gF),.int .i64 (.ofNat 1)] bk=an.ret (.str n9) dB)
  (hF:eQ .add eE n9=some (.str n_)):
  av Tryz.prog Tryz.f44 none call [] (ag.mk [(0,.str s),(1,.int .u64 (.ofNat n))] [] .none h) (.ret)
   (ag.mk [(4,.str n_)] [] .none dB):=
 a1 [4] (hs:=[.b false,.b true,.v (.int .u64 (.ofNat ca)),.v (.int .u64 (.ofNat dy)),.v (.int .u64 (.ofNat fr)),.c (.str cS) bk,.v (.str eE),.v (.int .u64 (.ofNat ca)),.v (.int .u64 (.ofNat gF)),.c (.str n9) dB,.v (.str n_)]) (by kernel_rfl)<| .cons H1<| .cons az<| .cons a0<| .cons aS<| .cons bo<| .cons bV<| .cons cw<| .cons a0<| .cons dS<| .cons fJ<| .cons hF<| .nil
theorem W1(call:ay->List I->J->an)(n m:Nat)(s:List UInt8)(h:J)(cS:List UInt8)(bk:J)(eE:List UInt8)(ca:Nat)(n9:List UInt8)(dB:J)(n_:List UInt8)
  (H1:dn (.ofNat n) (.ofNat 240)=false)
  (az:dn (.ofNat n) (.ofNat 2287)=false)
  (a0:dn (.ofNat n) (.ofNat 67823)=true)
  (aS:call (.fn 67) [.int .u64 (.ofNat 249),.int .i64 (.ofNat 1)] h=an.ret (.str cS) bk)
  (bo:eQ .add s cS=some (.str eE))
  (bV:arith .sub .u64 (.ofNat n) (.ofNat 2288)=some (.int .u64 (.ofNat ca)))
  (cw:call (.fn 67) [.int .u64 (.ofNat ca),.int .i64 (.ofNat 2)] bk=an.ret (.str n9) dB)
  (dS:eQ .add eE n9=some (.str n_)):
  av Tryz.prog Tryz.f44 none call [] (ag.mk [(0,.str s),(1,.int .u64 (.ofNat n))] [] .none h) (.ret)
   (ag.mk [(4,.str n_)] [] .none dB):=
 a1 [4] (hs:=[.b false,.b false,.b true,.c (.str cS) bk,.v (.str eE),.v (.int .u64 (.ofNat ca)),.c (.str n9) dB,.v (.str n_)]) (by kernel_rfl)<| .cons H1<| .cons az<| .cons a0<| .cons aS<| .cons bo<| .cons bV<| .cons cw<| .cons dS<| .nil
theorem W2(call:ay->List I->J->an)(n m:Nat)(s:List UInt8)(h:J)(ca dy:Nat)(cS:List UInt8)(bk:J)(eE n9:List UInt8)(dB:J)(n_:List UInt8)
  (H1:dn (.ofNat n) (.ofNat 240)=false)
  (az:dn (.ofNat n) (.ofNat 2287)=false)
  (a0:dn (.ofNat n) (.ofNat 67823)=false)
  (aS:av Tryz.prog Tryz.f44 none call [1,1,1,0,0] (ag.mk [(5,.int .i64 (.ofNat 3)),(28,.bool (dn (.ofNat n) (.ofNat 67823))),(13,.bool (dn (.ofNat n) (.ofNat 2287))),(6,.bool (dn (.ofNat n) (.ofNat 240))),(4,.str []),(0,.str s),(1,.int .u64 (.ofNat n))] [] .none h) (.exit 1) (ag.mk [(0,.str s),(1,.int .u64 (.ofNat n)),(5,.int .i64 (.ofNat m))] [] .none h))
  (bo:arith .add .i64 (.ofNat 247) (.ofNat m)=some (.int .i64 (.ofNat ca)))
  (bV:eR Tryz.prog 3 65 (I.int IntKind.i64 (Int.ofNat ca)) h=fs.val (I.int IntKind.u64 (Int.ofNat dy)) h)
  (cw:call (.fn 67) [.int .u64 (.ofNat dy),.int .i64 (.ofNat 1)] h=an.ret (.str cS) bk)
  (dS:eQ .add s cS=some (.str eE))
  (fJ:call (.fn 67) [.int .u64 (.ofNat n),.int .i64 (.ofNat m)] bk=an.ret (.str n9) dB)
  (hF:eQ .add eE n9=some (.str n_)):
  av Tryz.prog Tryz.f44 none call [] (ag.mk [(0,.str s),(1,.int .u64 (.ofNat n))] [] .none h) (.ret)
   (ag.mk [(4,.str n_)] [] .none dB):=
 a1 [4] (hs:=[Hint.b false,Hint.b false,Hint.b false,Hint.loop (bF.exit 1) (ag.mk [(0,I.str s),(1,I.int IntKind.u64 (Int.ofNat n)),(5,I.int IntKind.i64 (Int.ofNat m))] [] bJ.none h),Hint.v (I.int IntKind.i64 (Int.ofNat ca)),Hint.v (I.int IntKind.u64 (Int.ofNat dy)),Hint.c (I.str cS) bk,Hint.v (I.str eE),Hint.c (I.str n9) dB,Hint.v (I.str n_)]) (by kernel_rfl)<| .cons H1<| .cons az<| .cons a0<| .cons aS<| .cons bo<| .cons bV<| .cons cw<| .cons dS<| .cons fJ<| .cons hF<| .nil
theorem W3(call:ay->List I->J->an)(n m:Nat)(s:List UInt8)(h:J)(ca dy fr:Nat)
  (H1:bC (.ofNat m) (.ofNat 8)=true)
  (az:arith .mul .i64 (.ofNat 8) (.ofNat m)=some (.int .i64 (.ofNat ca)))
  (a0:mP .shr .u64 (.ofNat n) (.ofNat ca)=some (.int .u64 (.ofNat dy)))
  (aS:bC (.ofNat 0) (.ofNat dy)=true)
  (bo:arith .add .i64 (.ofNat m) (.ofNat 1)=some (.int .i64 (.ofNat fr))):
  av Tryz.prog Tryz.f44 none call [1,1,1,0,0,0] (ag.mk [(0,.str s),(1,.int .u64 (.ofNat n)),(5,.int .i64 (.ofNat m))] [] .none h) (.nrm)
   (ag.mk [(0,.str s),(1,.int .u64 (.ofNat n)),(5,.int .i64 (.ofNat fr))] [] .none h):=
 a1 [0,1,5] (hs:=[.b true,.b true,.b true,.v (.int .i64 (.ofNat ca)),.b true,.v (.int .u64 (.ofNat dy)),.b true,.b true,.b true,.v (.int .i64 (.ofNat fr))]) (by kernel_rfl)<| .cons H1<| .cons H1<| .cons H1<| .cons az<| .cons H1<| .cons a0<| .cons H1<| .cons H1<| .cons aS<| .cons bo<| .nil
theorem W4(call:ay->List I->J->an)(n m:Nat)(s:List UInt8)(h:J)(ca dy:Nat)
  (H1:bC (.ofNat m) (.ofNat 8)=true)
  (az:arith .mul .i64 (.ofNat 8) (.ofNat m)=some (.int .i64 (.ofNat ca)))
  (a0:mP .shr .u64 (.ofNat n) (.ofNat ca)=some (.int .u64 (.ofNat dy)))
  (aS:bC (.ofNat 0) (.ofNat dy)=false):
  av Tryz.prog Tryz.f44 none call [1,1,1,0,0,0] (ag.mk [(0,.str s),(1,.int .u64 (.ofNat n)),(5,.int .i64 (.ofNat m))] [] .none h) (.exit 1)
   (ag.mk [(0,.str s),(1,.int .u64 (.ofNat n)),(5,.int .i64 (.ofNat m))] [] .none h):=
 a1 [0,1,5] (hs:=[.b true,.b true,.b true,.v (.int .i64 (.ofNat ca)),.b true,.v (.int .u64 (.ofNat dy)),.b true,.b true,.b false]) (by kernel_rfl)<| .cons H1<| .cons H1<| .cons H1<| .cons az<| .cons H1<| .cons a0<| .cons H1<| .cons H1<| .cons aS<| .nil
theorem W5(call:ay->List I->J->an)(n m:Nat)(s:List UInt8)(h:J)
  (H1:bC (.ofNat m) (.ofNat 8)=false):
  av Tryz.prog Tryz.f44 none call [1,1,1,0,0,0] (ag.mk [(0,.str s),(1,.int .u64 (.ofNat n)),(5,.int .i64 (.ofNat m))] [] .none h) (.exit 1)
   (ag.mk [(0,.str s),(1,.int .u64 (.ofNat n)),(5,.int .i64 (.ofNat m))] [] .none h):=
 a1 [0,1,5] (hs:=[.b false,.b false,.b false,.b false,.b false,.b false,.b false]) (by kernel_rfl)<| .cons H1<| .cons H1<| .cons H1<| .cons H1<| .cons H1<| .cons H1<| .cons (by kernel_rfl:false=false)<| .nil
theorem W6(call:ay->List I->J->an)(s t:List UInt8)(h:J)(ca:Nat)(cS:List UInt8)(bk:J)(eE:List UInt8)
  (H1:eR Tryz.prog 3 65 (I.int IntKind.i64 (Int.ofNat (List.length t))) h=fs.val (I.int IntKind.u64 (Int.ofNat ca)) h)
  (az:call (.fn 44) [.str s,.int .u64 (.ofNat ca)] h=an.ret (.str cS) bk)
  (a0:eQ .add cS t=some (.str eE)):
  av Tryz.prog Tryz.f43 none call [] (ag.mk [(0,.str s),(1,.str t)] [] .none h) (.ret)
   (ag.mk [(4,.str eE)] [] .none bk):=
 a1 [4] (hs:=[.v (.int .u64 (.ofNat ca)),.c (.str cS) bk,.v (.str eE)]) (by kernel_rfl)<| .cons H1<| .cons az<| .cons a0<| .nil
theorem ez(call:ay->List I->J->an)(n cJ to j2 z b m:Nat)(s:List UInt8)(h ao ar aZ ch bk:J)(ca dy fr gF jE ld E7 AS:Nat)(dB:J)(cS eE:List UInt8)
  (H1:call (.fn 73) [.int .u64 (.ofNat n)] h=an.ret (.agg [.int .u64 (.ofNat cJ),.int .u64 (.ofNat to),.int .u8 (.ofNat j2),.int .i64 (.ofNat z)]) ao)
  (az:aD.storeCells (J.push ao (.cells [.int .u64 (.ofNat 0),.int .u64 (.ofNat 0),.int .u8 (.ofNat 0),.int .i64 (.ofNat 0)] 120 .own 0 0)) (J.n ao) 0 [.int .u64 (.ofNat cJ),.int .u64 (.ofNat to),.int .u8 (.ofNat j2),.int .i64 (.ofNat z)]=some bk)
  (a0:aq bk (J.n ao) (0+0)=some (.int .u64 (.ofNat ca)))
  (aS:arith .sub .u64 (.ofNat n) (.ofNat ca)=some (.int .u64 (.ofNat dy)))
  (bo:aq bk (J.n ao) (0+3)=some (.int .i64 (.ofNat fr)))
  (bV:arith .add .i64 (.ofNat 1) (.ofNat fr)=some (.int .i64 (.ofNat gF)))
  (cw:uq Tryz.prog bk 98 (I.int IntKind.i64 (Int.ofNat gF)) (I.int IntKind.i64 (Int.ofNat gF))=some (I.slice b 0 (z+1) (b5.exact (z+1)),aZ))
  (dS:aq aZ (J.n ao) (0+3)=some (.int .i64 (.ofNat jE)))
  (fJ:av Tryz.prog Tryz.f52 none call [1,1,1,1,0,1,0] (ag.mk [(7,.int .i64 (.ofNat jE)),(6,.slice b 0 (z+1) (.exact (z+1))),(1,.int .u64 (.ofNat dy)),(5,.ptr (J.n ao) 0),(4,.str []),(0,.str s)] [] .none aZ) (.exit 0) (ag.mk [(0,.str s),(1,.int .u64 (.ofNat m)),(5,.ptr (J.n ao) 0),(6,.slice b 0 (z+1) (.exact (z+1)))] [] .none ch))
  (hF:aq ch (J.n ao) (0+2)=some (.int .u8 (.ofNat ld)))
  (kk:eR Tryz.prog 65 5 (I.int IntKind.u64 (Int.ofNat m)) ch=fs.val (I.int IntKind.u8 (Int.ofNat E7)) ch)
  (lT:arith .add .u8 (.ofNat ld) (.ofNat E7)=some (.int .u8 (.ofNat AS)))
  (o6:Nat.le 1 (z+1))
  (uZ:aD.storeCells ch b (0+0*1) [.int .u8 (.ofNat AS)]=some dB)
  (xD:eR Tryz.prog 98 9 (I.slice b 0 (z+1) (b5.exact (z+1))) dB=fs.val (I.str cS) dB)
  (xE:eQ .add s cS=some (.str eE)):
  av Tryz.prog Tryz.f52 none call [] (ag.mk [(0,.str s),(1,.int .u64 (.ofNat n))] [] .none h) (.ret)
   (ag.mk [(4,.str eE)] [] .none dB):=
 a1 [4] (hs:=[Hint.c (I.agg [I.int IntKind.u64 (Int.ofNat cJ),I.int IntKind.u64 (Int.ofNat to),I.int IntKind.u8 (Int.ofNat j2),I.int IntKind.i64 (Int.ofNat z)]) ao,Hint.ih (I.aW []) bk,Hint.v (I.int IntKind.u64 (Int.ofNat ca)),Hint.v (I.int IntKind.u64 (Int.ofNat dy)),Hint.v (I.int IntKind.i64 (Int.ofNat fr)),Hint.v (I.int IntKind.i64 (Int.ofNat gF)),Hint.ih (I.slice b 0 (z+1) (b5.exact (z+1))) aZ,Hint.v (I.int IntKind.i64 (Int.ofNat jE)),Hint.loop (bF.exit 0) (ag.mk [(0,I.str s),(1,I.int IntKind.u64 (Int.ofNat m)),(5,I.ptr (J.n ao) 0),(6,I.slice b 0 (z+1) (b5.exact (z+1)))] [] bJ.none ch),Hint.v (I.int IntKind.u8 (Int.ofNat ld)),Hint.v (I.int IntKind.u8 (Int.ofNat E7)),Hint.v (I.int IntKind.u8 (Int.ofNat AS)),Hint.v (I.ptr b (0+0*1)),Hint.ih (I.aW []) dB,Hint.v (I.str cS),Hint.v (I.str eE)]) (by kernel_rfl)<| .cons H1<| .cons (⟨by kernel_rfl,az,rfl⟩:some 4=some 4/\aD.storeCells (J.push ao (cx.cells [I.int IntKind.u64 (Int.ofNat 0),I.int IntKind.u64 (Int.ofNat 0),I.int IntKind.u8 (Int.ofNat 0),I.int IntKind.i64 (Int.ofNat 0)] 120 eC.own 0 0)) (J.n ao) 0 [I.int IntKind.u64 (Int.ofNat cJ),I.int IntKind.u64 (Int.ofNat to),I.int IntKind.u8 (Int.ofNat j2),I.int IntKind.i64 (Int.ofNat z)]=some bk/\I.aW []=I.aW [])<| .cons a0<| .cons aS<| .cons bo<| .cons bV<| .cons cw<| .cons dS<| .cons fJ<| .cons hF<| .cons kk<| .cons lT<| .cons (⟨o6,rfl⟩:Nat.le 1 (z+1)/\I.ptr b (0+0*1)=I.ptr b (0+0*1))<| .cons (⟨by kernel_rfl,uZ,rfl⟩:some 1=some 1/\aD.storeCells ch b (0+0*1) [I.int IntKind.u8 (Int.ofNat AS)]=some dB/\I.aW []=I.aW [])<| .cons xD<| .cons xE<| .nil
theorem W7(call:ay->List I->J->an)(n i z b:Nat)(s:List UInt8)(h:J)(p:I)(ca:Nat)(bk:J)(dy fr:Nat)
  (H1:bC (.ofNat 0) (.ofNat i)=true)
  (az:eR Tryz.prog 65 5 (I.int IntKind.u64 (Int.ofNat n)) h=fs.val (I.int IntKind.u8 (Int.ofNat ca)) h)
  (a0:Nat.le (Nat.succ i) (z+1))
  (aS:aD.storeCells h b (0+i*1) [.int .u8 (.ofNat ca)]=some bk)
  (bo:mP .shr .u64 (.ofNat n) (.ofNat 8)=some (.int .u64 (.ofNat dy)))
  (bV:arith .sub .i64 (.ofNat i) (.ofNat 1)=some (.int .i64 (.ofNat fr))):
  av Tryz.prog Tryz.f52 none call [1,1,1,1,0,1,0,0] (ag.mk [(0,.str s),(1,.int .u64 (.ofNat n)),(5,p),(6,.slice b 0 (z+1) (.exact (z+1))),(7,.int .i64 (.ofNat i))] [] .none h) (.nrm)
   (ag.mk [(0,.str s),(1,.int .u64 (.ofNat dy)),(5,p),(6,.slice b 0 (z+1) (.exact (z+1))),(7,.int .i64 (.ofNat fr))] [] .none bk):=
 a1 [0,1,5,6,7] (hs:=[.b true,.v (.int .u8 (.ofNat ca)),.v (.ptr b (0+i*1)),.ih (.aW []) bk,.v (.int .u64 (.ofNat dy)),.v (.int .i64 (.ofNat fr))]) (by kernel_rfl)<| .cons H1<| .cons az<| .cons (⟨a0,rfl⟩:Nat.le (Nat.succ i) (z+1)/\I.ptr b (0+i*1)=I.ptr b (0+i*1))<| .cons (⟨by kernel_rfl,aS,rfl⟩:some 1=some 1/\aD.storeCells h b (0+i*1) [I.int IntKind.u8 (Int.ofNat ca)]=some bk/\I.aW []=I.aW [])<| .cons bo<| .cons bV<| .nil
theorem W8(call:ay->List I->J->an)(n i z b:Nat)(s:List UInt8)(h:J)(p:I)
  (H1:bC (.ofNat 0) (.ofNat i)=false):
  av Tryz.prog Tryz.f52 none call [1,1,1,1,0,1,0,0] (ag.mk [(0,.str s),(1,.int .u64 (.ofNat n)),(5,p),(6,.slice b 0 (z+1) (.exact (z+1))),(7,.int .i64 (.ofNat i))] [] .none h) (.exit 0)
   (ag.mk [(0,.str s),(1,.int .u64 (.ofNat n)),(5,p),(6,.slice b 0 (z+1) (.exact (z+1))),(7,.int .i64 (.ofNat i))] [] .none h):=
 a1 [0,1,5,6,7] (hs:=[.b false]) (by kernel_rfl)<| .cons H1<| .nil
theorem nZ(call:ay->List I->J->an)(s t:List UInt8)(h:J)(ca:Nat)(cS:List UInt8)(bk:J)(eE:List UInt8)
  (H1:eR Tryz.prog 3 65 (I.int IntKind.i64 (Int.ofNat (List.length t))) h=fs.val (I.int IntKind.u64 (Int.ofNat ca)) h)
  (az:call (.fn 52) [.str s,.int .u64 (.ofNat ca)] h=an.ret (.str cS) bk)
  (a0:eQ .add cS t=some (.str eE)):
  av Tryz.prog Tryz.f64 none call [] (ag.mk [(0,.str s),(1,.str t)] [] .none h) (.ret)
   (ag.mk [(4,.str eE)] [] .none bk):=
 a1 [4] (hs:=[.v (.int .u64 (.ofNat ca)),.c (.str cS) bk,.v (.str eE)]) (by kernel_rfl)<| .cons H1<| .cons az<| .cons a0<| .nil
theorem W9(call:ay->List I->J->an)(h:J):
  av Tryz.prog Tryz.f72 none call [] (ag.mk [] [] .none h) (.ret)
   (ag.mk [(0,.fn 89 [] [])] [] .none h):=
 a1 [0] (hs:=[]) (by kernel_rfl)<| .nil
theorem W_(call:ay->List I->J->an)(l:Nat)(e:bF)(h ad:J)(cI:Bool)(bk:J)
  (H1:call (.cc l) [.agg [.int .u64 (.ofNat 0),.int .u64 (.ofNat 240),.int .u8 (.ofNat 0),.int .i64 (.ofNat 0)]] h=an.ret (.bool cI) bk)
  (az:(!cI)=true):
  av Tryz.prog Tryz.f89 none call [0] (ag.mk [(0,.cc l)] [] .none h) (.ret)
   (ag.mk [(0,.cc l)] [] .none bk):=
 a1 [0] (hs:=[.c (.bool cI) bk,.b true,.b true,.b true,.b true,.b true,.b true,.b true,.b true,.b true,.b true,.b true]) (by kernel_rfl)<| .cons H1<| .cons az<| .cons az<| .cons az<| .cons az<| .cons az<| .cons (by kernel_rfl:true=true)<| .cons (by kernel_rfl:true=true)<| .cons (by kernel_rfl:true=true)<| .cons (by kernel_rfl:true=true)<| .cons (by kernel_rfl:true=true)<| .cons (by kernel_rfl:true=true)<| .nil
theorem Xa(call:ay->List I->J->an)(l:Nat)(e:bF)(h ad:J)(cI:Bool)(bk:J)(ja:Bool)(dB:J)
  (H1:call (.cc l) [.agg [.int .u64 (.ofNat 0),.int .u64 (.ofNat 240),.int .u8 (.ofNat 0),.int .i64 (.ofNat 0)]] h=an.ret (.bool cI) bk)
  (az:(!cI)=false)
  (a0:call (.cc l) [.agg [.int .u64 (.ofNat 240),.int .u64 (.ofNat 2287),.int .u8 (.ofNat 241),.int .i64 (.ofNat 1)]] bk=an.ret (.bool ja) dB)
  (aS:(!ja)=true):
  av Tryz.prog Tryz.f89 none call [0] (ag.mk [(0,.cc l)] [] .none h) (.ret)
   (ag.mk [(0,.cc l)] [] .none dB):=
 a1 [0] (hs:=[.c (.bool cI) bk,.b false,.b false,.b false,.c (.bool ja) dB,.b false,.b false,.b true,.b true,.b true,.b true,.b true,.b true]) (by kernel_rfl)<| .cons H1<| .cons az<| .cons az<| .cons az<| .cons a0<| .cons az<| .cons az<| .cons aS<| .cons aS<| .cons aS<| .cons aS<| .cons aS<| .cons (by kernel_rfl:true=true)<| .nil
theorem Xb(call:ay->List I->J->an)(l:Nat)(e:bF)(h ad:J)(cI:Bool)(bk:J)(ja:Bool)(dB:J)(tw:Bool)(kL:J)
  (H1:call (.cc l) [.agg [.int .u64 (.ofNat 0),.int .u64 (.ofNat 240),.int .u8 (.ofNat 0),.int .i64 (.ofNat 0)]] h=an.ret (.bool cI) bk)
  (az:(!cI)=false)
  (a0:call (.cc l) [.agg [.int .u64 (.ofNat 240),.int .u64 (.ofNat 2287),.int .u8 (.ofNat 241),.int .i64 (.ofNat 1)]] bk=an.ret (.bool ja) dB)
  (aS:(!ja)=false)
  (bo:call (.cc l) [.agg [.int .u64 (.ofNat 2288),.int .u64 (.ofNat 67823),.int .u8 (.ofNat 249),.int .i64 (.ofNat 2)]] dB=an.ret (.bool tw) kL)
  (bV:(!tw)=true):
  av Tryz.prog Tryz.f89 none call [0] (ag.mk [(0,.cc l)] [] .none h) (.ret)
   (ag.mk [(0,.cc l)] [] .none kL):=
 a1 [0] (hs:=[.c (.bool cI) bk,.b false,.b false,.b false,.c (.bool ja) dB,.b false,.b false,.b false,.b false,.b false,.c (.bool tw) kL,.b false,.b false,.b true]) (by kernel_rfl)<| .cons H1<| .cons az<| .cons az<| .cons az<| .cons a0<| .cons az<| .cons az<| .cons aS<| .cons aS<| .cons aS<| .cons bo<| .cons aS<| .cons aS<| .cons bV<| .nil
theorem Xc(call:ay->List I->J->an)(l:Nat)(e:bF)(h ad:J)(cI:Bool)(bk:J)(ja:Bool)(dB:J)(tw:Bool)(kL:J)
  (H1:call (.cc l) [.agg [.int .u64 (.ofNat 0),.int .u64 (.ofNat 240),.int .u8 (.ofNat 0),.int .i64 (.ofNat 0)]] h=an.ret (.bool cI) bk)
  (az:(!cI)=false)
  (a0:call (.cc l) [.agg [.int .u64 (.ofNat 240),.int .u64 (.ofNat 2287),.int .u8 (.ofNat 241),.int .i64 (.ofNat 1)]] bk=an.ret (.bool ja) dB)
  (aS:(!ja)=false)
  (bo:call (.cc l) [.agg [.int .u64 (.ofNat 2288),.int .u64 (.ofNat 67823),.int .u8 (.ofNat 249),.int .i64 (.ofNat 2)]] dB=an.ret (.bool tw) kL)
  (bV:(!tw)=false):
  av Tryz.prog Tryz.f89 none call [0] (ag.mk [(0,.cc l)] [] .none h) (.nrm)
   (ag.mk [(0,.cc l)] [] .none kL):=
 a1 [0] (hs:=[.c (.bool cI) bk,.b false,.b false,.b false,.c (.bool ja) dB,.b false,.b false,.b false,.b false,.b false,.c (.bool tw) kL,.b false,.b false,.b false]) (by kernel_rfl)<| .cons H1<| .cons az<| .cons az<| .cons az<| .cons a0<| .cons az<| .cons az<| .cons aS<| .cons aS<| .cons aS<| .cons bo<| .cons aS<| .cons aS<| .cons bV<| .nil
theorem Xd(call:ay->List I->J->an)(l:Nat)(h:J):
  av Tryz.prog Tryz.f89 none call [1,0] (ag.mk [(0,.cc l)] [] .none h) (.nrm)
   (ag.mk [(0,.cc l),(2,.int .i64 (.ofNat 3))] [] .none h):=
 a1 [0,2] (hs:=[]) (by kernel_rfl)<| .nil
theorem Xe(call:ay->List I->J->an)(l i:Nat)(h:J)(ca dy fr gF jE:Nat)(cI:Bool)(bk:J)
  (H1:dn (.ofNat i) (.ofNat 8)=true)
  (az:arith .sub .i64 (.ofNat 8) (.ofNat i)=some (.int .i64 (.ofNat ca)))
  (a0:arith .mul .i64 (.ofNat 8) (.ofNat ca)=some (.int .i64 (.ofNat dy)))
  (aS:mP .shr .u64 (.ofNat 18446744073709551615) (.ofNat dy)=some (.int .u64 (.ofNat fr)))
  (bo:arith .add .i64 (.ofNat 247) (.ofNat i)=some (.int .i64 (.ofNat gF)))
  (bV:eR Tryz.prog 3 5 (I.int IntKind.i64 (Int.ofNat gF)) h=fs.val (I.int IntKind.u8 (Int.ofNat jE)) h)
  (cw:call (.cc l) [.agg [.int .u64 (.ofNat 0),.int .u64 (.ofNat fr),.int .u8 (.ofNat jE),.int .i64 (.ofNat i)]] h=an.ret (.bool cI) bk)
  (dS:(!cI)=true):
  av Tryz.prog Tryz.f89 none call [1,1,0,0] (ag.mk [(0,.cc l),(2,.int .i64 (.ofNat i))] [] .none h) (.ret)
   (ag.mk [(0,.cc l),(2,.int .i64 (.ofNat i))] [] .none bk):=
 a1 [0,2] (hs:=[.b true,.v (.int .i64 (.ofNat ca)),.v (.int .i64 (.ofNat dy)),.v (.int .u64 (.ofNat fr)),.v (.int .i64 (.ofNat gF)),.v (.int .u8 (.ofNat jE)),.c (.bool cI) bk,.b true]) (by kernel_rfl)<| .cons H1<| .cons az<| .cons a0<| .cons aS<| .cons bo<| .cons bV<| .cons cw<| .cons dS<| .nil
theorem Xf(call:ay->List I->J->an)(l i:Nat)(h:J)(ca dy fr gF jE:Nat)(cI:Bool)(bk:J)(ld:Nat)
  (H1:dn (.ofNat i) (.ofNat 8)=true)
  (az:arith .sub .i64 (.ofNat 8) (.ofNat i)=some (.int .i64 (.ofNat ca)))
  (a0:arith .mul .i64 (.ofNat 8) (.ofNat ca)=some (.int .i64 (.ofNat dy)))
  (aS:mP .shr .u64 (.ofNat 18446744073709551615) (.ofNat dy)=some (.int .u64 (.ofNat fr)))
  (bo:arith .add .i64 (.ofNat 247) (.ofNat i)=some (.int .i64 (.ofNat gF)))
  (bV:eR Tryz.prog 3 5 (I.int IntKind.i64 (Int.ofNat gF)) h=fs.val (I.int IntKind.u8 (Int.ofNat jE)) h)
  (cw:call (.cc l) [.agg [.int .u64 (.ofNat 0),.int .u64 (.ofNat fr),.int .u8 (.ofNat jE),.int .i64 (.ofNat i)]] h=an.ret (.bool cI) bk)
  (dS:(!cI)=false)
  (fJ:arith .add .i64 (.ofNat i) (.ofNat 1)=some (.int .i64 (.ofNat ld))):
  av Tryz.prog Tryz.f89 none call [1,1,0,0] (ag.mk [(0,.cc l),(2,.int .i64 (.ofNat i))] [] .none h) (.nrm)
   (ag.mk [(0,.cc l),(2,.int .i64 (.ofNat ld))] [] .none bk):=
 a1 [0,2] (hs:=[.b true,.v (.int .i64 (.ofNat ca)),.v (.int .i64 (.ofNat dy)),.v (.int .u64 (.ofNat fr)),.v (.int .i64 (.ofNat gF)),.v (.int .u8 (.ofNat jE)),.c (.bool cI) bk,.b false,.v (.int .i64 (.ofNat ld))]) (by kernel_rfl)<| .cons H1<| .cons az<| .cons a0<| .cons aS<| .cons bo<| .cons bV<| .cons cw<| .cons dS<| .cons fJ<| .nil
theorem Xg(call:ay->List I->J->an)(n:Nat)(h:J):
  av Tryz.prog Tryz.f73 none call [0] (ag.mk [(0,.int .u64 (.ofNat n))] [] .none h) (.nrm)
   (ag.mk [(1,.ptr (J.n h) 0),(2,.ptr (J.n (J.push h (.cells [.int .u64 (.ofNat n)] 65 .own 0 0))) 0)] [] .none (J.push (J.push h (.cells [.int .u64 (.ofNat n)] 65 .own 0 0)) (.cells [.int .u64 (.ofNat 0),.int .u64 (.ofNat 0),.int .u8 (.ofNat 0),.int .i64 (.ofNat 0)] 120 .own 0 0))):=
 a1 [1,2] (hs:=[]) (by kernel_rfl)<| .nil
theorem Xh(call:ay->List I->J->an)(a b:Nat)(h:J)(E8:I)(bk:J)
  (H1:call (.fn 72) [] h=an.ret E8 bk):
  av Tryz.prog Tryz.f73 none call [1,0,0] (ag.mk [(1,.ptr a 0),(2,.ptr b 0)] [] .none h) (.nrm)
   (ag.mk [(1,.ptr a 0),(2,.ptr b 0),(4,E8)] [] .none bk):=
 a1 [1,2,4] (hs:=[.c E8 bk]) (by kernel_rfl)<| .cons H1<| .nil
theorem Xi(call:ay->List I->J->an)(l a b:Nat)(x:List I)(h bk:J)
  (H1:some 4=some (List.length x)/\aD.storeCells (J.push h (cx.cells [I.int IntKind.u64 (Int.ofNat 0),I.int IntKind.u64 (Int.ofNat 0),I.int IntKind.u8 (Int.ofNat 0),I.int IntKind.i64 (Int.ofNat 0)] 120 eC.own 0 0)) (J.n h) 0 x=some bk/\I.aW []=I.aW []):
  av Tryz.prog Tryz.f73 (some l) call [1,0,1,0,0] (ag.mk [(5,.agg x),(1,.ptr a 0),(2,.ptr b 0)] [] .none h) (.nrm)
   (ag.mk [(1,.ptr a 0),(2,.ptr b 0),(3,.ptr (J.n h) 0)] [] .none bk):=
 a1 [1,2,3] (hs:=[.ih (.aW []) bk]) (by kernel_rfl)<| .cons H1<| .nil
theorem Xj(call:ay->List I->J->an)(l a b c:Nat)(h:J)(ca dy fr gF:Nat)(bk:J)(jE ld:Nat)
  (H1:aD.loadCells h c 0 4=some [.int .u64 (.ofNat ca),.int .u64 (.ofNat dy),.int .u8 (.ofNat fr),.int .i64 (.ofNat gF)])
  (az:aD.storeCells h b 0 [.int .u64 (.ofNat ca),.int .u64 (.ofNat dy),.int .u8 (.ofNat fr),.int .i64 (.ofNat gF)]=some bk)
  (a0:aq bk a 0=some (.int .u64 (.ofNat jE)))
  (aS:aq bk c (0+1)=some (.int .u64 (.ofNat ld)))
  (bo:dn (.ofNat jE) (.ofNat ld)=true):
  av Tryz.prog Tryz.f73 (some l) call [1,0,1,0,1] (ag.mk [(1,.ptr a 0),(2,.ptr b 0),(3,.ptr c 0)] [] .none h) (.exit 0)
   (ag.mk [] [] .none bk):=
 a1 [] (hs:=[.v (.agg [.int .u64 (.ofNat ca),.int .u64 (.ofNat dy),.int .u8 (.ofNat fr),.int .i64 (.ofNat gF)]),.ih (.aW []) bk,.v (.int .u64 (.ofNat jE)),.v (.int .u64 (.ofNat ld)),.b true]) (by kernel_rfl)<| .cons H1<| .cons (⟨by kernel_rfl,az,rfl⟩:some 4=some 4/\aD.storeCells h b 0 [I.int IntKind.u64 (Int.ofNat ca),I.int IntKind.u64 (Int.ofNat dy),I.int IntKind.u8 (Int.ofNat fr),I.int IntKind.i64 (Int.ofNat gF)]=some bk/\I.aW []=I.aW [])<| .cons a0<| .cons aS<| .cons bo<| .nil
theorem Xk(call:ay->List I->J->an)(l a b c:Nat)(h:J)(ca dy fr gF:Nat)(bk:J)(jE ld:Nat)
  (H1:aD.loadCells h c 0 4=some [.int .u64 (.ofNat ca),.int .u64 (.ofNat dy),.int .u8 (.ofNat fr),.int .i64 (.ofNat gF)])
  (az:aD.storeCells h b 0 [.int .u64 (.ofNat ca),.int .u64 (.ofNat dy),.int .u8 (.ofNat fr),.int .i64 (.ofNat gF)]=some bk)
  (a0:aq bk a 0=some (.int .u64 (.ofNat jE)))
  (aS:aq bk c (0+1)=some (.int .u64 (.ofNat ld)))
  (bo:dn (.ofNat jE) (.ofNat ld)=false):
  av Tryz.prog Tryz.f73 (some l) call [1,0,1,0,1] (ag.mk [(1,.ptr a 0),(2,.ptr b 0),(3,.ptr c 0)] [] .none h) (.nrm)
   (ag.mk [] [] .none bk):=
 a1 [] (hs:=[.v (.agg [.int .u64 (.ofNat ca),.int .u64 (.ofNat dy),.int .u8 (.ofNat fr),.int .i64 (.ofNat gF)]),.ih (.aW []) bk,.v (.int .u64 (.ofNat jE)),.v (.int .u64 (.ofNat ld)),.b false]) (by kernel_rfl)<| .cons H1<| .cons (⟨by kernel_rfl,az,rfl⟩:some 4=some 4/\aD.storeCells h b 0 [I.int IntKind.u64 (Int.ofNat ca),I.int IntKind.u64 (Int.ofNat dy),I.int IntKind.u8 (Int.ofNat fr),I.int IntKind.i64 (Int.ofNat gF)]=some bk/\I.aW []=I.aW [])<| .cons a0<| .cons aS<| .cons bo<| .nil
theorem Xl(call:ay->List I->J->an)(b:Nat)(d:List b1)(h:J)(ca dy fr gF:Nat)(bk:J)
  (H1:aD.loadCells h b 0 4=some [.int .u64 (.ofNat ca),.int .u64 (.ofNat dy),.int .u8 (.ofNat fr),.int .i64 (.ofNat gF)])
  (az:aD.storeCells h b 0 [.int .u64 (.ofNat ca),.int .u64 (.ofNat dy),.int .u8 (.ofNat fr),.int .i64 (.ofNat gF)]=some bk):
  av Tryz.prog Tryz.f73 none call [1,1] (ag.mk [(2,.ptr b 0)] d .none h) (.ret)
   (ag.mk [(2,.ptr b 0)] d .none bk):=
 a1 [2] (hs:=[.v (.agg [.int .u64 (.ofNat ca),.int .u64 (.ofNat dy),.int .u8 (.ofNat fr),.int .i64 (.ofNat gF)]),.ih (.aW []) bk]) (by kernel_rfl)<| .cons H1<| .cons (⟨by kernel_rfl,az,rfl⟩:some 4=some 4/\aD.storeCells h b 0 [I.int IntKind.u64 (Int.ofNat ca),I.int IntKind.u64 (Int.ofNat dy),I.int IntKind.u8 (Int.ofNat fr),I.int IntKind.i64 (Int.ofNat gF)]=some bk/\I.aW []=I.aW [])<| .nil
noncomputable abbrev rH:Nat->List I->J->Option (I×J):=Go.Proofs.cR.bT
noncomputable abbrev C(n:Nat):ay->List I->J->an:=Go.Proofs.cR.Y n
theorem Ld:Tryz.prog.underlying 65=some (.int .u64):=by kernel_rfl
theorem vi:Tryz.prog.underlying 5=some (.int .u8):=by kernel_rfl
theorem E9:Tryz.prog.underlying 3=some (.int .i64):=by kernel_rfl
theorem E_:Tryz.prog.underlying 98=some (.slice 5):=by kernel_rfl
theorem u6:Tryz.prog.underlying 9=some .string:=by kernel_rfl
theorem Fa(n:Nat)(h:J):eR Tryz.prog 65 5 (.int .u64 (Int.ofNat n)) h=.val (.int .u8 (Int.ofNat (n %256))) h:=z2 Ld vi (wrap_u8 n)
theorem Xm(n:Nat)(h:J):eR Tryz.prog 3 5 (.int .i64 (Int.ofNat n)) h=.val (.int .u8 (Int.ofNat (n %256))) h:=z2 E9 vi (wrap_u8 n)
theorem AT(n:Nat)(aK:n<9223372036854775808)(h:J):eR Tryz.prog 3 65 (.int .i64 (Int.ofNat n)) h=.val (.int .u64 (Int.ofNat n)) h:=z2 E9 Ld (zZ n (by omega))
theorem Xn(n:Nat):(UInt8.ofNat n).toNat=n %256:=by simp
theorem Le(call:ay->List I->J->an)(z:Nat)(a4:z<=8):∀(k i n:Nat) (s:List UInt8) (h:J),z-i=k->i<=z->n<18446744073709551616->s.length<=i->
  ∃al,dH Tryz.prog Tryz.f67 none call [1,1,0,1,0] (k+1) ⟨[(0,.int .u64 (Int.ofNat n)),(1,.int .i64 (Int.ofNat z)),(5,.str s),(6,.int .i64 (Int.ofNat i))],[],.none,h⟩ (.exit 0) ⟨[(5,.str (j1 n k s))],[],.none,al⟩/\Ext h.n h al
 |0,i,n,s,h,aw,ae,aK,hs=>⟨h,.exit (ck.post (WY call n z i 0 0 s [] [] h (eh (by omega))) ⟨rfl,trivial⟩) (by simp),Ext.refl _ _⟩
 |k+1,i,n,s,h,aw,ae,aK,hs=>by
  have aj:(h.push (.cells [.int .u8 (Int.ofNat (n %256 %256))] 5 .own 0 0)).get h.n=some (.cells (c5 [UInt8.ofNat (n %256)]++[]) 5 .own 0 0):=by
   rw[J.eA,if_pos rfl];simp[c5]
  have ah:=IV (P:=Tryz.prog) (a:=98) (b:=9) (cap:=.exact 1) E_ vi u6 (.inl rfl) aj
  have st:=WX call n z i (n %256 %256) (n %256) s [UInt8.ofNat (n %256)] _ h (n/256) (i+1) (ds (by omega)) (IT .u64 (by omega)) (Fa (n %256) h) ah (fo (x:=[UInt8.ofNat (n %256)]) (y:=s) (by simp;omega)) (IS (by omega) aK) (q4 (by omega))
  obtain⟨al,bp,bB⟩:=Le call z a4 k (i+1) (n/256) (UInt8.ofNat (n %256)::s) _ (by omega) (by omega) (by have:=Nat.div_le_self n 256;omega) (by simp;omega)
  exact⟨al,.step st bp,(Ext.push (Nat.le_refl _) _).trans (Nat.le_succ _) bB⟩
theorem tx(m n z:Nat)(h:J)(aK:n<18446744073709551616)(a4:z<=8):∃al,C (m+1) (.fn 67) [.int .u64 (Int.ofNat n),.int .i64 (Int.ofNat z)] h=.ret (.str (j1 n z [])) al/\Ext h.n h al:=by
 obtain⟨al,bp,bB⟩:=Le (C m) z a4 z 0 n [] h (by omega) (by omega) aK (by simp)
 have loop:=dH.run (p:=[1,1,0,1,0]) (by kernel_rfl) bp (by omega)
 exact⟨al,dJ (intr:=rH) (n:=m) (args:=[.int .u64 (Int.ofNat n),.int .i64 (Int.ofNat z)]) Tryz.func67 (by kernel_rfl) rfl (by kernel_rfl) (ae (C m) n z _ h al (ck.pre loop ⟨rfl,rfl,rfl,rfl,trivial⟩ rfl rfl rfl)) (.inl rfl) (by kernel_rfl),bB⟩
theorem Lf(call:ay->List I->J->an)(n:Nat)(aK:n<18446744073709551616)(s:List UInt8)(h:J):∀(k m:Nat),8-m=k->m<=8->
  dH Tryz.prog Tryz.f44 none call [1,1,1,0,0] (k+1) ⟨[(0,.str s),(1,.int .u64 (Int.ofNat n)),(5,.int .i64 (Int.ofNat m))],[],.none,h⟩ (.exit 1) ⟨[(0,.str s),(1,.int .u64 (Int.ofNat n)),(5,.int .i64 (Int.ofNat (jc n k m)))],[],.none,h⟩
 |0,m,aw,hm=>by
  have:m=8:=by omega
  subst this
  exact .exit (W5 call n 8 s h (eh (by omega))) (by simp)
 |k+1,m,aw,hm=>by
  have e:(256:Nat)^m=2^(8*m):=by rw[Nat.pow_mul]
  simp only[jc]
  by_cases cy:n<256^m
  · rw[if_pos cy]
    have h0:n/2^(8*m)=0:=by rw[<-e];exact Nat.div_eq_of_lt cy
    exact .exit (W4 call n m s h (8*m) (n/2^(8*m)) (ds (by omega)) (w7 (by omega)) (z1 .u64 (by show 8*m<=64;omega)) (eh (by omega))) (by simp)
  · rw[if_neg cy]
    have h0:0<n/2^(8*m):=by rw[<-e];exact Nat.div_pos (by omega) (Nat.pow_pos (by omega))
    exact .step (W3 call n m s h (8*m) (n/2^(8*m)) (m+1) (ds (by omega)) (w7 (by omega)) (z1 .u64 (by show 8*m<=64;omega)) (ds h0) (q4 (by omega))) (Lf call n aK s h k (m+1) (by omega) (by omega))
theorem rI(m n:Nat)(s:List UInt8)(h:J)(aK:n<18446744073709551616)(hs:s.length<=1000000000):∃al,C (m+2) (.fn 44) [.str s,.int .u64 (Int.ofNat n)] h=.ret (.str (s++df n)) al/\Ext h.n h al:=by
 have fin:∀{Γ:Env} {al:J} {v:I},av Tryz.prog Tryz.f44 none (C (m+1)) [] ⟨[(0,.str s),(1,.int .u64 (Int.ofNat n))],[],.none,h⟩ .ret ⟨Γ,[],.none,al⟩->na Tryz.prog (d_ Tryz.f44) Tryz.f44 Γ al=some v->
   C (m+2) (.fn 44) [.str s,.int .u64 (Int.ofNat n)] h=.ret v al:=λai h5=>
  dJ (intr:=rH) (n:=m+1) (args:=[.str s,.int .u64 (Int.ofNat n)]) Tryz.func44 (by kernel_rfl) rfl (by kernel_rfl) ai (.inl rfl) h5
 unfold df
 by_cases aa:n<=240
 · rw[if_pos aa]
   obtain⟨g,c1,bh⟩:=tx m n 1 h aK (by omega)
   exact⟨g,fin (WZ (C (m+1)) n 0 s h _ g _ (iV aa) c1 (fo (by rw[jD];simp;omega))) (by kernel_rfl),bh⟩
 · by_cases ad:n<=2287
   · rw[if_neg aa,if_pos ad]
     obtain⟨g,c1,bh⟩:=tx m (241+(n-240)/256) 1 h (by omega) (by omega)
     obtain⟨ar,c2,bz⟩:=tx m ((n-240) %256) 1 g (by omega) (by omega)
     refine⟨ar,?_,bh.trans bh.n bz⟩
     rw[<-List.append_assoc]
     exact fin (W0 (C (m+1)) n 0 s h _ _ _ _ g _ _ _ ar _ (js aa) (iV ad) (z0 (by omega) aK) (IS (by omega) (by omega)) (IQ (by omega)) c1 (fo (by rw[jD];simp;omega)) (IT .u64 (by omega)) c2 (fo (by rw[List.length_append,jD,jD];simp;omega))) (by kernel_rfl)
   · by_cases ax:n<=67823
     · rw[if_neg aa,if_neg ad,if_pos ax]
       obtain⟨g,c1,bh⟩:=tx m 249 1 h (by omega) (by omega)
       obtain⟨ar,c2,bz⟩:=tx m (n-2288) 2 g (by omega) (by omega)
       refine⟨ar,?_,bh.trans bh.n bz⟩
       rw[<-List.append_assoc]
       exact fin (W1 (C (m+1)) n 0 s h _ g _ _ _ ar _ (js aa) (js ad) (iV ax) c1 (fo (by rw[jD];simp;omega)) (z0 (by omega) aK) c2 (fo (by rw[List.length_append,jD,jD];simp;omega))) (by kernel_rfl)
     · rw[if_neg aa,if_neg ad,if_neg ax]
       have a4:=AQ n 5 3
       have loop:=dH.run (p:=[1,1,1,0,0]) (by kernel_rfl) (Lf (C (m+1)) n aK s h 5 3 rfl (by omega)) (by omega)
       obtain⟨g,c1,bh⟩:=tx m (247+iJ n) 1 h (by unfold iJ;omega) (by omega)
       obtain⟨ar,c2,bz⟩:=tx m n (iJ n) g aK (by unfold iJ;omega)
       refine⟨ar,?_,bh.trans bh.n bz⟩
       rw[<-List.append_assoc]
       exact fin (W2 (C (m+1)) n (iJ n) s h (247+iJ n) (247+iJ n) _ g _ _ ar _ (js aa) (js ad) (js ax) (ck.pre loop ⟨rfl,rfl,rfl,trivial⟩ rfl rfl rfl) (q4 (by unfold iJ;omega)) (AT _ (by unfold iJ;omega) h) c1 (fo (by rw[jD];simp;omega)) c2 (fo (by rw[List.length_append,jD,jD];unfold iJ;simp;omega))) (by kernel_rfl)
theorem tz(n:Nat):(df n).length<=9:=by
 have:=AQ n 5 3
 unfold df
 split
 · rw[jD];simp
 · split
   · rw[List.length_append,jD,jD];simp
   · split
     · rw[List.length_append,jD,jD];simp
     · rw[List.length_append,jD,jD];unfold iJ;simp;omega
def ev(t:List UInt8):List UInt8:=df t.length++t
theorem AU(m:Nat)(s t:List UInt8)(h:J)(hs:s.length<=100000000)(a6:t.length<=100000000):∃al,C (m+3) (.fn 43) [.str s,.str t] h=.ret (.str (s++ev t)) al/\Ext h.n h al:=by
 obtain⟨g,c1,bh⟩:=rI m t.length s h (by omega) (by omega)
 have au:=tz t.length
 refine⟨g,?_,bh⟩
 rw[ev,<-List.append_assoc]
 exact dJ (intr:=rH) (n:=m+2) (args:=[.str s,.str t]) Tryz.func43 (by kernel_rfl) rfl (by kernel_rfl) (W6 (C (m+2)) s t h _ _ g _ (AT _ (by omega) h) c1 (fo (by simp;omega))) (.inl rfl) (by kernel_rfl)
end Go.Proofs.ej
namespace Go.Proofs.ej
open Go aD Go.Proofs Go.Proofs.hy
set_option maxRecDepth 100000
def hk(s:Nat×Nat×Nat×Nat):List I:=[.int .u64 (Int.ofNat s.1),.int .u64 (Int.ofNat s.2.1),.int .u8 (Int.ofNat s.2.2.1),.int .i64 (Int.ofNat s.2.2.2)]
theorem Xo(i:Nat)(aa:3<=i)(ad:i<=8):18446744073709551615/2^(8*(8-i))=256^i-1:=by
 have:i=3\/i=4\/i=5\/i=6\/i=7\/i=8:=by omega
 rcases this with rfl|rfl|rfl|rfl|rfl|rfl<;>rfl
section
variable (m l n:Nat) (mq:J->Prop) (Q:Nat×Nat×Nat×Nat->J->Prop)
 (bg:∀s x,mq x->(n<=s.2.1->∃cW,C m (.cc l) [.agg (hk s)] x=.ret (.bool false) cW/\Q s cW)/\(¬n<=s.2.1->∃cW,C m (.cc l) [.agg (hk s)] x=.ret (.bool true) cW/\mq cW))
include bg
theorem Lg(aK:n<18446744073709551616):∀(k i:Nat) (x:J),8-i=k->3<=i->i<=8->mq x->
  ∃cW,dH Tryz.prog Tryz.f89 none (C m) [1,1,0] (k+1) ⟨[(0,.cc l),(2,.int .i64 (Int.ofNat i))],[],.none,x⟩ .ret ⟨[],[],.none,cW⟩/\Q (0,256^jc n k i-1,247+jc n k i,jc n k i) cW
 |k,i,x,aw,ax,g1,ab=>by
  have hs:=Xo i ax g1
  have bl:0<256^i:=Nat.pow_pos (by omega)
  have kS:=Xm (247+i) x
  rw[Nat.mod_eq_of_lt (by omega)] at kS
  have iD:=z1 .u64 (i:=18446744073709551615) (j:=8*(8-i)) (by show 8*(8-i)<=64;omega)
  rw[hs] at iD
  obtain⟨gj,e5⟩:=bg (0,256^i-1,247+i,i) x ab
  by_cases hle:n<=256^i-1
  · obtain⟨cW,c1,c2⟩:=gj hle
    refine⟨cW,.exit (ck.post (Xe (C m) l i x _ _ _ _ _ false cW (iV g1) (pP g1 (by omega)) (w7 (by omega)) iD (q4 (by omega)) kS c1 rfl) trivial) (by simp),?_⟩
    have:jc n k i=i:=by
     cases k with
     |zero=>rfl
     |succ k=>simp only[jc];rw[if_pos (by omega)]
    rw[this];exact c2
  · obtain⟨cW,c1,c2⟩:=e5 hle
    cases k with
    |zero=>
     have:i=8:=by omega
     subst this
     exact absurd (by omega:n<=256^8-1) hle
    |succ k=>
     obtain⟨bz,bp,bB⟩:=Lg aK k (i+1) cW (by omega) (by omega) (by omega) c2
     refine⟨bz,.step (Xf (C m) l i x _ _ _ _ _ true cW _ (iV g1) (pP g1 (by omega)) (w7 (by omega)) iD (q4 (by omega)) kS c1 rfl (q4 (by omega))) bp,?_⟩
     simp only[jc];rw[if_neg (by omega)];exact bB
theorem Xp(aK:n<18446744073709551616)(x:J)(ab:mq x):∃cW,C (m+1) (.fn 89) [.cc l] x=.ret (.aW []) cW/\Q (gN n) cW:=by
 have fin:∀{Γ:Env} {cW:J},av Tryz.prog Tryz.f89 none (C m) [] ⟨[(0,.cc l)],[],.none,x⟩ .ret ⟨Γ,[],.none,cW⟩->C (m+1) (.fn 89) [.cc l] x=.ret (.aW []) cW:=λai=>
  dJ (intr:=rH) (n:=m) (args:=[.cc l]) Tryz.func89 (by kernel_rfl) rfl (by kernel_rfl) ai (.inl rfl) (by kernel_rfl)
 obtain⟨dD,ef⟩:=bg (0,240,0,0) x ab
 by_cases aa:n<=240
 · obtain⟨bh,c1,aV⟩:=dD aa
   have:gN n=(0,240,0,0):=by simp[gN,aa]
   rw[this]
   exact⟨bh,fin (av.e_ (p:=[]) (by kernel_rfl) (W_ (C m) l .nrm x x false bh c1 rfl) (by simp)),aV⟩
 · obtain⟨bh,c1,i1⟩:=ef aa
   obtain⟨a8,aI⟩:=bg (240,2287,241,1) bh i1
   by_cases ad:n<=2287
   · obtain⟨bz,c2,aN⟩:=a8 ad
     have:gN n=(240,2287,241,1):=by simp[gN,aa,ad]
     rw[this]
     exact⟨bz,fin (av.e_ (p:=[]) (by kernel_rfl) (Xa (C m) l .nrm x x true bh false bz c1 rfl c2 rfl) (by simp)),aN⟩
   · obtain⟨bz,c2,i2⟩:=aI ad
     obtain⟨d1,d2⟩:=bg (2288,67823,249,2) bz i2
     by_cases ax:n<=67823
     · obtain⟨db,c3,cz⟩:=d1 ax
       have:gN n=(2288,67823,249,2):=by simp[gN,aa,ad,ax]
       rw[this]
       exact⟨db,fin (av.e_ (p:=[]) (by kernel_rfl) (Xb (C m) l .nrm x x true bh true bz false db c1 rfl c2 rfl c3 rfl) (by simp)),cz⟩
     · obtain⟨db,c3,i3⟩:=d2 ax
       obtain⟨k7,bp,bB⟩:=Lg m l n mq Q bg aK 5 3 db rfl (by omega) (by omega) i3
       have loop:=av.nb (p:=[1,1]) (id:=0) (by kernel_rfl) (dH.run (p:=[1,1,0]) (by kernel_rfl) bp (by omega)) (by simp)
       have:gN n=(0,256^jc n 5 3-1,247+jc n 5 3,jc n 5 3):=by simp[gN,aa,ad,ax,iJ]
       rw[this]
       exact⟨k7,fin (av.seq (p:=[]) (by kernel_rfl) (Xc (C m) l .nrm x x true bh true bz true db c1 rfl c2 rfl c3 rfl) (av.seq (p:=[1]) (by kernel_rfl) (Xd (C m) l db) loop)),bB⟩
end
noncomputable def nr:Code:=sub (fX Tryz.f73) [1,0,1,0,0]
noncomputable def oc:Code:=sub (fX Tryz.f73) [1,0,1,0,1]
structure AV(n N:Nat)(h:J)(r:aT)(x:J):Prop where
 num:x.get N=some (.cells [.int .u64 (Int.ofNat n)] 65 .own 0 0)
 out:∃a b c d,x.get (N+1)=some (.cells [a,b,c,d] 120 .own 0 0)
 jG:x.get (N+2)=some (.defrd (some []))
 p3:x.get (N+3)=some (.loop .ready none (d_ Tryz.f73) r [5] nr oc (N+2))
 ext:Ext N h x
 pI:N+4<=x.n
structure Lh(N:Nat)(h:J)(r:aT)(s:Nat×Nat×Nat×Nat)(x:J):Prop where
 out:x.get (N+1)=some (.cells (hk s) 120 .own 0 0)
 jG:x.get (N+2)=some (.defrd (some []))
 p3:x.get (N+3)=some (.loop .done (some (.exit 0)) (d_ Tryz.f73) r [5] nr oc (N+2))
 ext:Ext N h x
theorem AW{h:J}{b t:Nat}{x:List I}(ab:x.length=4)(aj:h.get b=some (.cells x t .own 0 0)):aD.loadCells h b 0 4=some x:=by
 have:=zV (xs:=x) (rest:=[]) (by simpa using aj)
 rwa [ab] at this
theorem AX{h:J}{b t:Nat}{dD ef g2 kG c1 c2 c3 c4:I}(aa:c1.bY=true)(ad:c2.bY=true)(ax:c3.bY=true)(aO:c4.bY=true)(aj:h.get b=some (.cells [dD,ef,g2,kG] t .own 0 0)):aD.storeCells h b 0 [c1,c2,c3,c4]=some (h.set b (some (.cells [c1,c2,c3,c4] t .own 0 0))):=by
 have hw:jf .own 0 0 0 [c1,c2,c3,c4].length=true:=rfl
 simp only[aD.storeCells,aj,hw,ff,aa,ad,ax,aO]
theorem Xq(m n N:Nat)(h:J)(r:aT)(hm:aD.Mod r [(1,.ptr N 0),(2,.ptr (N+1) 0)])(s:Nat×Nat×Nat×Nat)(x:J)(ae:AV n N h r x):
  (n<=s.2.1->∃cW,C (m+1) (.cc (N+3)) [.agg (hk s)] x=.ret (.bool false) cW/\Lh N h r s cW)/\(¬n<=s.2.1->∃cW,C (m+1) (.cc (N+3)) [.agg (hk s)] x=.ret (.bool true) cW/\AV n N h r cW):=by
 obtain⟨wJ,⟨a,b,c,d,vT⟩,Xr,Fb,qX,uj⟩:=ae
 have bg:C (m+1) (.cc (N+3)) [.agg (hk s)] x=ow Tryz.prog (C m) (N+3) [.agg (hk s)] x:=rfl
 let bh:=(x.push (.cells [.int .u64 (Int.ofNat 0),.int .u64 (Int.ofNat 0),.int .u8 (Int.ofNat 0),.int .i64 (Int.ofNat 0)] 120 .own 0 0)).set x.n (some (.cells (hk s) 120 .own 0 0))
 have s1:=AX (c1:=.int .u64 (Int.ofNat s.1)) (c2:=.int .u64 (Int.ofNat s.2.1)) (c3:=.int .u8 (Int.ofNat s.2.2.1)) (c4:=.int .i64 (Int.ofNat s.2.2.2)) rfl rfl rfl rfl (by rw[J.eA,if_pos rfl]:(x.push (.cells [.int .u64 (Int.ofNat 0),.int .u64 (Int.ofNat 0),.int .u8 (Int.ofNat 0),.int .i64 (Int.ofNat 0)] 120 .own 0 0)).get x.n=_)
 have cq:∀j,j<x.n->bh.get j=x.get j:=λj aL=>by simp only[bh];rw[J.b_,if_neg (by omega),J.eA,if_neg (by omega)]
 have has:ck Tryz.prog (d_ Tryz.f73) (some (N+3)) (C m) nr ⟨put 5 (.agg (hk s)) [(1,.ptr N 0),(2,.ptr (N+1) 0)],[],.none,x⟩ .nrm ⟨[(1,.ptr N 0),(2,.ptr (N+1) 0),(3,.ptr x.n 0)],[],.none,bh⟩:=
  ck.pre (st1:=⟨put 5 (.agg (hk s)) [(1,.ptr N 0),(2,.ptr (N+1) 0)],[],.none,x⟩) (Xi (C m) (N+3) N (N+1) (hk s) x bh ⟨rfl,s1,rfl⟩) ⟨rfl,rfl,rfl,trivial⟩ rfl rfl rfl
 have bp:bh.get (N+3)=some (.loop .ready none (d_ Tryz.f73) r [5] nr oc (N+2)):=(cq _ (by omega)).trans Fb
 let bz:=bh.set (N+3) (some (.loop .busy none (d_ Tryz.f73) r [5] nr oc (N+2)))
 have gc:bz.get x.n=some (.cells (hk s) 120 .own 0 0):=by simp only[bz,bh];rw[J.b_,if_neg (by omega),J.b_,if_pos rfl]
 have md:bz.get (N+1)=some (.cells [a,b,c,d] 120 .own 0 0):=by simp only[bz];rw[J.b_,if_neg (by omega),cq _ (by omega)];exact vT
 have s2:=AX (c1:=.int .u64 (Int.ofNat s.1)) (c2:=.int .u64 (Int.ofNat s.2.1)) (c3:=.int .u8 (Int.ofNat s.2.2.1)) (c4:=.int .i64 (Int.ofNat s.2.2.2)) rfl rfl rfl rfl md
 let db:=bz.set (N+1) (some (.cells (hk s) 120 .own 0 0))
 have kW:db.get N=some (.cells [.int .u64 (Int.ofNat n)] 65 .own 0 0):=by simp only[db,bz];rw[J.b_,if_neg (by omega),J.b_,if_neg (by omega),cq _ (by omega)];exact wJ
 have Xs:db.get x.n=some (.cells (hk s) 120 .own 0 0):=by simp only[db];rw[J.b_,if_neg (by omega)];exact gc
 have zp:aq db x.n (0+1)=some (.int .u64 (Int.ofNat s.2.1)):=by simp only[aq,Xs];rfl
 have aw:db.get (N+3)=some (.loop .busy none (d_ Tryz.f73) r [5] nr oc (N+2)):=by simp only[db,bz];rw[J.b_,if_neg (by omega),J.b_,if_pos rfl]
 have ex:Ext N h db:=((((qX.trans (Nat.le_refl _) (Ext.push (by omega) _)).trans (Nat.le_refl _) (Ext.set (by omega) _)).trans (Nat.le_refl _) (Ext.set (by omega) _)).trans (Nat.le_refl _) (Ext.set (by omega) _))
 have gd:db.get (N+2)=some (.defrd (some [])):=by simp only[db,bz];rw[J.b_,if_neg (by omega),J.b_,if_neg (by omega),cq _ (by omega)];exact Xr
 have go:db.get (N+1)=some (.cells (hk s) 120 .own 0 0):=by simp only[db];rw[J.b_,if_pos rfl]
 have Xt:db.n=x.n+1:=rfl
 refine⟨λhle=>?_,λhle=>?_⟩
 · have af:=Xj (C m) (N+3) N (N+1) x.n bz s.1 s.2.1 s.2.2.1 s.2.2.2 db n s.2.1 (AW rfl gc) s2 (lK kW) zp (iV hle)
   have Fc:=IU Fb hm has bp (ck.pre (st1:=⟨[(1,.ptr N 0),(2,.ptr (N+1) 0),(3,.ptr x.n 0)],[],.none,bz⟩) af ⟨rfl,rfl,rfl,trivial⟩ rfl rfl rfl) aw
   refine⟨_,bg.trans Fc,⟨?_,?_,?_,ex.trans (Nat.le_refl _) (Ext.set (by omega) _)⟩⟩
   · rw[J.b_,if_neg (by omega)];exact go
   · rw[J.b_,if_neg (by omega)];exact gd
   · rw[J.b_,if_pos rfl]
 · have af:=Xk (C m) (N+3) N (N+1) x.n bz s.1 s.2.1 s.2.2.1 s.2.2.2 db n s.2.1 (AW rfl gc) s2 (lK kW) zp (js hle)
   have Fc:=IU Fb hm has bp (ck.pre (st1:=⟨[(1,.ptr N 0),(2,.ptr (N+1) 0),(3,.ptr x.n 0)],[],.none,bz⟩) af ⟨rfl,rfl,rfl,trivial⟩ rfl rfl rfl) aw
   refine⟨_,bg.trans Fc,⟨?_,⟨.int .u64 (Int.ofNat s.1),.int .u64 (Int.ofNat s.2.1),.int .u8 (Int.ofNat s.2.2.1),.int .i64 (Int.ofNat s.2.2.2),?_⟩,?_,?_,ex.trans (Nat.le_refl _) (Ext.set (by omega) _),by simp[Xt];omega⟩⟩
   · rw[J.b_,if_neg (by omega)];exact kW
   · rw[J.b_,if_neg (by omega)];exact go
   · rw[J.b_,if_neg (by omega)];exact gd
   · rw[J.b_,if_pos rfl]
theorem Xu(n:Nat)(h:J):C (n+1) (.fn 72) [] h=.ret (.fn 89 [] []) h:=
 dJ (intr:=rH) (n:=n) (args:=[]) Tryz.func72 (by kernel_rfl) rfl (by kernel_rfl) (W9 (C n) h) (.inl rfl) (by kernel_rfl)
theorem Xv(m n:Nat)(h:J)(aK:n<18446744073709551616):∃al,C (m+3) (.fn 73) [.int .u64 (Int.ofNat n)] h=.ret (.agg (hk (gN n))) al/\Ext h.n h al:=by
 let aa:=(h.push (.cells [.int .u64 (Int.ofNat n)] 65 .own 0 0)).push (.cells [.int .u64 (Int.ofNat 0),.int .u64 (Int.ofNat 0),.int .u8 (Int.ofNat 0),.int .i64 (Int.ofNat 0)] 120 .own 0 0)
 have w:WF Tryz.prog Tryz.f73 none (C (m+2)) [] (λe r d q al=>∃iW,l7 Tryz.prog (C (m+2)) Tryz.f73 (.ok e r d q al)=.ret (.agg (hk (gN n))) iW/\Ext h.n h iW) (ny 0 [.int .u64 (Int.ofNat n)] .leaf) [] .none h:=by
  refine WF.seq (p:=[]) (by kernel_rfl) (W.of (Xg (C (m+2)) n h) (zS [.int .u64 (Int.ofNat n)]) λbb cV=>.inl ⟨rfl,?_⟩)
  refine WF.seq (p:=[1]) (by kernel_rfl) ?_
  refine WF.seq (p:=[1,0]) (by kernel_rfl) (W.of (Xh (C (m+2)) h.n (h.n+1) aa _ aa (Xu (m+1) aa)) cV λa3 h2=>.inl ⟨rfl,?_⟩)
  refine WF.block (p:=[1,0,1]) (id:=0) (by kernel_rfl) ?_
  refine WF.range (p:=[1,0,1,0]) (t:=4) (ps:=[5]) (by kernel_rfl) (by kernel_rfl) (hf:=rfl) (hm:=h2) ?_
  let ir:=(aa.push (.defrd (some []))).push (.loop .ready none (d_ Tryz.f73) a3 [5] nr oc (h.n+2))
  have i0:AV n h.n h a3 ir:=by
   refine⟨?_,⟨.int .u64 (Int.ofNat 0),.int .u64 (Int.ofNat 0),.int .u8 (Int.ofNat 0),.int .i64 (Int.ofNat 0),?_⟩,?_,?_,?_,?_⟩
   · simp only[ir,aa,J.eA,J.mT];grind
   · simp only[ir,aa,J.eA,J.mT];rw[if_neg (by omega),if_neg (by omega)];simp
   · simp only[ir,aa,J.eA,J.mT];grind
   · simp only[ir,aa,J.eA,J.mT];grind
   · exact(((Ext.push (Nat.le_refl _) _).trans (Nat.le_refl _) (Ext.push (by simp) _)).trans (Nat.le_refl _) (Ext.push (by simp[aa];omega) _)).trans (Nat.le_refl _) (Ext.push (by simp[aa];omega) _)
   · simp[ir,aa]
  have Li:aD.Mod a3 [(1,.ptr h.n 0),(2,.ptr (h.n+1) 0)]:=h2.sub ⟨rfl,rfl,trivial⟩
  obtain⟨x,dP,fR⟩:=Xp (m+1) (h.n+3) n (AV n h.n h a3) (Lh h.n h a3) (λs x ab=>Xq m n h.n h a3 Li s x ab) aK ir i0
  have xw:kR (h.n+3) a3 [.collected (h.n+2)] .none (.ret (.aW []) x)=.ok (.exit 0) a3 [.collected (h.n+2)] .none (x.set (h.n+3) (some (.loop .exhausted (some (.exit 0)) (d_ Tryz.f73) a3 [5] nr oc (h.n+2)))):=by
   simp only[kR,fR.p3]
  refine⟨.exit 0,_,(congrArg (kR (h.n+3) a3 [.collected (h.n+2)] .none) dP).trans xw,.inl ⟨rfl,.inl ⟨rfl,?_⟩⟩⟩
  have go:(x.set (h.n+3) (some (.loop .exhausted (some (.exit 0)) (d_ Tryz.f73) a3 [5] nr oc (h.n+2)))).get (h.n+1)=some (.cells (hk (gN n)) 120 .own 0 0):=by rw[J.b_,if_neg (by omega)];exact fR.out
  have gd:(x.set (h.n+3) (some (.loop .exhausted (some (.exit 0)) (d_ Tryz.f73) a3 [5] nr oc (h.n+2)))).get (h.n+2)=some (.defrd (some [])):=by rw[J.b_,if_neg (by omega)];exact fR.jG
  have ex:Ext h.n h (x.set (h.n+3) (some (.loop .exhausted (some (.exit 0)) (d_ Tryz.f73) a3 [5] nr oc (h.n+2)))):=fR.ext.trans (Nat.le_refl _) (Ext.set (by omega) _)
  generalize x.set (h.n+3) (some (.loop .exhausted (some (.exit 0)) (d_ Tryz.f73) a3 [5] nr oc (h.n+2)))=y at go gd ex
  have ct:=AX (c1:=.int .u64 (Int.ofNat (gN n).1)) (c2:=.int .u64 (Int.ofNat (gN n).2.1)) (c3:=.int .u8 (Int.ofNat (gN n).2.2.1)) (c4:=.int .i64 (Int.ofNat (gN n).2.2.2)) rfl rfl rfl rfl go
  refine W.of (Xl (C (m+2)) (h.n+1) [.collected (h.n+2)] y _ _ _ _ _ (AW rfl go) ct) (Li.sub ⟨rfl,trivial⟩) λfv Ap=>?_
  let gj:=(y.set (h.n+1) (some (.cells (hk (gN n)) 120 .own 0 0)))
  have Xw:gj.get (h.n+2)=some (.defrd (some [])):=by simp only[gj];rw[J.b_,if_neg (by omega)];exact gd
  have Xx:(gj.set (h.n+2) (some (.defrd none))).get (h.n+1)=some (.cells (hk (gN n)) 120 .own 0 0):=by simp only[gj];rw[J.b_,if_neg (by omega),J.b_,if_pos rfl]
  have h5:pv Tryz.prog (d_ Tryz.f73) Tryz.f73 fv (gj.set (h.n+2) (some (.defrd none)))=some (.agg (hk (gN n))):=by
   refine Dn Ap ?_
   have aA:Tryz.f73.results.toList=[.cell 2 120]:=by kernel_rfl
   have aC:Nat.testBit (d_ Tryz.f73) 2=true:=by kernel_rfl
   have bN:l4 Tryz.prog 120=some true:=by kernel_rfl
   have eW:dt Tryz.prog 120=some 4:=by kernel_rfl
   have iO:fh 2 [(2,I.ptr (h.n+1) 0)]=some (.ptr (h.n+1) 0):=rfl
   simp only[na,aA,mR,oU,aC,bN,eW,iO,AW rfl Xx]
  refine⟨gj.set (h.n+2) (some (.defrd none)),?_,(ex.trans (Nat.le_refl _) (Ext.set (by omega) _)).trans (Nat.le_refl _) (Ext.set (by omega) _)⟩
  show l7 Tryz.prog (C (m+2)) Tryz.f73 (.ok .ret fv [.collected (h.n+2)] .none gj)=_
  simp only[l7,jM,Xw,List.nil_append,h5]
 obtain⟨e,r,d,q,al,dI,iW,c9,wA⟩:=w
 exact⟨iW,IL (intr:=rH) (n:=m+2) (args:=[.int .u64 (Int.ofNat n)]) Tryz.func73 (by kernel_rfl) rfl (by kernel_rfl) ⟨e,r,d,q,al,dI,c9⟩,wA⟩
end Go.Proofs.ej
namespace Go.Proofs.ej
open Go aD Go.Proofs Go.Proofs.hy
set_option maxRecDepth 100000
abbrev pf:I:=.int .u8 (Int.ofNat 0)
theorem Lj(n:Nat)(acc:List UInt8):(I.int .u8 (Int.ofNat (n %256)))::c5 acc=c5 (UInt8.ofNat (n %256)::acc):=by
 simp only[c5,Xn,Nat.mod_mod]
theorem Lk(call:ay->List I->J->an)(s:List UInt8)(z b:Nat)(p:I):∀(i m:Nat) (acc:List UInt8) (x:J),i<=z->z<=8->x.get b=some (.cells (List.replicate (i+1) pf++c5 acc) 5 .own 0 0)->
  ∃cW,dH Tryz.prog Tryz.f52 none call [1,1,1,1,0,1,0] (i+1) ⟨[(0,.str s),(1,.int .u64 (Int.ofNat m)),(5,p),(6,.slice b 0 (z+1) (.exact (z+1))),(7,.int .i64 (Int.ofNat i))],[],.none,x⟩ (.exit 0) ⟨[(0,.str s),(1,.int .u64 (Int.ofNat (m/256^i))),(5,p),(6,.slice b 0 (z+1) (.exact (z+1)))],[],.none,cW⟩/\
   cW.get b=some (.cells (pf::c5 (j1 m i acc)) 5 .own 0 0)/\fa b x.n x cW
 |0,m,acc,x,ae,a4,aj=>by
  refine⟨x,.exit (ck.post (W8 _ _ _ _ _ _ _ _ (eh (by omega))) ⟨rfl,by simp[fh],rfl,rfl,trivial⟩) (by simp),aj,fa.refl _ _ _⟩
 |i+1,m,acc,x,ae,a4,aj=>by
  have e:List.replicate (i+1+1) pf++c5 acc=List.replicate (i+1) pf++pf::c5 acc:=by rw[List.replicate_succ',List.append_assoc];rfl
  rw[e] at aj
  have st:=IX (.inl rfl) aj (off:=0+(i+1)*1) (x:=.int .u8 (Int.ofNat (m %256))) (by simp) rfl
  rw[Lj] at st
  have b2:=z1 .u64 (i:=m) (j:=8) (by decide)
  obtain⟨cW,bp,bB,cU⟩:=Lk call s z b p i (m/2^8) (UInt8.ofNat (m %256)::acc) (x.set b (some (.cells (List.replicate (i+1) pf++c5 (UInt8.ofNat (m %256)::acc)) 5 .own 0 0))) (by omega) a4 (by rw[J.b_,if_pos rfl])
  have em:m/2^8/256^i=m/256^(i+1):=by rw[show(2:Nat)^8=256 from rfl,Nat.div_div_eq_div_mul,Nat.pow_succ,Nat.mul_comm]
  rw[em] at bp
  refine⟨cW,.step ?_ bp,bB,(fa.set _).trans (Nat.le_refl _) cU⟩
  exact(W7 _ _ _ _ _ _ _ _ _ _ _ _ (ds (by omega)) (Fa m x) (by show(_:Nat)<=_;omega) (st) (b2) (pP (by omega) (by omega)))
theorem Ll(m n:Nat)(s:List UInt8)(h:J)(aK:n<18446744073709551616)(hs:s.length<=1000000000):∃al,C (m+4) (.fn 52) [.str s,.int .u64 (Int.ofNat n)] h=.ret (.str (s++df n)) al/\Ext h.n h al:=by
 obtain⟨ao,c1,bh⟩:=Xv m n h aK
 obtain⟨yU,a4,_⟩:=WW n aK
 have mI:=WV n aK
 have hlen:=tz n
 rw[<-mI] at hlen⊢
 generalize Xy:gN n=Xz at c1 yU a4
 obtain⟨cJ,to,j2,z⟩:=Xz
 simp only at yU a4
 let ar:=(ao.push (.cells [.int .u64 (Int.ofNat 0),.int .u64 (Int.ofNat 0),.int .u8 (Int.ofNat 0),.int .i64 (Int.ofNat 0)] 120 .own 0 0)).set ao.n (some (.cells (hk (cJ,to,j2,z)) 120 .own 0 0))
 have s2:=AX (c1:=.int .u64 (Int.ofNat cJ)) (c2:=.int .u64 (Int.ofNat to)) (c3:=.int .u8 (Int.ofNat j2)) (c4:=.int .i64 (Int.ofNat z)) rfl rfl rfl rfl (by rw[J.eA,if_pos rfl]:(ao.push (.cells [.int .u64 (Int.ofNat 0),.int .u64 (Int.ofNat 0),.int .u8 (Int.ofNat 0),.int .i64 (Int.ofNat 0)] 120 .own 0 0)).get ao.n=_)
 have x0:ar.get ao.n=some (.cells (hk (cJ,to,j2,z)) 120 .own 0 0):=by simp only[ar];rw[J.b_,if_pos rfl]
 have bI:ar.n=ao.n+1:=rfl
 let aZ:=ar.push (.cells (List.replicate (z+1) pf) 5 .own 0 0)
 have Lm:aZ.get ao.n=some (.cells (hk (cJ,to,j2,z)) 120 .own 0 0):=by simp only[aZ];rw[J.eA,if_neg (by omega)];exact x0
 have XA:aZ.get ar.n=some (.cells (List.replicate (z+1) pf++c5 []) 5 .own 0 0):=by simp only[aZ];rw[J.eA,if_pos rfl];simp[c5]
 have mk:uq Tryz.prog ar 98 (.int .i64 (Int.ofNat (1+z))) (.int .i64 (Int.ofNat (1+z)))=some (.slice ar.n 0 (z+1) (.exact (z+1)),aZ):=by
  rw[Nat.add_comm 1 z]
  exact QN (i:=((Tryz.prog.info? 5).getD default)) E_ (by kernel_rfl) (by kernel_rfl) (by kernel_rfl) (by kernel_rfl) (by omega) (by omega)
 obtain⟨ch,bp,bB,cU⟩:=Lk (C (m+3)) s z ar.n (.ptr ao.n 0) z (n-cJ) [] aZ (Nat.le_refl _) a4 XA
 have loop:=dH.run (p:=[1,1,1,1,0,1,0]) (by kernel_rfl) bp (by omega)
 have XB:ch.get ao.n=some (.cells (hk (cJ,to,j2,z)) 120 .own 0 0):=(cU.get _ (by simp[aZ,bI];omega) (by omega)).trans Lm
 have aA:(j2+(n-cJ)/256^z %256) %256=(j2+(n-cJ)/256^z) %256:=by omega
 have tY:c5 (pd n)=.int .u8 (Int.ofNat ((j2+(n-cJ)/256^z) %256))::c5 (j1 (n-cJ) z []):=by
  rw[Lj];simp only[pd,Xy]
 have tp:(pd n).length=z+1:=by
  have:=congrArg List.length tY
  simp only[pO,List.length_cons,jD] at this
  simpa using this
 let dQ:=ch.set ar.n (some (.cells (c5 (pd n)) 5 .own 0 0))
 have XC:aD.storeCells ch ar.n (0+0*1) [.int .u8 (Int.ofNat ((j2+(n-cJ)/256^z %256) %256))]=some dQ:=by
  have:=IX (l:=[]) (k:=.own) (.inl rfl) bB (off:=0+0*1) (x:=.int .u8 (Int.ofNat ((j2+(n-cJ)/256^z %256) %256))) (by simp) rfl
  rw[this];simp only[dQ,tY,aA,List.nil_append]
 have XD:dQ.get ar.n=some (.cells (c5 (pd n)++[]) 5 .own 0 0):=by simp only[dQ];rw[J.b_,if_pos rfl];simp
 have mc:=IV (P:=Tryz.prog) (a:=98) (b:=9) (cap:=.exact (pd n).length) E_ vi u6 (.inl rfl) XD
 rw[tp] at mc
 refine⟨dQ,?_,?_⟩
 · exact dJ (intr:=rH) (n:=m+3) (args:=[.str s,.int .u64 (Int.ofNat n)]) Tryz.func52 (by kernel_rfl) rfl (by kernel_rfl)
    (ez (C (m+3)) n cJ to j2 z ar.n ((n-cJ)/256^z) s h ao ar aZ ch ar cJ (n-cJ) z (1+z) z j2 ((n-cJ)/256^z %256) ((j2+(n-cJ)/256^z %256) %256) dQ (pd n) (s++pd n)
     c1 s2 (by simp only[aq,x0];rfl) (z0 (by omega) aK) (by simp only[aq,x0];rfl) (q4 (by omega)) mk (by simp only[aq,Lm];rfl) (ck.pre loop ⟨rfl,rfl,rfl,rfl,rfl,trivial⟩ rfl rfl rfl)
     (by simp only[aq,XB];rfl) (Fa _ ch) QM (by show 1<=z+1;omega) XC mc (fo (by omega))) (.inl rfl) (by kernel_rfl)
 · have dD:Ext h.n h ar:=(bh.trans (Nat.le_refl _) (Ext.push bh.n _)).trans (Nat.le_refl _) (Ext.set bh.n _)
   have af:h.n<=ar.n:=by have:=bh.n;omega
   have ef:Ext h.n h aZ:=dD.trans (Nat.le_refl _) (Ext.push af _)
   exact(ef.trans (Nat.le_refl _) ((cU.le (by have:=ef.n;omega)).QP af)).trans (Nat.le_refl _) (Ext.set af _)
theorem Ln(t:List UInt8):(ev t).length<=9+t.length:=by
 have:=tz t.length
 unfold ev;rw[List.length_append];omega
theorem XE(m:Nat)(s t:List UInt8)(h:J)(hs:s.length<=100000000)(a6:t.length<=100000000):∃al,C (m+5) (.fn 64) [.str s,.str t] h=.ret (.str (s++ev t)) al/\Ext h.n h al:=by
 obtain⟨g,c1,bh⟩:=Ll m t.length s h (by omega) (by omega)
 have au:=tz t.length
 refine⟨g,?_,bh⟩
 rw[ev,<-List.append_assoc]
 exact dJ (intr:=rH) (n:=m+4) (args:=[.str s,.str t]) Tryz.func64 (by kernel_rfl) rfl (by kernel_rfl) (nZ (C (m+4)) s t h _ _ g _ (AT _ (by omega) h) c1 (fo (by simp;omega))) (.inl rfl) (by kernel_rfl)
end Go.Proofs.ej
namespace Go.Proofs.ej
open Go aD Go.Proofs Go.Proofs.hy
set_option maxRecDepth 100000
set_option maxHeartbeats 1000000
theorem wD(call:ay->List I->J->an)(p:Nat)(h:J)(cI:Bool)
  (H1:aq h p (0+1)=some (.bool cI)):
  av Tryz.prog Tryz.f26 none call [] (ag.mk [(0,.ptr p 0)] [] .none h) (.ret)
   (ag.mk [(2,.bool !cI)] [] .none h):=
 a1 [2] (hs:=[.v (.bool !false),.b true,.b true,.b true,.b true,.v (.bool cI),.b true,.b true]) (by kernel_rfl)<| .cons (by kernel_rfl:c7 Tryz.prog h BinOp.neq 60 (Operand.tmp 3) (Operand.const (Value.pointer none)) (I.ptr p 0) I.aR=some (I.bool !false))<| .cons (by kernel_rfl:(!false)=true)<| .cons (by kernel_rfl:(!false)=true)<| .cons (by kernel_rfl:(!false)=true)<| .cons (by kernel_rfl:(!false)=true)<| .cons H1<| .cons (by kernel_rfl:(!false)=true)<| .cons (by kernel_rfl:(!false)=true)<| .nil
theorem lw(call:ay->List I->J->an)(s:List UInt8)(n:Nat)(h g:J)
  (H1:av Tryz.prog Tryz.f58 none call [1,1,0,1,0] (ag.mk [(4,.int .i64 (.ofNat 0)),(3,.int .u64 (.ofNat 0)),(2,.int .u64 (.ofNat 0)),(0,.str s)] [] .none h) (.exit 0) (ag.mk [(3,.int .u64 (.ofNat n))] [] .none g)):
  av Tryz.prog Tryz.f58 none call [] (ag.mk [(0,.str s)] [] .none h) (.ret)
   (ag.mk [(2,.int .u64 (.ofNat n))] [] .none g):=
 a1 [2] (hs:=[Hint.loop (bF.exit 0) (ag.mk [(3,I.int IntKind.u64 (Int.ofNat n))] [] bJ.none g)]) (by kernel_rfl)<| .cons H1<| .nil
theorem tm:∀s:List UInt8,cg s []=s.isEmpty
 |[]=>rfl
 |_::_=>rfl
end Go.Proofs.ej
namespace Go.Proofs.ej
open Go aD Go.Proofs Go.Proofs.hy
set_option maxRecDepth 100000
set_option maxHeartbeats 1000000
def qj(h:J)(p:Nat)(v:I)(s:List UInt8):Prop:=
 (s=[]/\∃b o,v=.slice b o 0 .dead)\/∃b pre,v=.slice b pre.length s.length (.aY 1)/\b<h.n/\b<p/\h.get b=some (.cells (c5 (pre++s)) 5 .aY 0 0)
def rJ(h:J)(p:Nat):kn->Prop
 |none=>p<h.n/\h.get p=some (.cells [.a_,.bool true] 100 .own 0 0)
 |some s=>p<h.n/\s.length<=1000000/\∃v,h.get p=some (.cells [v,.bool false] 100 .own 0 0)/\qj h p v s
end Go.Proofs.ej
namespace Go.Proofs.ej
open Go aD Go.Proofs Go.Proofs.hy
set_option maxRecDepth 100000
set_option maxHeartbeats 1000000
def Lo:Nat->Nat×Nat×Nat×Nat
 |0=>(0,240,0,0)
 |1=>(240,2287,241,1)
 |2=>(2288,67823,249,2)
 |k=>(0,256^k-1,247+k,k)
section
variable (m l:Nat) (mq:Nat->J->Prop) (Q:J->Prop)
 (bg:∀k x,k<9->mq k x->(∃cW,C m (.cc l) [.agg (hk (Lo k))] x=.ret (.bool true) cW/\mq (k+1) cW)\/(∃cW,C m (.cc l) [.agg (hk (Lo k))] x=.ret (.bool false) cW/\Q cW))
include bg
end
end Go.Proofs.ej
namespace Go.Proofs.ej
open Go aD Go.Proofs Go.Proofs.hy
set_option maxRecDepth 100000
set_option maxHeartbeats 1000000
end Go.Proofs.ej
namespace Go.Proofs.ej
open Go aD Go.Proofs Go.Proofs.hy
set_option maxRecDepth 100000
set_option maxHeartbeats 1000000
end Go.Proofs.ej
