/-
  PROVED HERE: contracts of functions (Db). No condition beside each statement's own.
-/
import Derived.Test.YtjkomfonmcmgdaaGreatDoorDa
set_option linter.unusedVariables false
set_option linter.unusedSimpArgs false
set_option maxRecDepth 100000
set_option maxHeartbeats 1000000
namespace Go.Proofs.kh
open Go bg Go.Proofs ir
variable {Q:bW->bL->Prop} {R:bE->Prop} (call:aW)
theorem ZT(n:Nat)(h:ab)
  (H1:jU 97 n=true)
  (bh:jU n 122=true):
  a5 an Tryz.f103 none call [] (aj [(0,b4 n)] h) (.ret)
   (aj [(2,.bool true)] h):=
 bN [2] (cv 11 2047 []) 16 11 2345911136256 (ji H1 bh bM)
theorem ZU(n:Nat)(h:ab)
  (H1:jU 97 n=true)
  (bh:jU n 122=false)
  (bD:jU 65 n=true)
  (cm:jU n 90=false):
  a5 an Tryz.f103 none call [] (aj [(0,b4 n)] h) (.ret)
   (aj [(2,.bool (bQ n 95))] h):=
 bN [2] (cv 14 14544 []) 16 14 9608852302738773 (mW H1 bh bD cm bM)
theorem ZV(n:Nat)(h:ab)
  (H1:jU 97 n=false)
  (bh:jU 65 n=true)
  (bD:jU n 90=true):
  a5 an Tryz.f103 none call [] (aj [(0,b4 n)] h) (.ret)
   (aj [(2,.bool true)] h):=
 bN [2] (cv 14 215 []) 16 14 9606506963211332 (kd H1 bh bD bM)
theorem ZW(n:Nat)(h:ab)
  (H1:jU 97 n=false)
  (bh:jU 65 n=true)
  (bD:jU n 90=false):
  a5 an Tryz.f103 none call [] (aj [(0,b4 n)] h) (.ret)
   (aj [(2,.bool (bQ n 95))] h):=
 bN [2] (cv 14 208 []) 16 14 9606506963211332 (kd H1 bh bD bM)
theorem ZX(n:Nat)(h:ab)
  (H1:jU 97 n=false)
  (bh:jU 65 n=false):
  a5 an Tryz.f103 none call [] (aj [(0,b4 n)] h) (.ret)
   (aj [(2,.bool (bQ n 95))] h):=
 bN [2] (cv 14 0 []) 16 14 9606506963210513 (ji H1 bh bM)
theorem ZY(s:List UInt8)(n:Nat)(b:Bool)(h g:ab)
  (H1:cE s.length 1=true):
  a5 an Tryz.f76 none call [1,0] (aj [(0,.str s)] h) (.ret)
   (aj [(0,.str s),(2,.bool false)] h):=
 bN [0,2] (cv 10 1023 []) 16 10 146599313408 (hR H1 bM)
theorem ZZ(s:List UInt8)(n:Nat)(b:Bool)(h g:ab)
  (H1:cE s.length 1=false)
  (bh:cE 24 s.length=true):
  a5 an Tryz.f76 none call [1,0] (aj [(0,.str s)] h) (.ret)
   (aj [(0,.str s),(2,.bool false)] h):=
 bN [0,2] (cv 10 63 []) 16 10 146602668848 (ji H1 bh bM)
theorem Z0(s:List UInt8)(n:Nat)(b:Bool)(h g:ab)
  (H1:cE s.length 1=false)
  (bh:cE 24 s.length=false)
  (bD:hX 0 s=some (b4 n))
  (cm:call (.fn 103) [b4 n] h=bE.ret (.bool b) g)
  (cS:(!b)=true):
  a5 an Tryz.f76 none call [1,0] (aj [(0,.str s)] h) (.ret)
   (aj [(0,.str s),(2,.bool false)] g):=
 bN [0,2] (cv 6 0 (.v (b4 n)::.b false::.c (.bool b) g::cv 3 1 [])) 16 12 37530284282678 (mX H1 bh bD cm cS bM)
theorem Z1(s:List UInt8)(n:Nat)(b:Bool)(h g:ab)
  (H1:cE s.length 1=false)
  (bh:cE 24 s.length=false)
  (bD:hX 0 s=some (b4 n))
  (cm:call (.fn 103) [b4 n] h=bE.ret (.bool b) g)
  (cS:(!b)=false):
  a5 an Tryz.f76 none call [1,0] (aj [(0,.str s)] h) (.nrm)
   (aj [(0,.str s)] g):=
 bN [0,2] (cv 6 0 (.v (b4 n)::.b false::.c (.bool b) g::cv 3 0 [])) 16 12 37530284282678 (mX H1 bh bD cm cS bM)
theorem P2(s:List UInt8)(h:ab):
  a5 an Tryz.f76 none call [1,1,0,0] (aj [(0,.str s)] h) (.nrm)
   (aj [(0,.str s),(3,J 0)] h):=
 bN [0,3] [] 16 0 0 bM
theorem Z2(h:ab):
  a5 an Tryz.f76 none call [1,1,1] (aj [] h) (.ret)
   (aj [(2,.bool true)] h):=
 bN [2] [] 16 0 0 bM
theorem Z3(s:List UInt8)(h:ab)
  (H1:cE s.length 1=true):
  a5 an Tryz.f81 none call [1,0] (aj [(0,.str s)] h) (.ret)
   (aj [(0,.str s),(2,.bool false)] h):=
 bN [0,2] (cv 5 31 []) 16 5 139808 (hR H1 bM)
theorem Z4(s:List UInt8)(h:ab)
  (H1:cE s.length 1=false)
  (bh:cE 161 s.length=true):
  a5 an Tryz.f81 none call [1,0] (aj [(0,.str s)] h) (.ret)
   (aj [(0,.str s),(2,.bool false)] h):=
 bN [0,2] (cv 5 1 []) 16 5 139811 (ji H1 bh bM)
theorem Z5(s:List UInt8)(h:ab)
  (H1:cE s.length 1=false)
  (bh:cE 161 s.length=false):
  a5 an Tryz.f81 none call [1,0] (aj [(0,.str s)] h) (.nrm)
   (aj [(0,.str s)] h):=
 bN [0,2] (cv 5 0 []) 16 5 139811 (ji H1 bh bM)
theorem P3(s:List UInt8)(h:ab):
  a5 an Tryz.f81 none call [1,1,0,0] (aj [(0,.str s)] h) (.nrm)
   (aj [(0,.str s),(3,J 0)] h):=
 bN [0,3] [] 16 0 0 bM
theorem Z6(s:List UInt8)(i n j:Nat)(b:Bool)(h g:ab)
  (H1:cE i s.length=true)
  (bh:hX i s=some (b4 n))
  (bD:call (.fn 103) [b4 n] h=bE.ret (.bool b) g)
  (cm:(!b)=true)
  (cS:cE n 48=true)
  (dT:(!bQ n 45)=true)
  (eS:(!bQ n 47)=true)
  (g6:(!bQ n 46)=true):
  a5 an Tryz.f81 none call [1,1,0,1,0,0] (aj [(0,.str s),(3,J i)] h) (.ret)
   (aj [(0,.str s),(2,.bool false),(3,J i)] g):=
 bN [0,2,3] (.b true::.v (b4 n)::.c (.bool b) g::cv 18 262143 []) 16 21 0x234555665650007778889 (Be H1 bh bD cm cS dT eS g6 bM)
theorem Z7(s:List UInt8)(i n j:Nat)(b:Bool)(h g:ab)
  (H1:cE i s.length=true)
  (bh:hX i s=some (b4 n))
  (bD:call (.fn 103) [b4 n] h=bE.ret (.bool b) g)
  (cm:(!b)=true)
  (cS:cE n 48=true)
  (dT:(!bQ n 45)=true)
  (eS:(!bQ n 47)=true)
  (g6:(!bQ n 46)=false)
  (jB:arith .add .i64 (.ofNat i) (.ofNat 1)=some (J j)):
  a5 an Tryz.f81 none call [1,1,0,1,0,0] (aj [(0,.str s),(3,J i)] h) (.nrm)
   (aj [(0,.str s),(3,J j)] g):=
 bN [0,2,3] (.b true::.v (b4 n)::.c (.bool b) g::cv 18 262142 [.v (J j)]) 16 22 0x234555665650007778889a (fJ H1 bh bD cm cS dT eS g6 jB bM)
theorem Z8(s:List UInt8)(i n j:Nat)(b:Bool)(h g:ab)
  (H1:cE i s.length=true)
  (bh:hX i s=some (b4 n))
  (bD:call (.fn 103) [b4 n] h=bE.ret (.bool b) g)
  (cm:(!b)=true)
  (cS:cE n 48=true)
  (dT:(!bQ n 45)=true)
  (eS:(!bQ n 47)=false)
  (g6:arith .add .i64 (.ofNat i) (.ofNat 1)=some (J j)):
  a5 an Tryz.f81 none call [1,1,0,1,0,0] (aj [(0,.str s),(3,J i)] h) (.nrm)
   (aj [(0,.str s),(3,J j)] g):=
 bN [0,2,3] (.b true::.v (b4 n)::.c (.bool b) g::cv 18 262128 [.v (J j)]) 16 22 0x2345556656500077788819 (Be H1 bh bD cm cS dT eS g6 bM)
theorem Z9(s:List UInt8)(i n j:Nat)(b:Bool)(h g:ab)
  (H1:cE i s.length=true)
  (bh:hX i s=some (b4 n))
  (bD:call (.fn 103) [b4 n] h=bE.ret (.bool b) g)
  (cm:(!b)=true)
  (cS:cE n 48=true)
  (dT:(!bQ n 45)=false)
  (eS:arith .add .i64 (.ofNat i) (.ofNat 1)=some (J j)):
  a5 an Tryz.f81 none call [1,1,0,1,0,0] (aj [(0,.str s),(3,J i)] h) (.nrm)
   (aj [(0,.str s),(3,J j)] g):=
 bN [0,2,3] (.b true::.v (b4 n)::.c (.bool b) g::cv 18 262016 [.v (J j)]) 16 22 0x2345556656500077711118 (s5 H1 bh bD cm cS dT eS bM)
theorem Z_(s:List UInt8)(i n j:Nat)(b:Bool)(h g:ab)
  (H1:cE i s.length=true)
  (bh:hX i s=some (b4 n))
  (bD:call (.fn 103) [b4 n] h=bE.ret (.bool b) g)
  (cm:(!b)=true)
  (cS:cE n 48=false)
  (dT:cE 57 n=true)
  (eS:(!bQ n 45)=true)
  (g6:(!bQ n 47)=true)
  (jB:(!bQ n 46)=true):
  a5 an Tryz.f81 none call [1,1,0,1,0,0] (aj [(0,.str s),(3,J i)] h) (.ret)
   (aj [(0,.str s),(2,.bool false),(3,J i)] g):=
 bN [0,2,3] (.b true::.v (b4 n)::.c (.bool b) g::cv 18 235519 []) 16 21 0x23455566565777888999a (fJ H1 bh bD cm cS dT eS g6 jB bM)
theorem aaa(s:List UInt8)(i n j:Nat)(b:Bool)(h g:ab)
  (H1:cE i s.length=true)
  (bh:hX i s=some (b4 n))
  (bD:call (.fn 103) [b4 n] h=bE.ret (.bool b) g)
  (cm:(!b)=true)
  (cS:cE n 48=false)
  (dT:cE 57 n=false)
  (eS:arith .add .i64 (.ofNat i) (.ofNat 1)=some (J j)):
  a5 an Tryz.f81 none call [1,1,0,1,0,0] (aj [(0,.str s),(3,J i)] h) (.nrm)
   (aj [(0,.str s),(3,J j)] g):=
 bN [0,2,3] (.b true::.v (b4 n)::.c (.bool b) g::cv 18 234496 [.v (J j)]) 16 22 0x2345556656577711111118 (s5 H1 bh bD cm cS dT eS bM)
theorem aab(s:List UInt8)(i n j:Nat)(b:Bool)(h g:ab)
  (H1:cE i s.length=true)
  (bh:hX i s=some (b4 n))
  (bD:call (.fn 103) [b4 n] h=bE.ret (.bool b) g)
  (cm:(!b)=false)
  (cS:arith .add .i64 (.ofNat i) (.ofNat 1)=some (J j)):
  a5 an Tryz.f81 none call [1,1,0,1,0,0] (aj [(0,.str s),(3,J i)] h) (.nrm)
   (aj [(0,.str s),(3,J j)] g):=
 bN [0,2,3] (.b true::.v (b4 n)::.c (.bool b) g::cv 15 0 [.v (J j)]) 16 19 0x2345555511111111116 (mX H1 bh bD cm cS bM)
theorem aac(s:List UInt8)(i n j:Nat)(b:Bool)(h g:ab)
  (H1:cE i s.length=false):
  a5 an Tryz.f81 none call [1,1,0,1,0,0] (aj [(0,.str s),(3,J i)] h) (.exit 0)
   (aj [(0,.str s),(3,J i)] h):=
 bN [0,2,3] [.b false] 16 1 2 (hR H1 bM)
theorem aad(h:ab):
  a5 an Tryz.f81 none call [1,1,1] (aj [] h) (.ret)
   (aj [(2,.bool true)] h):=
 bN [2] [] 16 0 0 bM
theorem aae(s:List UInt8)(i n j:Nat)(b:Bool)(h g:ab)
  (H1:cE i s.length=true)
  (bh:hX i s=some (b4 n))
  (bD:call (.fn 103) [b4 n] h=bE.ret (.bool b) g)
  (cm:(!b)=true)
  (cS:cE n 48=true):
  a5 an Tryz.f76 none call [1,1,0,1,0,0] (aj [(0,.str s),(3,J i)] h) (.ret)
   (aj [(0,.str s),(2,.bool false),(3,J i)] g):=
 bN [0,2,3] (.b true::.v (b4 n)::.c (.bool b) g::cv 3 7 (.v (b4 n)::cv 10 1023 [])) 16 17 0x23455535566665650 (mX H1 bh bD cm cS bM)
theorem aaf(s:List UInt8)(i n j:Nat)(b:Bool)(h g:ab)
  (H1:cE i s.length=true)
  (bh:hX i s=some (b4 n))
  (bD:call (.fn 103) [b4 n] h=bE.ret (.bool b) g)
  (cm:(!b)=true)
  (cS:cE n 48=false)
  (dT:cE 57 n=true):
  a5 an Tryz.f76 none call [1,1,0,1,0,0] (aj [(0,.str s),(3,J i)] h) (.ret)
   (aj [(0,.str s),(2,.bool false),(3,J i)] g):=
 bN [0,2,3] (.b true::.v (b4 n)::.c (.bool b) g::cv 3 7 (.v (b4 n)::cv 5 24 (.v (b4 n)::cv 5 11 []))) 16 18 0x234555355666365657 (wA H1 bh bD cm cS dT bM)
theorem aag(s:List UInt8)(i n j:Nat)(b:Bool)(h g:ab)
  (H1:cE i s.length=true)
  (bh:hX i s=some (b4 n))
  (bD:call (.fn 103) [b4 n] h=bE.ret (.bool b) g)
  (cm:(!b)=true)
  (cS:cE n 48=false)
  (dT:cE 57 n=false)
  (eS:arith .add .i64 (.ofNat i) (.ofNat 1)=some (J j)):
  a5 an Tryz.f76 none call [1,1,0,1,0,0] (aj [(0,.str s),(3,J i)] h) (.nrm)
   (aj [(0,.str s),(3,J j)] g):=
 bN [0,2,3] (.b true::.v (b4 n)::.c (.bool b) g::cv 3 7 (.v (b4 n)::cv 5 24 (.v (b4 n)::cv 5 10 [.v (J j)]))) 16 19 0x2345553556663656578 (s5 H1 bh bD cm cS dT eS bM)
theorem aah(s:List UInt8)(i n j:Nat)(b:Bool)(h g:ab)
  (H1:cE i s.length=true)
  (bh:hX i s=some (b4 n))
  (bD:call (.fn 103) [b4 n] h=bE.ret (.bool b) g)
  (cm:(!b)=false)
  (cS:arith .add .i64 (.ofNat i) (.ofNat 1)=some (J j)):
  a5 an Tryz.f76 none call [1,1,0,1,0,0] (aj [(0,.str s),(3,J i)] h) (.nrm)
   (aj [(0,.str s),(3,J j)] g):=
 bN [0,2,3] (.b true::.v (b4 n)::.c (.bool b) g::cv 8 0 [.v (J j)]) 16 12 38780691371286 (mX H1 bh bD cm cS bM)
theorem aai(s:List UInt8)(i n j:Nat)(b:Bool)(h g:ab)
  (H1:cE i s.length=false):
  a5 an Tryz.f76 none call [1,1,0,1,0,0] (aj [(0,.str s),(3,J i)] h) (.exit 0)
   (aj [(0,.str s),(3,J i)] h):=
 bN [0,2,3] [.b false] 16 1 2 (hR H1 bM)
theorem P4(s t:List UInt8)(h:ab):
  a5 an Tryz.f77 none call [0] (aj [(0,.str s),(1,.str t)] h) (.nrm)
   (aj [(0,.str s),(1,.str t)] h):=
 bN [0,1] [] 16 0 0 bM
theorem P5(s t:List UInt8)(h:ab):
  a5 an Tryz.f77 none call [1,0,0] (aj [(0,.str s),(1,.str t)] h) (.nrm)
   (aj [(0,.str s),(1,.str t),(5,J 0)] h):=
 bN [0,1,5] [] 16 0 0 bM
theorem aaj(s t:List UInt8)(i n k j:Nat)(h:ab)
  (H1:cE i s.length=true)
  (bh:cE i t.length=true)
  (bD:hX i s=some (b4 n))
  (cm:hX i t=some (b4 k))
  (cS:(!bQ n k)=true):
  a5 an Tryz.f77 none call [1,0,1,0,0] (aj [(0,.str s),(1,.str t),(5,J i)] h) (.ret)
   (aj [(0,.str s),(1,.str t),(4,.bool (cE n k)),(5,J i)] (ab.room (ab.room h 7) 8)):=
 bN [0,1,4,5] (cv 6 63 [.v (b4 n),.v (b4 k),.b true,.v (b4 n),.v (b4 k)]) 256 41 0x202020202030405060708090a040b0c08090d050e0f100405060708090a040b0c08090d0511121112 (fJ H1 bh bD cm (ca (.str s)) (dN (.str s)) (ca (J i)) (dN (J i)) (ca (b4 n))<|Be (ca (.str t)) (dN (.str t)) (ca (b4 k)) (ca (.bool !bQ n k)) (by kernel_rfl:(ad.bool !bQ n k)=ad.bool !bQ n k) cS (ca (.bool (cE n k))) (dN (.bool (cE n k))) bM)
theorem aak(s t:List UInt8)(i n k j:Nat)(h:ab)
  (H1:cE i s.length=true)
  (bh:cE i t.length=true)
  (bD:hX i s=some (b4 n))
  (cm:hX i t=some (b4 k))
  (cS:(!bQ n k)=false)
  (dT:arith .add .i64 (.ofNat i) (.ofNat 1)=some (J j)):
  a5 an Tryz.f77 none call [1,0,1,0,0] (aj [(0,.str s),(1,.str t),(5,J i)] h) (.nrm)
   (aj [(0,.str s),(1,.str t),(5,J j)] (ab.room h 7)):=
 bN [0,1,4,5] (cv 6 63 [.v (b4 n),.v (b4 k),.b false,.v (J j)]) 256 24 0x202020202030405060708090a040b0c08090d050e0f1011 (fJ H1 bh bD cm (ca (.str s)) (dN (.str s)) (ca (J i)) (dN (J i)) (ca (b4 n))<|s5 (ca (.str t)) (dN (.str t)) (ca (b4 k)) (ca (.bool !bQ n k)) (by kernel_rfl:(ad.bool !bQ n k)=ad.bool !bQ n k) cS dT bM)
theorem aal(s t:List UInt8)(i n k j:Nat)(h:ab)
  (H1:cE i s.length=true)
  (bh:cE i t.length=false):
  a5 an Tryz.f77 none call [1,0,1,0,0] (aj [(0,.str s),(1,.str t),(5,J i)] h) (.exit 0)
   (aj [(0,.str s),(1,.str t),(5,J i)] h):=
 bN [0,1,4,5] (cv 6 62 []) 16 6 2236963 (ji H1 bh bM)
theorem aam(s t:List UInt8)(i n k j:Nat)(h:ab)
  (H1:cE i s.length=false):
  a5 an Tryz.f77 none call [1,0,1,0,0] (aj [(0,.str s),(1,.str t),(5,J i)] h) (.exit 0)
   (aj [(0,.str s),(1,.str t),(5,J i)] h):=
 bN [0,1,4,5] (cv 6 0 []) 16 6 2236961 (hR H1 bM)
theorem aan(s t:List UInt8)(h:ab):
  a5 an Tryz.f77 none call [1,1] (aj [(0,.str s),(1,.str t)] h) (.ret)
   (aj [(4,.bool (cE s.length t.length))] h):=
 bN [4] [] 16 0 0 bM
theorem aao(s:List UInt8)(h:ab):
  a5 an Tryz.f76 none call [0] (aj [(0,.str s)] h) (.nrm)
   (aj [(0,.str s)] h):=
 bN [0] [] 16 0 0 bM
theorem aap(s:List UInt8)(h:ab):
  a5 an Tryz.f81 none call [0] (aj [(0,.str s)] h) (.nrm)
   (aj [(0,.str s)] h):=
 bN [0] [] 16 0 0 bM
theorem aaq(a b:Nat):j5 (Int.ofNat a) (Int.ofNat b)=decide (a<=b):=by
 by_cases h:a<=b
 · rw[n8 h];simp[h]
 · rw[pS h];simp[h]
theorem P6(a b:Nat):gY (Int.ofNat a) (Int.ofNat b)=decide (a<b):=by
 by_cases h:a<b
 · rw[eD h];simp[h]
 · rw[fI h];simp[h]
theorem w_(a b:Nat):fc (Int.ofNat a) (Int.ofNat b)=decide (a=b):=by
 by_cases h:a=b
 · rw[o2 h];simp[h]
 · rw[kS h];simp[h]
theorem I5(m n:Nat)(h:ab):Y (m+1) (.fn 103) [b4 n] h=.ret (.bool (iF n)) h:=by
 have fin:∀b,a5 an Tryz.f103 none (Y m) [] ⟨[(0,b4 n)],[],.none,h⟩ .ret ⟨[(2,.bool b)],[],.none,h⟩->b=iF n->Y (m+1) (.fn 103) [b4 n] h=.ret (.bool (iF n)) h:=λb ao ag=>by
  rw[<-ag]
  exact gR (intr:=ea) (n:=m) (args:=[b4 n]) Tryz.func103 ao (.inl rfl) (by kernel_rfl)
 by_cases I:97<=n
 · by_cases ae:n<=122
   · exact fin true (ZT (Y m) n h (n8 I) (n8 ae)) (by simp[iF,I,ae])
   · exact fin _ (ZU (Y m) n h (n8 I) (pS ae) (n8 (by omega)) (pS (by omega))) (by(first|rw[w_]|rw[bQ,w_]);simp[iF,ae];omega)
 · by_cases ax:65<=n
   · by_cases aN:n<=90
     · exact fin true (ZV (Y m) n h (pS I) (n8 ax) (n8 aN)) (by simp[iF,ax,aN])
     · exact fin _ (ZW (Y m) n h (pS I) (n8 ax) (pS aN)) (by(first|rw[w_]|rw[bQ,w_]);simp[iF,I,aN])
   · exact fin _ (ZX (Y m) n h (pS I) (pS ax)) (by(first|rw[w_]|rw[bQ,w_]);simp[iF,I,ax])
theorem P7(m:Nat)(s:bb)(h:ab)(al:s.length<=90000):∀(k i:Nat),s.length-i=k->i<=s.length->
  ∃e Γ,fX an Tryz.f76 none (Y (m+1)) [1,1,0,1,0] (k+1) ⟨[(0,.str s),(3,J i)],[],.none,h⟩ e (aks Γ h)/\
   ((e=.exit 0/\Γ=[]/\(s.drop i).all (λc=>iF c.toNat||kC c.toNat)=true)\/(e=.ret/\Γ=[(2,.bool false)]/\(s.drop i).all (λc=>iF c.toNat||kC c.toNat)=false))
 |0,i,ay,hi=>by
  obtain rfl:i=s.length:=by omega
  rw[List.drop_of_length_le (Nat.le_refl _)]
  exact⟨_,[],.exit (dA.post (aai (Y (m+1)) s s.length 0 0 false h h (fI (by omega))) trivial) (by simp),.inl ⟨rfl,rfl,rfl⟩⟩
 |k+1,i,ay,hi=>by
  have I:i<s.length:=by omega
  rw[List.drop_eq_getElem_cons I,List.all_cons]
  have aM:=I5 m s[i].toNat h
  have step:(iF s[i].toNat||kC s[i].toNat)=true->a5 an Tryz.f76 none (Y (m+1)) [1,1,0,1,0,0] ⟨[(0,.str s),(3,J i)],[],.none,h⟩ .nrm ⟨[(0,.str s),(3,J (i+1))],[],.none,h⟩:=λag=>by
   cases aA:iF s[i].toNat with
   |true=>
    rw[aA] at aM
    exact aah (Y (m+1)) s i _ (i+1) true h h (eD I) (pQ I) aM rfl (la I (by omega))
   |false=>
    rw[aA] at aM ag
    have ai:48<=s[i].toNat/\s[i].toNat<=57:=by simpa[kC] using ag
    exact aag (Y (m+1)) s i _ (i+1) false h h (eD I) (pQ I) aM rfl (fI (by omega)) (fI (by omega)) (la I (by omega))
  cases ah:(iF s[i].toNat||kC s[i].toNat) with
  |true=>
   obtain⟨e,Γ,bt,bw⟩:=P7 m s h al k (i+1) (by omega) (by omega)
   refine⟨e,Γ,.step (step ah) bt,?_⟩
   rw[Bool.true_and];exact bw
  |false=>
   obtain⟨aA,ai⟩:iF s[i].toNat=false/\kC s[i].toNat=false:=by simpa using ah
   rw[aA] at aM
   refine⟨_,[(2,.bool false)],.exit (e:=.ret) ?_ (by simp),.inr ⟨rfl,rfl,by rw[Bool.false_and]⟩⟩
   by_cases P8:s[i].toNat<48
   · exact dA.post (aae (Y (m+1)) s i _ 0 false h h (eD I) (pQ I) aM rfl (eD P8)) ⟨rfl,trivial⟩
   · exact dA.post (aaf (Y (m+1)) s i _ 0 false h h (eD I) (pQ I) aM rfl (fI P8) (eD (by simp[kC] at ai;omega))) ⟨rfl,trivial⟩
theorem P9(m:Nat)(s:bb)(h:ab):Y (m+2) (.fn 76) [.str s] h=.ret (.bool (jl s)) h:=by
 have fin:∀b,a5 an Tryz.f76 none (Y (m+1)) [1] ⟨[(0,.str s)],[],.none,h⟩ .ret ⟨[(2,.bool b)],[],.none,h⟩->b=jl s->Y (m+2) (.fn 76) [.str s] h=.ret (.bool (jl s)) h:=λb ao ag=>by
  rw[<-ag]
  exact gR (intr:=ea) (n:=m+1) (args:=[.str s]) Tryz.func76 (dG [] (aao (Y (m+1)) s h) ao) (.inl rfl) (by kernel_rfl)
 by_cases I:s.length<1
 · exact fin false (jR [1] (dA.post (ZY (Y (m+1)) s 0 false h h (eD I)) ⟨rfl,trivial⟩) (by simp)) (by simp[jl];omega)
 by_cases ae:24<s.length
 · exact fin false (jR [1] (dA.post (ZZ (Y (m+1)) s 0 false h h (fI I) (eD ae)) ⟨rfl,trivial⟩) (by simp)) (by simp[jl];omega)
 have al:s.length<=90000:=by omega
 have h0:0<s.length:=by omega
 have aM:=I5 m s[0].toNat h
 have au:IM s=iF s[0].toNat:=by
  cases s with
  |nil=>simp at h0
  |cons c s=>rfl
 cases aA:iF s[0].toNat with
 |false=>
  rw[aA] at aM
  exact fin false (jR [1] (dA.post (Z0 (Y (m+1)) s _ false h h (fI I) (fI ae) (pQ h0) aM rfl) ⟨rfl,trivial⟩) (by simp)) (by simp[jl,au,aA])
 |true=>
  rw[aA] at aM
  have s1:=Z1 (Y (m+1)) s _ true h h (fI I) (fI ae) (pQ h0) aM rfl
  obtain⟨e,Γ,bt,bw⟩:=P7 m s h al s.length 0 (by omega) (by omega)
  have dL:=fX.run (p:=[1,1,0,1,0]) (by kernel_rfl) bt (by omega)
  rw[List.drop_zero] at bw
  have y1:1<=s.length:=h0
  have I6:s.length<=24:=by omega
  rcases bw with⟨rfl,rfl,jW⟩|⟨rfl,rfl,jW⟩
  · exact fin true (dG [1] s1 (dG [1,1] (dG [1,1,0] (P2 (Y (m+1)) s h) (a5.block (p:=[1,1,0,1]) (id:=0) (by kernel_rfl) dL)) (Z2 (Y (m+1)) h))) (by unfold jl;rw[jW,au,aA];simp[y1,I6])
  · exact fin false (dG [1] s1 (jR [1,1] (dG [1,1,0] (P2 (Y (m+1)) s h) (a5.s0 (p:=[1,1,0,1]) (id:=0) (by kernel_rfl) dL (by simp))) (by simp))) (by unfold jl;rw[jW];simp)
theorem aar(call:aW)(s:bb)(i n:Nat)(h:ab)(I:i<s.length)(al:s.length<=90000)(ae:hX i s=some (b4 n))(aM:call (.fn 103) [b4 n] h=.ret (.bool (iF n)) h):
  if lF n then a5 an Tryz.f81 none call [1,1,0,1,0,0] ⟨[(0,.str s),(3,J i)],[],.none,h⟩ .nrm ⟨[(0,.str s),(3,J (i+1))],[],.none,h⟩
  else a5 an Tryz.f81 none call [1,1,0,1,0,0] ⟨[(0,.str s),(3,J i)],[],.none,h⟩ .ret ⟨[(2,.bool false)],[],.none,h⟩:=by
 have aO:=la I (m:=s.length) (by omega)
 have hi:=eD I
 have ne:∀{a b:Nat},a≠b->(!fc (Int.ofNat a) (Int.ofNat b))=true:=λe=>IW e
 have nA:∀{a b:Nat},a=b->(!fc (Int.ofNat a) (Int.ofNat b))=false:=λe=>EU e
 cases aA:iF n with
 |true=>
  rw[aA] at aM
  rw[if_pos (by simp[lF,aA])]
  exact aab call s i n (i+1) true h h hi ae aM rfl aO
 |false=>
  rw[aA] at aM
  by_cases cu:n<48
  · by_cases dm:n=45
    · rw[if_pos (by simp[lF,dm])]
      exact Z9 call s i n (i+1) false h h hi ae aM rfl (eD cu) (nA dm) aO
    by_cases e0:n=47
    · rw[if_pos (by simp[lF,e0])]
      exact Z8 call s i n (i+1) false h h hi ae aM rfl (eD cu) (ne dm) (nA e0) aO
    by_cases ey:n=46
    · rw[if_pos (by simp[lF,ey])]
      exact Z7 call s i n (i+1) false h h hi ae aM rfl (eD cu) (ne dm) (ne e0) (nA ey) aO
    · rw[if_neg (by simp[lF,aA,kC,dm,e0,ey];omega)]
      exact dA.post (Z6 call s i n 0 false h h hi ae aM rfl (eD cu) (ne dm) (ne e0) (ne ey)) ⟨rfl,trivial⟩
  · by_cases cU:57<n
    · rw[if_neg (by simp[lF,aA,kC];omega)]
      exact dA.post (Z_ call s i n 0 false h h hi ae aM rfl (fI cu) (eD cU) (ne (by omega)) (ne (by omega)) (ne (by omega))) ⟨rfl,trivial⟩
    · rw[if_pos (by simp[lF,kC];omega)]
      exact aaa call s i n (i+1) false h h hi ae aM rfl (fI cu) (fI cU) aO
theorem P_(m:Nat)(s:bb)(h:ab)(al:s.length<=90000):∀(k i:Nat),s.length-i=k->i<=s.length->
  ∃e Γ,fX an Tryz.f81 none (Y (m+1)) [1,1,0,1,0] (k+1) ⟨[(0,.str s),(3,J i)],[],.none,h⟩ e (aks Γ h)/\
   ((e=.exit 0/\Γ=[]/\(s.drop i).all (λc=>lF c.toNat)=true)\/(e=.ret/\Γ=[(2,.bool false)]/\(s.drop i).all (λc=>lF c.toNat)=false))
 |0,i,ay,hi=>by
  obtain rfl:i=s.length:=by omega
  rw[List.drop_of_length_le (Nat.le_refl _)]
  exact⟨_,[],.exit (dA.post (aac (Y (m+1)) s s.length 0 0 false h h (fI (by omega))) trivial) (by simp),.inl ⟨rfl,rfl,rfl⟩⟩
 |k+1,i,ay,hi=>by
  have I:i<s.length:=by omega
  rw[List.drop_eq_getElem_cons I,List.all_cons]
  have st:=aar (Y (m+1)) s i s[i].toNat h I al (pQ I) (I5 m s[i].toNat h)
  cases ah:lF s[i].toNat with
  |true=>
   rw[if_pos ah] at st
   obtain⟨e,Γ,bt,bw⟩:=P_ m s h al k (i+1) (by omega) (by omega)
   refine⟨e,Γ,.step st bt,?_⟩
   rw[Bool.true_and];exact bw
  |false=>
   rw[if_neg (by rw[ah];simp)] at st
   exact⟨_,_,.exit st (by simp),.inr ⟨rfl,rfl,by rw[Bool.false_and]⟩⟩
theorem aas(m:Nat)(s:bb)(h:ab):Y (m+2) (.fn 81) [.str s] h=.ret (.bool (ny s)) h:=by
 have fin:∀b,a5 an Tryz.f81 none (Y (m+1)) [1] ⟨[(0,.str s)],[],.none,h⟩ .ret ⟨[(2,.bool b)],[],.none,h⟩->b=ny s->Y (m+2) (.fn 81) [.str s] h=.ret (.bool (ny s)) h:=λb ao ag=>by
  rw[<-ag]
  exact gR (intr:=ea) (n:=m+1) (args:=[.str s]) Tryz.func81 (dG [] (aap (Y (m+1)) s h) ao) (.inl rfl) (by kernel_rfl)
 by_cases I:s.length<1
 · exact fin false (jR [1] (dA.post (Z3 (Y (m+1)) s h (eD I)) ⟨rfl,trivial⟩) (by simp)) (by simp[ny];omega)
 by_cases ae:161<s.length
 · exact fin false (jR [1] (dA.post (Z4 (Y (m+1)) s h (fI I) (eD ae)) ⟨rfl,trivial⟩) (by simp)) (by simp[ny];omega)
 have al:s.length<=90000:=by omega
 have s1:=Z5 (Y (m+1)) s h (fI I) (fI ae)
 obtain⟨e,Γ,bt,bw⟩:=P_ m s h al s.length 0 (by omega) (by omega)
 have dL:=fX.run (p:=[1,1,0,1,0]) (by kernel_rfl) bt (by omega)
 rw[List.drop_zero] at bw
 have y1:1<=s.length:=by omega
 have I6:s.length<=161:=by omega
 rcases bw with⟨rfl,rfl,jW⟩|⟨rfl,rfl,jW⟩
 · exact fin true (dG [1] s1 (dG [1,1] (dG [1,1,0] (P3 (Y (m+1)) s h) (a5.block (p:=[1,1,0,1]) (id:=0) (by kernel_rfl) dL)) (aad (Y (m+1)) h))) (by unfold ny;rw[jW];simp[y1,I6])
 · exact fin false (dG [1] s1 (jR [1,1] (dG [1,1,0] (P3 (Y (m+1)) s h) (a5.s0 (p:=[1,1,0,1]) (id:=0) (by kernel_rfl) dL (by simp))) (by simp))) (by unfold ny;rw[jW];simp)
theorem Qa(call:aW)(s t:bb)(B:Nat)(h:ab)(al:s.length<=90000):∀(k i:Nat) (x:ab),s.length-i=k->i<=s.length->i<=t.length->Ext B h x->
  ∃e Γ y,fX an Tryz.f77 none call [1,0,1,0] (k+1) ⟨[(0,.str s),(1,.str t),(5,J i)],[],.none,x⟩ e (aks Γ y)/\
   ((e=.exit 0/\Γ=[(0,.str s),(1,.str t)]/\eA (s.drop i) (t.drop i)=decide (s.length<t.length))\/(e=.ret/\Γ=[(4,.bool (eA (s.drop i) (t.drop i)))]))/\Ext B h y
 |0,i,x,ay,hi,fi,aa=>by
  obtain rfl:i=s.length:=by omega
  refine⟨_,[(0,.str s),(1,.str t)],_,.exit (dA.post (aam call s t s.length 0 0 0 x (fI (by omega))) ⟨rfl,rfl,trivial⟩) (by simp),.inl ⟨rfl,rfl,?_⟩,aa⟩
  rw[List.drop_of_length_le (Nat.le_refl _)]
  cases ai:t.drop s.length with
  |nil=>
   have:t.length<=s.length:=List.drop_eq_nil_iff.1 ai
   rw[eA];simp;omega
  |cons c u=>
   have:s.length<t.length:=by
    have:=congrArg List.length ai
    simp at this;omega
   rw[eA];simp[this]
 |k+1,i,x,ay,hi,fi,aa=>by
  have I:i<s.length:=by omega
  by_cases ae:i<t.length
  · rw[List.drop_eq_getElem_cons I,List.drop_eq_getElem_cons ae,BB]
    by_cases he:s[i].toNat=t[i].toNat
    · rw[if_pos he]
      obtain⟨e,Γ,y,bt,bw,dL⟩:=Qa call s t B h al k (i+1) (x.room 7) (by omega) (by omega) (by omega) aa.iT
      exact⟨e,Γ,y,.step (aak call s t i _ _ (i+1) x (eD I) (eD ae) (pQ I) (pQ ae) (EU he) (la I (by omega))) bt,bw,dL⟩
    · rw[if_neg he,<-P6]
      exact⟨_,[(4,.bool (gY (Int.ofNat s[i].toNat) (Int.ofNat t[i].toNat)))],_,.exit (dA.post (aaj call s t i _ _ 0 x (eD I) (eD ae) (pQ I) (pQ ae) (IW he)) ⟨rfl,trivial⟩) (by simp),.inr ⟨rfl,rfl⟩,aa.iT.iT⟩
  · refine⟨_,[(0,.str s),(1,.str t)],_,.exit (dA.post (aal call s t i 0 0 0 x (eD I) (fI ae)) ⟨rfl,rfl,trivial⟩) (by simp),.inl ⟨rfl,rfl,?_⟩,aa⟩
    rw[List.drop_of_length_le (l:=t) (by omega)]
    have:eA (s.drop i) []=false:=by
     cases s.drop i<;>rw[eA]
    rw[this];simp;omega
theorem EX(m:Nat)(s t:bb)(B:Nat)(h:ab)(al:s.length<=90000):∃aw,Y (m+1) (.fn 77) [.str s,.str t] h=.ret (.bool (eA s t)) aw/\Ext B h aw:=by
 obtain⟨e,Γ,y,bt,bw,dL⟩:=Qa (Y m) s t B h al s.length 0 h (by omega) (by omega) (by omega) (Ext.refl _ _)
 have h8:=fX.run (p:=[1,0,1,0]) (by kernel_rfl) bt (by omega)
 rw[List.drop_zero,List.drop_zero] at bw
 rcases bw with⟨rfl,rfl,jW⟩|⟨rfl,rfl⟩
 · rw[jW,<-P6]
   exact⟨y,gR (intr:=ea) (n:=m) (args:=[.str s,.str t]) Tryz.func77 (dG [] (P4 (Y m) s t h) (dG [1] (dG [1,0] (P5 (Y m) s t h) (a5.block (p:=[1,0,1]) (id:=0) (by kernel_rfl) h8)) (aan (Y m) s t y))) (.inl rfl) (by kernel_rfl),dL⟩
 · exact⟨y,gR (intr:=ea) (n:=m) (args:=[.str s,.str t]) Tryz.func77 (dG [] (P4 (Y m) s t h) (jR [1] (dG [1,0] (P5 (Y m) s t h) (a5.s0 (p:=[1,0,1]) (id:=0) (by kernel_rfl) h8 (by simp))) (by simp))) (.inl rfl) (by kernel_rfl),dL⟩
theorem aat(r:Nat)(h:ab):
  a5 an Tryz.f79 none call [0] (aj [(0,af r)] h) (.nrm)
   (aj [(0,af r)] h):=
 bN [0] [] 16 0 0 bM
theorem aau(r:Nat)(h g:ab)
  (H1:bg.storeCells (ab.push h (aQ [.str [],.str [],.str [],.str [],.str []] 141)) (ab.n h) 0 [.str [97,110,121],.str [105,110,116],.str [98,111,111,108],.str [115,116,114],.str [110,105,108]]=some g):
  a5 an Tryz.f79 none call [1,0] (aj [(0,af r)] h) (.nrm)
   (aj [(0,af r),(3,af (ab.n h))] g):=
 bN [0,3] [.n5 (.aR []) g] 16 1 2 (hR (⟨by kernel_rfl,H1,rfl⟩:some 5=some 5/\bg.storeCells (ab.push h (dQ.cells [ad.str [],ad.str [],ad.str [],ad.str [],ad.str []] 141 hb.own 0 0)) (ab.n h) 0 [ad.str [97,110,121],ad.str [105,110,116],ad.str [98,111,111,108],ad.str [115,116,114],ad.str [110,105,108]]=some g/\ad.aR []=ad.aR []) bM)
theorem aav(r a:Nat)(h:ab):
  a5 an Tryz.f79 none call [1,1,0] (aj [(0,af r),(3,af a)] h) (.nrm)
   (aj [(0,af r),(3,af a),(4,.str [])] h):=
 bN [0,3,4] [] 16 0 0 bM
theorem aaw(r a k:Nat)(h:ab)
  (H1:aq h r (0+0)=some (J k)):
  a5 an Tryz.f79 none call [1,1,1,0,0] (aj [(0,af r),(3,af a),(4,.str [])] h) (.nrm)
   (aj [(0,af r),(3,af a),(4,.str []),(12,J k)] h):=
 bN [0,3,4,12] [.v (J k)] 16 1 2 (hR H1 bM)
theorem aax(r a:Nat)(s:List UInt8)(h:ab)
  (H1:aq h r (0+1)=some (.str s)):
  a5 an Tryz.f79 none call [1,1,1,0,1] (aj [(0,af r),(3,af a),(4,.str []),(12,J 6)] h) (.ret)
   (aj [(2,.str s)] h):=
 bN [2] [.b true,.v (.str s)] 16 2 35 (ji (by kernel_rfl:bQ 6 6=true) H1 bM)
theorem aay(r a:Nat)(s s1 s2:List UInt8)(h g:ab)
  (H1:a5 an Tryz.f79 none call [1,1,1,0,1,0,1,1,1,0,0,1,0] (aj [(5,J 0),(19,.bool (bQ 7 7)),(13,.bool (bQ 7 6)),(0,af r),(3,af a),(4,.str []),(12,J 7)] h) (.exit 1) (aj [(0,af r),(4,.str s)] g))
  (bh:hL .add [123] s=some (.str s1))
  (bD:hL .add s1 [125]=some (.str s2)):
  a5 an Tryz.f79 none call [1,1,1,0,1] (aj [(0,af r),(3,af a),(4,.str []),(12,J 7)] h) (.ret)
   (aj [(2,.str s2)] g):=
 bN [2] (cv 2 1 [Hint.loop (bW.exit 1) (bL.mk [(0,ad.ptr r 0),(4,ad.str s)] [] bU.none g),Hint.v (ad.str s1),Hint.v (ad.str s2)]) 16 5 144470 (mX (by kernel_rfl:bQ 7 6=false) (by kernel_rfl:bQ 7 7=true) H1 bh bD bM)
theorem aaz(r a:Nat)(s s1 s2 b1 b_:List UInt8)(v:ad)(h g av:ab)
  (H1:a5 an Tryz.f79 none call [1,1,1,0,1,0,1,1,1,1,1,0,0,1,0] (aj [(6,J 0),(56,.bool (bQ 8 8)),(19,.bool (bQ 8 7)),(13,.bool (bQ 8 6)),(0,af r),(3,af a),(4,.str []),(12,J 8)] h) (.exit 3) (aj [(0,af r),(4,.str s)] g))
  (bh:hL .add [102,110,40] s=some (.str s1))
  (bD:hL .add s1 [41,32,45,62,32]=some (.str s2))
  (cm:aq g r (0+4)=some v)
  (cS:call (.fn 79) [v] g=bE.ret (.str b1) av)
  (dT:hL .add s2 b1=some (.str b_)):
  a5 an Tryz.f79 none call [1,1,1,0,1] (aj [(0,af r),(3,af a),(4,.str []),(12,J 8)] h) (.ret)
   (aj [(2,.str b_)] av):=
 bN [2] (cv 3 1 [Hint.loop (bW.exit 3) (bL.mk [(0,ad.ptr r 0),(4,ad.str s)] [] bU.none g),Hint.v (ad.str s1),Hint.v (ad.str s2),Hint.v v,Hint.c (ad.str b1) av,Hint.v (ad.str b_)]) 16 9 9468016794 (fJ (by kernel_rfl:bQ 8 6=false) (by kernel_rfl:bQ 8 7=false) (by kernel_rfl:bQ 8 8=true) H1 bh bD cm cS dT bM)
theorem aaA(r a:Nat)(s:List UInt8)(h g:ab)
  (H1:a5 an Tryz.f79 none call [1,1,1,0,1,0,1,1,1,1,1,1,1,0,0,1,0] (aj [(7,J 0),(90,.bool (bQ 9 9)),(56,.bool (bQ 9 8)),(19,.bool (bQ 9 7)),(13,.bool (bQ 9 6)),(0,af r),(3,af a),(4,.str []),(12,J 9)] h) (.exit 5) (aj [(0,af r),(4,.str s)] g)):
  a5 an Tryz.f79 none call [1,1,1,0,1] (aj [(0,af r),(3,af a),(4,.str []),(12,J 9)] h) (.ret)
   (aj [(2,.str s)] g):=
 bN [2] (cv 4 1 [Hint.loop (bW.exit 5) (bL.mk [(0,ad.ptr r 0),(4,ad.str s)] [] bU.none g)]) 16 5 144470 (mX (by kernel_rfl:bQ 9 6=false) (by kernel_rfl:bQ 9 7=false) (by kernel_rfl:bQ 9 8=false) (by kernel_rfl:bQ 9 9=true) H1 bM)
theorem aaB(r a k:Nat)(h:ab)
  (H1:bQ k 6=false)
  (bh:bQ k 7=false)
  (bD:bQ k 8=false)
  (cm:bQ k 9=false):
  a5 an Tryz.f79 none call [1,1,1,0,1] (aj [(0,af r),(3,af a),(4,.str []),(12,J k)] h) (.nrm)
   (aj [(0,af r),(3,af a)] h):=
 bN [0,3] (cv 4 0 []) 16 4 9029 (mW H1 bh bD cm bM)
theorem aaC(r a k j q:Nat)(s:List UInt8)(h:ab)
  (H1:aq h r (0+0)=some (J k))
  (bh:arith .sub .i64 (.ofNat k) (.ofNat 1)=some (J j))
  (bD:Nat.le (Nat.succ j) 5/\ad.ptr a q=ad.ptr a (0+j*1))
  (cm:aq h a q=some (.str s)):
  a5 an Tryz.f79 none call [1,1,1,1] (aj [(0,af r),(3,af a)] h) (.ret)
   (aj [(2,.str s)] h):=
 bN [2] [.v (J k),.v (J j),.v (.ptr a q),.v (.str s)] 16 4 9029 (mW H1 bh bD cm bM)
theorem aaD(r i N:Nat)(s:List UInt8)(v:ad)(h:ab)
  (H1:aq h r (0+3)=some v)
  (bh:bV an h 50 v=some (J N))
  (bD:cE i N=false):
  a5 an Tryz.f79 none call [1,1,1,0,1,0,1,1,1,0,0,1,0,0] (aj [(0,af r),(4,.str s),(5,J i)] h) (.exit 1)
   (aj [(0,af r),(4,.str s)] h):=
 bN [0,4] [.v v,.o (J N),.b false] 16 3 564 (kd H1 bh bD bM)
theorem aaE(r i N:Nat)(s:List UInt8)(v:ad)(h:ab)
  (H1:aq h r (0+3)=some v)
  (bh:bV an h 50 v=some (J N))
  (bD:cE i N=false):
  a5 an Tryz.f79 none call [1,1,1,0,1,0,1,1,1,1,1,0,0,1,0,0] (aj [(0,af r),(4,.str s),(6,J i)] h) (.exit 3)
   (aj [(0,af r),(4,.str s)] h):=
 bN [0,4] [.v v,.o (J N),.b false] 16 3 564 (kd H1 bh bD bM)
theorem aaF(r i N:Nat)(s:List UInt8)(v:ad)(h:ab)
  (H1:aq h r (0+3)=some v)
  (bh:bV an h 50 v=some (J N))
  (bD:cE i N=false):
  a5 an Tryz.f79 none call [1,1,1,0,1,0,1,1,1,1,1,1,1,0,0,1,0,0] (aj [(0,af r),(4,.str s),(7,J i)] h) (.exit 5)
   (aj [(0,af r),(4,.str s)] h):=
 bN [0,4] [.v v,.o (J N),.b false] 16 3 564 (kd H1 bh bD bM)
theorem aaG(r b off N bo c_ M i q a2 j:Nat)(s s1 s2 b1 b_ cI n w:List UInt8)(x:ad)(cp eh:ct)(h g:ab)
  (H1:aq h r (0+3)=some (.slice bo c_ M eh))
  (bh:cE i M=true)
  (bD:cE 0 i=true)
  (cm:hL .add s [44,32]=some (.str s1))
  (cS:aq (ab.room h 20) r (0+2)=some (.slice b off N cp))
  (dT:Nat.le (Nat.succ i) N/\ad.ptr b q=ad.ptr b (off+i*1))
  (eS:aq (ab.room h 20) b q=some (.str n))
  (g6:hL .add s1 n=some (.str s2))
  (jB:hL .add s2 [58,32]=some (.str b1))
  (mv:aq (ab.room h 20) r (0+3)=some (.slice bo c_ M eh))
  (pa:Nat.le (Nat.succ i) M/\ad.ptr bo a2=ad.ptr bo (c_+i*1))
  (qQ:aq (ab.room h 20) bo a2=some x)
  (w8:call (.fn 79) [x] (ab.room h 20)=bE.ret (.str w) g)
  (I7:hL .add b1 w=some (.str b_))
  (I8:aq g r (0+2)=some (.slice b off N cp))
  (I9:aq g b q=some (.str n))
  (I_:ad.sound x=true:=by first|with_reducible assumption|rfl|exact c5.snd (by with_reducible assumption)|exact c5.fL (by with_reducible assumption)|exact d_.snd (by with_reducible assumption)|exact d_.fL (by with_reducible assumption)|exact dP.snd (by with_reducible assumption)|exact dP.fL (by with_reducible assumption))
  (aaH:arith .add .i64 (.ofNat i) (.ofNat 1)=some (J j)):
  a5 an Tryz.f79 none call [1,1,1,0,1,0,1,1,1,0,0,1,0,0] (aj [(0,af r),(4,.str s),(5,J i)] h) (.nrm)
   (aj [(0,af r),(4,.str b_),(5,J j)] g):=
 bN [0,4,5] (.v (.slice bo c_ M eh)::cv 2 3 [.v (.str s1),.v (.slice b off N cp),.v (.ptr b q),.v (.str n),.v (.str s2),.v (.str b1),.v (.slice bo c_ M eh),.v (.ptr bo a2),.v x,.c (.str w) g,.v (.str b_),.v (J j)]) 256 73 0x2030405060708090a0b0c0d0e0f1011101112131213121312131415141516171606181918191a071a071b1c1b081d091d091e0a1e0a121312131f20210b1819220c230d240f242526 (fJ H1 bh bD cm cS dT eS g6 jB<|fJ mv pa qQ w8 I7 (ca (.str s1)) (dN (.str s1)) (ca (af r)) (dN (af r))<|fJ (ca (.ptr r (0+2))) (dN (.ptr r (0+2))) (ca (.slice b off N cp)) I8 (ca (J i)) (dN (J i)) (ca (.ptr b q)) (ca (.str n)) I9<|fJ (ca (.str s2)) (ca (.str b1)) (ca (.ptr r (0+3))) (dN (.ptr r (0+3))) (ca (.slice bo c_ M eh)) (ca (.ptr bo a2)) I_ (ca (.str b_)) (dN (.str b_))<|hR aaH bM)
theorem aaI(r b off N bo c_ M i q a2 j:Nat)(s s1 s2 b1 b_ cI n w:List UInt8)(x:ad)(cp eh:ct)(h g:ab)
  (H1:aq h r (0+3)=some (.slice bo c_ M eh))
  (bh:cE i M=true)
  (bD:cE 0 i=false)
  (cm:aq (ab.room h 20) r (0+2)=some (.slice b off N cp))
  (cS:Nat.le (Nat.succ i) N/\ad.ptr b q=ad.ptr b (off+i*1))
  (dT:aq (ab.room h 20) b q=some (.str n))
  (eS:hL .add s n=some (.str s2))
  (g6:hL .add s2 [58,32]=some (.str b1))
  (jB:aq (ab.room h 20) r (0+3)=some (.slice bo c_ M eh))
  (mv:Nat.le (Nat.succ i) M/\ad.ptr bo a2=ad.ptr bo (c_+i*1))
  (pa:aq (ab.room h 20) bo a2=some x)
  (qQ:call (.fn 79) [x] (ab.room h 20)=bE.ret (.str w) g)
  (w8:hL .add b1 w=some (.str b_))
  (I7:aq g r (0+2)=some (.slice b off N cp))
  (I8:aq g b q=some (.str n))
  (I9:ad.sound x=true:=by first|with_reducible assumption|rfl|exact c5.snd (by with_reducible assumption)|exact c5.fL (by with_reducible assumption)|exact d_.snd (by with_reducible assumption)|exact d_.fL (by with_reducible assumption)|exact dP.snd (by with_reducible assumption)|exact dP.fL (by with_reducible assumption))
  (I_:arith .add .i64 (.ofNat i) (.ofNat 1)=some (J j)):
  a5 an Tryz.f79 none call [1,1,1,0,1,0,1,1,1,0,0,1,0,0] (aj [(0,af r),(4,.str s),(5,J i)] h) (.nrm)
   (aj [(0,af r),(4,.str b_),(5,J j)] g):=
 bN [0,4,5] (.v (.slice bo c_ M eh)::cv 2 2 [.v (.slice b off N cp),.v (.ptr b q),.v (.str n),.v (.str s2),.v (.str b1),.v (.slice bo c_ M eh),.v (.ptr bo a2),.v x,.c (.str w) g,.v (.str b_),.v (J j)]) 256 72 0x2030405060708090a0b0c0d0e0f100f101112111211121112131413141516150517181718190619061a1b1a071c081c081d091d09111211121e1f200a1718210b220c230e232425 (fJ H1 bh bD cm cS dT eS g6 jB<|fJ mv pa qQ w8 (ca (.str s)) (dN (.str s)) (ca (af r)) (dN (af r)) (ca (.ptr r (0+2)))<|fJ (dN (.ptr r (0+2))) (ca (.slice b off N cp)) I7 (ca (J i)) (dN (J i)) (ca (.ptr b q)) (ca (.str n)) I8 (ca (.str s2))<|fJ (ca (.str b1)) (ca (.ptr r (0+3))) (dN (.ptr r (0+3))) (ca (.slice bo c_ M eh)) (ca (.ptr bo a2)) I9 (ca (.str b_)) (dN (.str b_)) I_ bM)
theorem aaJ(r b off N bo c_ M i q a2 j:Nat)(s s1 s2 b1 b_ cI n w:List UInt8)(x:ad)(cp eh:ct)(h g:ab)
  (H1:aq h r (0+3)=some (.slice bo c_ M eh))
  (bh:cE i M=true)
  (bD:cE 0 i=true)
  (cm:hL .add s [44,32]=some (.str s1))
  (cS:Nat.le (Nat.succ i) M/\ad.ptr bo a2=ad.ptr bo (c_+i*1))
  (dT:aq h bo a2=some x)
  (eS:call (.fn 79) [x] h=bE.ret (.str w) g)
  (g6:hL .add s1 w=some (.str s2))
  (jB:arith .add .i64 (.ofNat i) (.ofNat 1)=some (J j)):
  a5 an Tryz.f79 none call [1,1,1,0,1,0,1,1,1,1,1,0,0,1,0,0] (aj [(0,af r),(4,.str s),(6,J i)] h) (.nrm)
   (aj [(0,af r),(4,.str s2),(6,J j)] g):=
 bN [0,4,6] (.v (.slice bo c_ M eh)::cv 2 3 [.v (.str s1),.v (.slice bo c_ M eh),.v (.ptr bo a2),.v x,.c (.str w) g,.v (.str s2),.v (J j)]) 16 10 151484004506 (fJ H1 bh bD cm cS dT eS g6 jB bM)
theorem aaK(r b off N bo c_ M i q a2 j:Nat)(s s1 s2 b1 b_ cI n w:List UInt8)(x:ad)(cp eh:ct)(h g:ab)
  (H1:aq h r (0+3)=some (.slice bo c_ M eh))
  (bh:cE i M=true)
  (bD:cE 0 i=false)
  (cm:Nat.le (Nat.succ i) M/\ad.ptr bo a2=ad.ptr bo (c_+i*1))
  (cS:aq h bo a2=some x)
  (dT:call (.fn 79) [x] h=bE.ret (.str w) g)
  (eS:hL .add s w=some (.str s2))
  (g6:arith .add .i64 (.ofNat i) (.ofNat 1)=some (J j)):
  a5 an Tryz.f79 none call [1,1,1,0,1,0,1,1,1,1,1,0,0,1,0,0] (aj [(0,af r),(4,.str s),(6,J i)] h) (.nrm)
   (aj [(0,af r),(4,.str s2),(6,J j)] g):=
 bN [0,4,6] (.v (.slice bo c_ M eh)::cv 2 2 [.v (.slice bo c_ M eh),.v (.ptr bo a2),.v x,.c (.str w) g,.v (.str s2),.v (J j)]) 16 9 9464801161 (Be H1 bh bD cm cS dT eS g6 bM)
theorem aaL(r b off N bo c_ M i q a2 j m k:Nat)(s s1 s2 b1 b_ cI n w:List UInt8)(x:ad)(cp eh:ct)(h g:ab)
  (H1:aq h r (0+3)=some (.slice bo c_ M eh))
  (bh:cE i M=true)
  (bD:cE 0 i=true)
  (cm:hL .add s [32,124,32]=some (.str s1))
  (cS:Nat.le (Nat.succ i) M/\ad.ptr bo a2=ad.ptr bo (c_+i*1))
  (dT:aq h bo a2=some (af m))
  (eS:aq h m (0+0)=some (J k))
  (g6:bQ k 8=true)
  (jB:hL .add s1 [40]=some (.str s2))
  (mv:call (.fn 79) [af m] h=bE.ret (.str w) g)
  (pa:hL .add s2 w=some (.str b1))
  (qQ:hL .add b1 [41]=some (.str b_))
  (w8:arith .add .i64 (.ofNat i) (.ofNat 1)=some (J j)):
  a5 an Tryz.f79 none call [1,1,1,0,1,0,1,1,1,1,1,1,1,0,0,1,0,0] (aj [(0,af r),(4,.str s),(7,J i)] h) (.nrm)
   (aj [(0,af r),(4,.str b_),(7,J j)] g):=
 bN [0,4,7] (.v (.slice bo c_ M eh)::cv 2 3 [.v (.str s1),.v (.slice bo c_ M eh),.v (.ptr bo a2),.v (af m),.v (J k),.b true,.v (.str s2),.v (.slice bo c_ M eh),.v (.ptr bo a2),.v (af m),.c (.str w) g,.v (.str b1),.v (.str b_),.v (J j)]) 16 17 0x234526789a267bcde (fJ H1 bh bD cm cS dT eS g6 jB<|mW mv pa qQ w8 bM)
theorem aaM(r b off N bo c_ M i q a2 j m k:Nat)(s s1 s2 b1 b_ cI n w:List UInt8)(x:ad)(cp eh:ct)(h g:ab)
  (H1:aq h r (0+3)=some (.slice bo c_ M eh))
  (bh:cE i M=true)
  (bD:cE 0 i=true)
  (cm:hL .add s [32,124,32]=some (.str s1))
  (cS:Nat.le (Nat.succ i) M/\ad.ptr bo a2=ad.ptr bo (c_+i*1))
  (dT:aq h bo a2=some (af m))
  (eS:aq h m (0+0)=some (J k))
  (g6:bQ k 8=false)
  (jB:call (.fn 79) [af m] h=bE.ret (.str w) g)
  (mv:hL .add s1 w=some (.str s2))
  (pa:arith .add .i64 (.ofNat i) (.ofNat 1)=some (J j)):
  a5 an Tryz.f79 none call [1,1,1,0,1,0,1,1,1,1,1,1,1,0,0,1,0,0] (aj [(0,af r),(4,.str s),(7,J i)] h) (.nrm)
   (aj [(0,af r),(4,.str s2),(7,J j)] g):=
 bN [0,4,7] (.v (.slice bo c_ M eh)::cv 2 3 [.v (.str s1),.v (.slice bo c_ M eh),.v (.ptr bo a2),.v (af m),.v (J k),.b false,.v (.slice bo c_ M eh),.v (.ptr bo a2),.v (af m),.c (.str w) g,.v (.str s2),.v (J j)]) 16 15 0x234526789267abc (fJ H1 bh bD cm cS dT eS g6 jB<|ji mv pa bM)
theorem aaN(r b off N bo c_ M i q a2 j m k:Nat)(s s1 s2 b1 b_ cI n w:List UInt8)(x:ad)(cp eh:ct)(h g:ab)
  (H1:aq h r (0+3)=some (.slice bo c_ M eh))
  (bh:cE i M=true)
  (bD:cE 0 i=false)
  (cm:Nat.le (Nat.succ i) M/\ad.ptr bo a2=ad.ptr bo (c_+i*1))
  (cS:aq h bo a2=some (af m))
  (dT:aq h m (0+0)=some (J k))
  (eS:bQ k 8=true)
  (g6:hL .add s [40]=some (.str s2))
  (jB:call (.fn 79) [af m] h=bE.ret (.str w) g)
  (mv:hL .add s2 w=some (.str b1))
  (pa:hL .add b1 [41]=some (.str b_))
  (qQ:arith .add .i64 (.ofNat i) (.ofNat 1)=some (J j)):
  a5 an Tryz.f79 none call [1,1,1,0,1,0,1,1,1,1,1,1,1,0,0,1,0,0] (aj [(0,af r),(4,.str s),(7,J i)] h) (.nrm)
   (aj [(0,af r),(4,.str b_),(7,J j)] g):=
 bN [0,4,7] (.v (.slice bo c_ M eh)::cv 2 2 [.v (.slice bo c_ M eh),.v (.ptr bo a2),.v (af m),.v (J k),.b true,.v (.str s2),.v (.slice bo c_ M eh),.v (.ptr bo a2),.v (af m),.c (.str w) g,.v (.str b1),.v (.str b_),.v (J j)]) 16 16 0x234256789256abcd (fJ H1 bh bD cm cS dT eS g6 jB<|kd mv pa qQ bM)
theorem aaO(r b off N bo c_ M i q a2 j m k:Nat)(s s1 s2 b1 b_ cI n w:List UInt8)(x:ad)(cp eh:ct)(h g:ab)
  (H1:aq h r (0+3)=some (.slice bo c_ M eh))
  (bh:cE i M=true)
  (bD:cE 0 i=false)
  (cm:Nat.le (Nat.succ i) M/\ad.ptr bo a2=ad.ptr bo (c_+i*1))
  (cS:aq h bo a2=some (af m))
  (dT:aq h m (0+0)=some (J k))
  (eS:bQ k 8=false)
  (g6:call (.fn 79) [af m] h=bE.ret (.str w) g)
  (jB:hL .add s w=some (.str s2))
  (mv:arith .add .i64 (.ofNat i) (.ofNat 1)=some (J j)):
  a5 an Tryz.f79 none call [1,1,1,0,1,0,1,1,1,1,1,1,1,0,0,1,0,0] (aj [(0,af r),(4,.str s),(7,J i)] h) (.nrm)
   (aj [(0,af r),(4,.str s2),(7,J j)] g):=
 bN [0,4,7] (.v (.slice bo c_ M eh)::cv 2 2 [.v (.slice bo c_ M eh),.v (.ptr bo a2),.v (af m),.v (J k),.b false,.v (.slice bo c_ M eh),.v (.ptr bo a2),.v (af m),.c (.str w) g,.v (.str s2),.v (J j)]) 16 14 9924563335211435 (fJ H1 bh bD cm cS dT eS g6 jB<|hR mv bM)
theorem EY{fn:Func}{call:aW}{p:List Nat}{e:bW}{reg R B N:Nat}{h:ab}{sep:bb}{items:List bb}(hh:items.length=N)(he:e≠ .nrm)
  (step:∀i (hi:i<items.length) x,Ext B h x->∃y,a5 an fn none call (p++[0]) ⟨[(0,.ptr R 0),(4,.str (eR sep (items.take i))),(reg,J i)],[],.none,x⟩ .nrm ⟨[(0,.ptr R 0),(4,.str (eR sep (items.take (i+1)))),(reg,J (i+1))],[],.none,y⟩/\Ext B h y)
  (exit:∀x s,Ext B h x->a5 an fn none call (p++[0]) ⟨[(0,.ptr R 0),(4,.str s),(reg,J N)],[],.none,x⟩ e ⟨[(0,.ptr R 0),(4,.str s)],[],.none,x⟩):
  ∀(k i:Nat) (x:ab),N-i=k->i<=N->Ext B h x->∃y,fX an fn none call p (k+1) ⟨[(0,.ptr R 0),(4,.str (eR sep (items.take i))),(reg,J i)],[],.none,x⟩ e ⟨[(0,.ptr R 0),(4,.str (eR sep items))],[],.none,y⟩/\Ext B h y
 |0,i,x,ay,hi,aa=>by
  obtain rfl:i=N:=by omega
  rw[List.take_of_length_le (by omega)]
  exact⟨x,.exit (exit x _ aa) he,aa⟩
 |k+1,i,x,ay,hi,aa=>by
  obtain⟨y,s1,s2⟩:=step i (by omega) x aa
  obtain⟨z,bt,bw⟩:=EY hh he step exit k (i+1) y (by omega) (by omega) s2
  exact⟨z,.step s1 bt,bw⟩
abbrev BL(m B:Nat)(h:ab)(vs:List ad)(ws:List bb):Prop:=∀i (I:i<vs.length) (ae:i<ws.length) x,Ext B h x->∃aw,Y m (.fn 79) [vs[i]] x=.ret (.str ws[i]) aw/\Ext B x aw
theorem aaP{m B R i:Nat}{h x:ab}{jy aj bA aU cY:ad}{bq:hb}{lo up:Nat}{vs:List ad}{ws:List bb}(dV:R<B)(ar:h.get R=some (.cells [jy,aj,bA,aU,cY] 80 bq lo up))(aI:c5 B h aU vs)(aA:ws.length=vs.length)(hlen:vs.length<=90000)(ag:(eR [44,32] ws).length<=1000000)(bl:BL m B h vs ws)(hi:i<ws.length)(aa:Ext B h x):
  ∃y,a5 an Tryz.f79 none (Y m) [1,1,1,0,1,0,1,1,1,1,1,0,0,1,0,0] ⟨[(0,.ptr R 0),(4,.str (eR [44,32] (ws.take i))),(6,J i)],[],.none,x⟩ .nrm ⟨[(0,.ptr R 0),(4,.str (eR [44,32] (ws.take (i+1)))),(6,J (i+1))],[],.none,y⟩/\Ext B h y:=by
 have I:i<vs.length:=by omega
 have eU:=(aa.get R dV).trans ar
 rcases aI with⟨_,rfl⟩|⟨b,off,cp,rfl,g2,iq,pb⟩
 · simp at I
 have aG:aq x b (off+i*1)=some vs[i]:=(m4 aa g2).trans (iq i I)
 obtain⟨g,aM,bf⟩:=bl i I hi x aa
 have t1:=BC [44,32] ws i
 have t2:=w3 [44,32] ws hi
 refine⟨g,?_,aa.trans (Nat.le_refl _) bf⟩
 rw[w2 [44,32] ws hi]
 by_cases h0:0<i
 · rw[if_pos h0]
   exact aaJ (Y m) R 0 0 0 b off vs.length i 0 (off+i*1) (i+1) _ _ _ [] [] [] [] ws[i] vs[i] (.exact 0) cp x g (aF eU rfl) (eD I) (eD h0) (iR (by simp;omega)) ⟨I,rfl⟩ aG aM (iR (by simp;omega)) (la I (by omega))
 · rw[if_neg h0]
   obtain rfl:i=0:=by omega
   exact aaK (Y m) R 0 0 0 b off vs.length 0 0 (off+0*1) 1 _ [] _ [] [] [] [] ws[0] vs[0] (.exact 0) cp x g (aF eU rfl) (eD I) (fI (by omega)) ⟨I,rfl⟩ aG aM (iR (x:=[]) (by simp;omega)) (la I (by omega))
theorem aaQ{m B R i:Nat}{h x:ab}{jy aj bA aU cY:ad}{bq:hb}{lo up:Nat}{ns:List bb}{vs:List ad}{ws:List bb}(dV:R<B)(ar:h.get R=some (.cells [jy,aj,bA,aU,cY] 80 bq lo up))(aH:c5 B h bA (ns.map .str))(aI:c5 B h aU vs)(mm:ns.length=vs.length)(aA:ws.length=vs.length)(hlen:vs.length<=90000)(ag:(eR [44,32] (h7 ns ws)).length<=1000000)(fv:∀i (I:i<vs.length),ad.sound vs[i]=true)(bl:BL m B h vs ws)(hi:i<(h7 ns ws).length)(aa:Ext B h x):
  ∃y,a5 an Tryz.f79 none (Y m) [1,1,1,0,1,0,1,1,1,0,0,1,0,0] ⟨[(0,.ptr R 0),(4,.str (eR [44,32] ((h7 ns ws).take i))),(5,J i)],[],.none,x⟩ .nrm ⟨[(0,.ptr R 0),(4,.str (eR [44,32] ((h7 ns ws).take (i+1)))),(5,J (i+1))],[],.none,y⟩/\Ext B h y:=by
 have lh:(h7 ns ws).length=vs.length:=by unfold h7;rw[List.length_zipWith];omega
 have I:i<vs.length:=by omega
 have ae:i<ns.length:=by omega
 have ax:i<ws.length:=by omega
 have eU:=(aa.get R dV).trans ar
 have ao:=aa.iT (k:=20)
 have hT:=(ao.get R dV).trans ar
 rcases aI with⟨_,rfl⟩|⟨b,off,cp,rfl,g2,iq,pb⟩
 · simp at I
 rcases aH.strs with⟨_,rfl⟩|⟨bo,c_,eh,rfl,fh,hD⟩
 · simp at ae
 have aG:aq (x.room 20) b (off+i*1)=some vs[i]:=(m4 ao g2).trans (iq i I)
 have aE:aq (x.room 20) bo (c_+i*1)=some (.str ns[i]):=(m4 ao fh).trans (hD i ae)
 obtain⟨g,aM,bf⟩:=bl i I ax (x.room 20) ao
 have qR:=ao.trans (Nat.le_refl _) bf
 have BM:=(qR.get R dV).trans ar
 have bH:aq g bo (c_+i*1)=some (.str ns[i]):=(m4 qR fh).trans (hD i ae)
 have t1:=BC [44,32] (h7 ns ws) i
 have t2:=w3 [44,32] (h7 ns ws) hi
 have oO:(h7 ns ws)[i]=ns[i]++[58,32]++ws[i]:=List.getElem_zipWith (f:=λn w=>n++[58,32]++w) (h:=hi)
 have t3:ns[i].length+2+ws[i].length<=1000000:=by
  rw[oO] at t2
  simp at t2;omega
 refine⟨g,?_,qR⟩
 rw[w2 [44,32] (h7 ns ws) hi,oO]
 by_cases h0:0<i
 · rw[if_pos h0,<-List.append_assoc,<-List.append_assoc]
   exact aaG (Y m) R bo c_ ns.length b off vs.length i (c_+i*1) (off+i*1) (i+1) _ _ _ _ _ [] ns[i] ws[i] vs[i] eh cp x g (aF eU rfl) (eD I) (eD h0) (iR (by simp;omega)) (aF hT rfl) ⟨ae,rfl⟩ aE (iR (by simp;omega)) (iR (by simp;omega)) (aF hT rfl) ⟨I,rfl⟩ aG aM (iR (by simp;omega)) (aF BM rfl) bH (fv i I) (la I (by omega))
 · rw[if_neg h0]
   obtain rfl:i=0:=by omega
   exact aaI (Y m) R bo c_ ns.length b off vs.length 0 (c_+0*1) (off+0*1) 1 _ [] _ _ _ [] ns[0] ws[0] vs[0] eh cp x g (aF eU rfl) (eD I) (fI (by omega)) (aF hT rfl) ⟨ae,rfl⟩ aE (iR (x:=[]) (by simp;omega)) (iR (by simp;omega)) (aF hT rfl) ⟨I,rfl⟩ aG aM (iR (by simp;omega)) (aF BM rfl) bH (fv 0 I) (la I (by omega))
theorem aaR{m B R i:Nat}{h x:ab}{jy aj bA aU cY:ad}{bq:hb}{lo up:Nat}{fr:List Nat}{vs:List ad}{ws:List bb}(dV:R<B)(ar:h.get R=some (.cells [jy,aj,bA,aU,cY] 80 bq lo up))(aI:c5 B h aU vs)(O4:fr.length=vs.length)(aA:ws.length=vs.length)(hlen:vs.length<=90000)(ag:(eR [32,124,32] (iU fr ws)).length<=1000000)
  (rL:∀i (I:i<vs.length) (ae:i<fr.length),∃M,vs[i]=.ptr M 0/\∀x,Ext B h x->aq x M (0+0)=some (J fr[i]))(bl:BL m B h vs ws)(hi:i<(iU fr ws).length)(aa:Ext B h x):
  ∃y,a5 an Tryz.f79 none (Y m) [1,1,1,0,1,0,1,1,1,1,1,1,1,0,0,1,0,0] ⟨[(0,.ptr R 0),(4,.str (eR [32,124,32] ((iU fr ws).take i))),(7,J i)],[],.none,x⟩ .nrm ⟨[(0,.ptr R 0),(4,.str (eR [32,124,32] ((iU fr ws).take (i+1)))),(7,J (i+1))],[],.none,y⟩/\Ext B h y:=by
 have lh:(iU fr ws).length=vs.length:=by unfold iU;rw[List.length_zipWith];omega
 have I:i<vs.length:=by omega
 have ae:i<fr.length:=by omega
 have ax:i<ws.length:=by omega
 have eU:=(aa.get R dV).trans ar
 obtain⟨M,gB,tg⟩:=rL i I ae
 have r4:=tg x aa
 rcases aI with⟨_,rfl⟩|⟨b,off,cp,rfl,g2,iq,pb⟩
 · simp at I
 have aG:aq x b (off+i*1)=some (.ptr M 0):=by rw[<-gB];exact(m4 aa g2).trans (iq i I)
 obtain⟨g,aM,bf⟩:=bl i I ax x aa
 rw[gB] at aM
 have t1:=BC [32,124,32] (iU fr ws) i
 have t2:=w3 [32,124,32] (iU fr ws) hi
 have oO:(iU fr ws)[i]=if fr[i]=8 then[40]++ws[i]++[41] else ws[i]:=List.getElem_zipWith (f:=λ(k:Nat) (w:bb)=>if k=8 then[40]++w++[41] else w) (h:=hi)
 refine⟨g,?_,aa.trans (Nat.le_refl _) bf⟩
 rw[w2 [32,124,32] (iU fr ws) hi,oO]
 rw[oO] at t2
 by_cases gF:fr[i]=8
 · rw[if_pos gF] at t2⊢
   have t3:ws[i].length+2<=1000000:=by simp at t2;omega
   by_cases h0:0<i
   · rw[if_pos h0,<-List.append_assoc,<-List.append_assoc]
     exact aaL (Y m) R 0 0 0 b off vs.length i 0 (off+i*1) (i+1) M fr[i] _ _ _ _ _ [] [] ws[i] .aX (.exact 0) cp x g (aF eU rfl) (eD I) (eD h0) (iR (by simp;omega)) ⟨I,rfl⟩ aG r4 (o2 gF) (iR (by simp;omega)) aM (iR (by simp;omega)) (iR (by simp;omega)) (la I (by omega))
   · rw[if_neg h0]
     obtain rfl:i=0:=by omega
     exact aaN (Y m) R 0 0 0 b off vs.length 0 0 (off+0*1) 1 M fr[0] _ [] _ _ _ [] [] ws[0] .aX (.exact 0) cp x g (aF eU rfl) (eD I) (fI (by omega)) ⟨I,rfl⟩ aG r4 (o2 gF) (iR (x:=[]) (by simp)) aM (iR (by simp;omega)) (iR (by simp;omega)) (la I (by omega))
 · rw[if_neg gF] at t2⊢
   by_cases h0:0<i
   · rw[if_pos h0]
     exact aaM (Y m) R 0 0 0 b off vs.length i 0 (off+i*1) (i+1) M fr[i] _ _ _ [] [] [] [] ws[i] .aX (.exact 0) cp x g (aF eU rfl) (eD I) (eD h0) (iR (by simp;omega)) ⟨I,rfl⟩ aG r4 (kS gF) aM (iR (by simp;omega)) (la I (by omega))
   · rw[if_neg h0]
     obtain rfl:i=0:=by omega
     exact aaO (Y m) R 0 0 0 b off vs.length 0 0 (off+0*1) 1 M fr[0] _ [] _ [] [] [] [] ws[0] .aX (.exact 0) cp x g (aF eU rfl) (eD I) (fI (by omega)) ⟨I,rfl⟩ aG r4 (kS gF) aM (iR (x:=[]) (by simp;omega)) (la I (by omega))
abbrev Ja:List ad:=[.str [97,110,121],.str [105,110,116],.str [98,111,111,108],.str [115,116,114],.str [110,105,108]]
theorem uZ(k:Nat)(nm:bb)(ns:List bb)(xs:List aJ)(rt:Option aJ):wr (.mk k nm ns xs rt)=ir.shape k nm ns (xs.map aJ.k) (cM xs) (mq rt):=by rw[wr]
theorem Jb{ns ws:List bb}{i:Nat}(hi:i<(h7 ns ws).length)(I:i<ns.length)(ae:i<ws.length):(h7 ns ws)[i]=ns[i]++[58,32]++ws[i]:=List.getElem_zipWith (f:=λn w=>n++[58,32]++w) (h:=hi)
theorem Qb{fr:List Nat}{ws:List bb}{i:Nat}(hi:i<(iU fr ws).length)(I:i<fr.length)(ae:i<ws.length):(iU fr ws)[i]=if fr[i]=8 then[40]++ws[i]++[41] else ws[i]:=List.getElem_zipWith (f:=λ(k:Nat) (w:bb)=>if k=8 then[40]++w++[41] else w) (h:=hi)
theorem EZ:∀(K:Nat) (t:aJ),sz t<=K->sz t<=90000->okW t=true->(wr t).length<=1000000->∀(m B:Nat) (h:ab) (v:ad),sz t+1<=m->B<=h.n->dP B h t v->∃aw,Y m (.fn 79) [v] h=.ret (.str (wr t)) aw/\Ext B h aw
 |0,t,dg,_,_,_,_,_,_,_,_,_,_=>by
  have:=p0 t
  omega
 |K+1,.mk k nm ns xs rt,dg,hz,di,gr,m,B,h,v,hm,dd,aI=>by
  obtain⟨R,bA,aU,cY,vs,bq,lo,up,rfl,ae,ax,aN,bS,cz,dw⟩:=aI
  rw[l3] at dg hz hm
  rw[uZ] at gr
  rw[okW] at di
  simp only[Bool.and_eq_true,Bool.or_eq_true,decide_eq_true_eq] at di
  obtain⟨⟨⟨⟨⟨bG,kk⟩,qT⟩,th⟩,E0⟩,Jc⟩:=di
  obtain⟨m,rfl⟩:∃j,m=j+1:=⟨m-1,by omega⟩
  have fH:=dZ.len cz
  have ks:=mo xs
  have mL:=yT xs
  let ak:=(h.push (aQ [.str [],.str [],.str [],.str [],.str []] 141)).set h.n (some (aQ Ja 141))
  have st:bg.storeCells (h.push (aQ [.str [],.str [],.str [],.str [],.str []] 141)) h.n 0 Ja=some ak:=eV (by rw[ab.hr];exact if_pos rfl) rfl rfl
  have wZ:Ext B h ak:=((Ext.push dd _).hQ dd)
  have u0:B<=ak.n:=Nat.le_trans dd wZ.n
  have wO:ak.get h.n=some (aQ Ja 141):=by
   show(ab.set _ _ _).get _=_
   rw[ab.dx,if_pos rfl]
  have gv:=hk.ext wZ (Nat.le_refl _)
  have ar:=(wZ.get R ae).trans ax
  have bj:=aN.bB gv
  have bC:=bS.bB gv
  have bP:=dZ.bB gv _ _ cz
  have cd:=d_.bB gv _ _ dw
  generalize ajL:ak=g at*
  have fin:∀s y,a5 an Tryz.f79 none (Y m) [1,1,1] ⟨[(0,.ptr R 0),(3,.ptr h.n 0),(4,.str [])],[],.none,g⟩ .ret ⟨[(2,.str s)],[],.none,y⟩->s=wr (.mk k nm ns xs rt)->Ext B g y->∃aw,Y (m+1) (.fn 79) [.ptr R 0] h=.ret (.str (wr (.mk k nm ns xs rt))) aw/\Ext B h aw:=λs y ao al aa=>by
   rw[<-al]
   exact⟨y,gR (intr:=ea) (n:=m) (args:=[.ptr R 0]) Tryz.func79 (dG [] (aat (Y m) R h) (dG [1] (aau (Y m) R h g st) (dG [1,1] (aav (Y m) R h.n g) ao))) (.inl rfl) (by kernel_rfl),wZ.trans (Nat.le_refl _) aa⟩
  have BN:=aaw (Y m) R h.n k g (aF ar rfl)
  have E1:∀s y,a5 an Tryz.f79 none (Y m) [1,1,1,0,1] ⟨[(0,.ptr R 0),(3,.ptr h.n 0),(4,.str []),(12,J k)],[],.none,g⟩ .ret ⟨[(2,.str s)],[],.none,y⟩->s=wr (.mk k nm ns xs rt)->Ext B g y->∃aw,Y (m+1) (.fn 79) [.ptr R 0] h=.ret (.str (wr (.mk k nm ns xs rt))) aw/\Ext B h aw:=λs y ao al aa=>
   fin s y (jR [1,1,1] (dG [1,1,1,0] BN ao) (by simp)) al aa
  have Jd:(∀i (hi:i<(cM xs).length),(cM xs)[i].length<=1000000)->BL m B g vs (cM xs):=λag i i1 i2 x aa=>by
   have i3:i<xs.length:=by omega
   have je:=p1 (List.getElem_mem i3)
   have kK:=ag i i2
   rw[yU xs i i3 i2] at kK⊢
   exact EZ K xs[i] (by omega) (by omega) (Px E0 (List.getElem_mem i3)) kK m B x vs[i] (by omega) (Nat.le_trans u0 aa.n) (dP.bB (hk.ext aa (Nat.le_refl _)) _ _ (dZ.get bP i i1 i3))
  by_cases hd:k=6
  · subst hd
    exact E1 nm g (aax (Y m) R h.n nm g (aF ar rfl)) (by rw[uZ];rfl) (Ext.refl _ _)
  by_cases hA:k=7
  · subst hA
    have mm:xs.length=ns.length:=by rcases qT with qT|qT;exact absurd rfl qT;exact qT
    have lh:(h7 ns (cM xs)).length=vs.length:=by unfold h7;rw[List.length_zipWith];omega
    have E2:(eR [44,32] (h7 ns (cM xs))).length<=999998:=by
     have:([123]++eR [44,32] (h7 ns (cM xs))++[125]:bb).length<=1000000:=gr
     simp at this;omega
    have kP:=Jd λi hi=>by
     have t2:=w3 [44,32] (h7 ns (cM xs)) (i:=i) (by omega)
     rw[Jb (by omega) (by omega) hi] at t2
     simp at t2;omega
    obtain⟨y,bt,bw⟩:=EY (fn:=Tryz.f79) (call:=Y m) (p:=[1,1,1,0,1,0,1,1,1,0,0,1,0]) (e:=.exit 1) (reg:=5) (R:=R) (B:=B) (N:=vs.length) (h:=g) (sep:=[44,32]) (items:=h7 ns (cM xs)) lh (by simp)
     (λi hi x aa=>aaQ ae ar bj bC (by omega) (by omega) (by omega) (by omega) (λi i1=>(dZ.get bP i i1 (by omega)).snd) kP hi aa)
     (λx s aa=>aaD (Y m) R vs.length vs.length s aU x (aF ((aa.get R ae).trans ar) rfl) bC.oo (fI (by omega))) vs.length 0 g (by omega) (by omega) (Ext.refl _ _)
    have dL:=fX.run (p:=[1,1,1,0,1,0,1,1,1,0,0,1,0]) (by kernel_rfl) bt (by omega)
    exact E1 _ y (aay (Y m) R h.n _ _ _ g y (dA.pre dL ⟨rfl,rfl,rfl,trivial⟩ rfl rfl rfl) (iR (by simp;omega)) (iR (by simp;omega))) (by rw[uZ];rfl) bw
  by_cases ic:k=8
  · subst ic
    have E2:(eR [44,32] (cM xs)).length+(mq rt).length<=999992:=by
     have:([102,110,40]++eR [44,32] (cM xs)++[41,32,45,62,32]++mq rt:bb).length<=1000000:=gr
     simp at this;omega
    have kP:=Jd λi hi=>by
     have t2:=w3 [44,32] (cM xs) (i:=i) hi
     omega
    obtain⟨y,bt,bw⟩:=EY (fn:=Tryz.f79) (call:=Y m) (p:=[1,1,1,0,1,0,1,1,1,1,1,0,0,1,0]) (e:=.exit 3) (reg:=6) (R:=R) (B:=B) (N:=vs.length) (h:=g) (sep:=[44,32]) (items:=cM xs) (by omega) (by simp)
     (λi hi x aa=>aaP ae ar bC (by omega) (by omega) (by omega) kP hi aa)
     (λx s aa=>aaE (Y m) R vs.length vs.length s aU x (aF ((aa.get R ae).trans ar) rfl) bC.oo (fI (by omega))) vs.length 0 g (by omega) (by omega) (Ext.refl _ _)
    have dL:=fX.run (p:=[1,1,1,0,1,0,1,1,1,1,1,0,0,1,0]) (by kernel_rfl) bt (by omega)
    cases rt with
    |none=>rcases th with th|th<;>simp at th
    |some u=>
     rw[jk] at dg hz hm
     have E3:mq (some u)=wr u:=by rw[mq]
     obtain⟨z,aM,bf⟩:=EZ K u (by omega) (by omega) (by rw[BD] at Jc;exact Jc) (by rw[<-E3];omega) m B y cY (by omega) (Nat.le_trans u0 bw.n) (dP.bB (hk.ext bw (Nat.le_refl _)) _ _ cd)
     rw[<-E3] at aM
     exact E1 _ z (aaz (Y m) R h.n _ _ _ _ _ cY g y z (dA.pre dL ⟨rfl,rfl,rfl,trivial⟩ rfl rfl rfl) (iR (by simp;omega)) (iR (by simp;omega)) (aF ((bw.get R ae).trans ar) rfl) aM (iR (by simp;omega))) (by rw[uZ];rfl) (bw.trans (Nat.le_refl _) bf)
  by_cases hN:k=9
  · subst hN
    have lh:(iU (xs.map aJ.k) (cM xs)).length=vs.length:=by unfold iU;rw[List.length_zipWith,List.length_map];omega
    have E2:(eR [32,124,32] (iU (xs.map aJ.k) (cM xs))).length<=1000000:=gr
    have kP:=Jd λi hi=>by
     have t2:=w3 [32,124,32] (iU (xs.map aJ.k) (cM xs)) (i:=i) (by omega)
     rw[Qb (by omega) (by rw[List.length_map];omega) hi] at t2
     split at t2
     · simp at t2;omega
     · omega
    have rL:∀i (I:i<vs.length) (ae:i<(xs.map aJ.k).length),∃M,vs[i]=.ptr M 0/\∀x,Ext B g x->aq x M (0+0)=some (J (xs.map aJ.k)[i]):=λi i1 i2=>by
     have i3:i<xs.length:=by omega
     have bm:=dZ.get bP i i1 i3
     have BO:(xs.map aJ.k)[i]=(xs[i]).k:=List.getElem_map aJ.k
     rw[BO]
     cases aa:xs[i] with
     |mk cu cU dm e0 ey=>
      rw[aa] at bm
      obtain⟨M,_,_,_,_,_,_,_,aG,aE,bH,_⟩:=bm
      exact⟨M,aG,λx lG=>aF ((lG.get M aE).trans bH) rfl⟩
    obtain⟨y,bt,bw⟩:=EY (fn:=Tryz.f79) (call:=Y m) (p:=[1,1,1,0,1,0,1,1,1,1,1,1,1,0,0,1,0]) (e:=.exit 5) (reg:=7) (R:=R) (B:=B) (N:=vs.length) (h:=g) (sep:=[32,124,32]) (items:=iU (xs.map aJ.k) (cM xs)) lh (by simp)
     (λi hi x aa=>aaR ae ar bC (by rw[List.length_map];omega) (by omega) (by omega) E2 rL kP hi aa)
     (λx s aa=>aaF (Y m) R vs.length vs.length s aU x (aF ((aa.get R ae).trans ar) rfl) bC.oo (fI (by omega))) vs.length 0 g (by omega) (by omega) (Ext.refl _ _)
    have dL:=fX.run (p:=[1,1,1,0,1,0,1,1,1,1,1,1,1,0,0,1,0]) (by kernel_rfl) bt (by omega)
    exact E1 _ y (aaA (Y m) R h.n _ g y (dA.pre dL ⟨rfl,rfl,rfl,trivial⟩ rfl rfl rfl)) (by rw[uZ];rfl) bw
  · have aaS:=aaB (Y m) R h.n k g (kS hd) (kS hA) (kS ic) (kS hN)
    have hw:wr (.mk k nm ns xs rt)=word k:=by
     rw[uZ];unfold ir.shape
     rw[if_neg hd,if_neg hA,if_neg ic,if_neg hN]
    have ajM:k<=5:=by omega
    have aaT:aq g h.n (0+(k-1)*1)=some (.str (word k)):=by
     refine aF wO ?_
     have:k=1\/k=2\/k=3\/k=4\/k=5:=by omega
     rcases this with rfl|rfl|rfl|rfl|rfl<;>rfl
    exact fin (word k) g (dG [1,1,1] (dG [1,1,1,0] BN aaS) (aaC (Y m) R h.n k (k-1) (0+(k-1)*1) (word k) g (aF ar rfl) (yw bG (by omega)) ⟨(by show k-1+1<=5;omega),rfl⟩ aaT)) hw.symm (Ext.refl _ _)
end Go.Proofs.kh
