/-
  PROVED HERE: contracts of functions (Dh). No condition beside each statement's own.
-/
import Derived.Test.YtfooahfebojldaaGreatDoorSxa
import Derived.Test.YtfooahfebojldaaGreatDoorDg
import Derived.Test.YtfooahfebojldaaGreatDoorProg
set_option linter.unusedVariables false
set_option linter.unusedSimpArgs false
namespace Go.Proofs.eN
open Go aC
def iM:Nat->Nat->List UInt8->List UInt8
 |_,0,acc=>acc
 |n,k+1,acc=>iM (n/256) k (UInt8.ofNat (n %256)::acc)
theorem jK:∀(k n:Nat) (acc:List UInt8),(iM n k acc).length=k+acc.length
 |0,n,acc=>by simp[iM]
 |k+1,n,acc=>by rw[iM,jK k];simp;omega
def ko(n:Nat):Nat->Nat->Nat
 |0,m=>m
 |k+1,m=>if n<256^m then m else ko n k (m+1)
theorem zj(n:Nat):∀(k m:Nat),m<=ko n k m/\ko n k m<=m+k
 |0,m=>by simp[ko]
 |k+1,m=>by
  have:=zj n k (m+1)
  simp only[ko];split<;>omega
theorem Cd(n:Nat):∀(k m:Nat),n<256^(m+k)->n<256^(ko n k m)
 |0,m,h=>by simpa[ko] using h
 |k+1,m,h=>by
  simp only[ko]
  split
  · assumption
  · exact Cd n k (m+1) (by have e:m+1+k=m+(k+1):=by omega
                           rw[e];exact h)
def iB(n:Nat):Nat:=ko n 5 3
def e5(n:Nat):List UInt8:=
 if n<=240 then iM n 1 [] else if n<=2287 then iM (241+(n-240)/256) 1 []++iM ((n-240) %256) 1 []
 else if n<=67823 then iM 249 1 []++iM (n-2288) 2 [] else iM (247+iB n) 1 []++iM n (iB n) []
def hL(n:Nat):Nat×Nat×Nat×Nat:=
 if n<=240 then(0,240,0,0) else if n<=2287 then(240,2287,241,1) else if n<=67823 then(2288,67823,249,2)
 else(0,256^iB n-1,247+iB n,iB n)
def qu(n:Nat):List UInt8:=UInt8.ofNat (((hL n).2.2.1+(n-(hL n).1)/256^(hL n).2.2.2) %256)::iM (n-(hL n).1) (hL n).2.2.2 []
theorem XU(n:Nat)(h:n<18446744073709551616):qu n=e5 n:=by
 unfold qu e5 hL
 by_cases ab:n<=240
 · simp only[if_pos ab,iM,Nat.sub_zero,Nat.pow_zero,Nat.div_one,Nat.zero_add]
 · by_cases ae:n<=2287
   · simp only[if_neg ab,if_pos ae,iM,Nat.pow_one,List.singleton_append,List.cons_append,List.nil_append]
     rw[Nat.mod_mod]
   · by_cases aB:n<=67823
     · have e:(n-2288)/256^2=0:=Nat.div_eq_of_lt (by omega)
       simp only[if_neg ab,if_neg ae,if_pos aB,e,Nat.add_zero]
       rfl
     · have hs:n<256^iB n:=Cd n 5 3 (by simpa using h)
       have e:n/256^iB n=0:=Nat.div_eq_of_lt hs
       simp only[if_neg ab,if_neg ae,if_neg aB,Nat.sub_zero,e,Nat.add_zero]
       rfl
theorem XV(n:Nat)(h:n<18446744073709551616):(hL n).1<=n/\(hL n).2.2.2<=8/\n<=(hL n).2.1:=by
 unfold hL
 by_cases ab:n<=240
 · simp[ab]
 · by_cases ae:n<=2287
   · simp only[if_neg ab,if_pos ae];omega
   · by_cases aB:n<=67823
     · simp only[if_neg ab,if_neg ae,if_pos aB];omega
     · have hs:n<256^iB n:=Cd n 5 3 (by simpa using h)
       have:=zj n 5 3
       simp only[if_neg ab,if_neg ae,if_neg aB]
       unfold iB at hs⊢
       omega
end Go.Proofs.eN
namespace Go.Proofs.eN
open Go aC
def dV(b:Nat):Nat:=if b<=240 then 0 else if b<=248 then 1 else if b=249 then 2 else b-247
def gS:Nat->List UInt8->Nat
 |a,[]=>a
 |a,c::t=>gS (a*256+c.toNat) t
def hM(b:Nat)(t:List UInt8):Nat:=if b<=240 then b else if b<=248 then 240+256*(b-241)+gS 0 t else if b=249 then 2288+gS 0 t else gS 0 t
def rdNum:List UInt8->Option (Nat×List UInt8)
 |[]=>none
 |b::t=>if t.length<dV b.toNat then none else if e5 (hM b.toNat (t.take (dV b.toNat)))=b::t.take (dV b.toNat) then some (hM b.toNat (t.take (dV b.toNat)),t.drop (dV b.toNat)) else none
theorem Ce:∀(k n a:Nat) (acc:List UInt8),gS a (iM n k acc)=gS (a*256^k+n %256^k) acc
 |0,n,a,acc=>by simp[iM,Nat.mod_one]
 |k+1,n,a,acc=>by
  rw[iM,Ce k (n/256) a,gS]
  have e:(UInt8.ofNat (n %256)).toNat=n %256:=by simp
  have aG:n %256^(k+1)=n %256+256*(n/256 %256^k):=by rw[Nat.pow_succ,Nat.mul_comm (256^k) 256,Nat.mod_mul]
  have bJ:a*256^(k+1)=a*256^k*256:=by rw[Nat.pow_succ,Nat.mul_assoc]
  rw[e,aG,bJ]
  generalize a*256^k=x
  generalize n/256 %256^k=y
  have dh:(x+y)*256+n %256=x*256+(n %256+256*y):=by omega
  rw[dh]
theorem Mm:∀(t:List UInt8) (a:Nat),gS a t<(a+1)*256^t.length
 |[],a=>by simp[gS]
 |c::t,a=>by
  have h:=Mm t (a*256+c.toNat)
  have ai:=c.toNat_lt
  have ae:(a*256+c.toNat+1)*256^t.length<=((a+1)*256)*256^t.length:=Nat.mul_le_mul_right _ (by omega)
  rw[gS,List.length_cons,Nat.pow_succ,Nat.mul_comm (256^t.length) 256,<-Nat.mul_assoc]
  omega
theorem Mn(b:Nat)(h:b<256):dV b<=8:=by unfold dV;split<;>(try split)<;>(try split)<;>omega
theorem XW(t:List UInt8):gS 0 t<256^t.length:=by have:=Mm t 0;simpa using this
theorem zk(b:Nat)(t:List UInt8)(h:b<256)(bh:t.length=dV b):hM b t<18446744073709551616:=by
 have aD:=XW t
 rw[bh] at aD
 unfold hM
 unfold dV at aD
 by_cases ab:b<=240
 · rw[if_pos ab];omega
 · by_cases ae:b<=248
   · rw[if_neg ab,if_pos ae] at*;omega
   · by_cases aB:b=249
     · rw[if_neg ab,if_neg ae,if_pos aB] at*;omega
     · rw[if_neg ab,if_neg ae,if_neg aB] at*
       have:256^(b-247)<=256^8:=Nat.pow_le_pow_right (by omega) (by omega)
       omega
theorem XX(n:Nat)(h:n<18446744073709551616):∃b t,e5 n=b::t/\t.length=dV b.toNat/\hM b.toNat t=n:=by
 have sP:∀k:Nat,(UInt8.ofNat (k %256)).toNat=k %256:=λk=>by simp
 unfold e5
 by_cases ab:n<=240
 · rw[if_pos ab]
   refine⟨UInt8.ofNat (n %256),[],rfl,?_,?_⟩
   · rw[sP,Nat.mod_eq_of_lt (by omega)];simp[dV,ab]
   · rw[sP,Nat.mod_eq_of_lt (by omega)];simp[hM,ab]
 · by_cases ae:n<=2287
   · rw[if_neg ab,if_pos ae]
     have ag:(241+(n-240)/256) %256=241+(n-240)/256:=Nat.mod_eq_of_lt (by omega)
     refine⟨UInt8.ofNat ((241+(n-240)/256) %256),iM ((n-240) %256) 1 [],rfl,?_,?_⟩
     · rw[sP,ag,jK]
       unfold dV;rw[if_neg (by omega),if_pos (by omega)];rfl
     · rw[sP,ag]
       unfold hM;rw[if_neg (by omega),if_pos (by omega),Ce,gS,Nat.pow_one];omega
   · by_cases aB:n<=67823
     · rw[if_neg ab,if_neg ae,if_pos aB]
       refine⟨UInt8.ofNat (249 %256),iM (n-2288) 2 [],rfl,?_,?_⟩
       · rw[sP,jK];rfl
       · rw[sP]
         show 2288+gS 0 (iM (n-2288) 2 [])=n
         rw[Ce,gS,Nat.mod_eq_of_lt (by omega)];omega
     · rw[if_neg ab,if_neg ae,if_neg aB]
       have hs:n<256^iB n:=Cd n 5 3 (by simpa using h)
       have bj:=zj n 5 3
       have acH:3<=iB n/\iB n<=8:=bj
       refine⟨UInt8.ofNat ((247+iB n) %256),iM n (iB n) [],rfl,?_,?_⟩
       · rw[sP,Nat.mod_eq_of_lt (by omega),jK]
         unfold dV;rw[if_neg (by omega),if_neg (by omega),if_neg (by omega)];simp
       · rw[sP,Nat.mod_eq_of_lt (by omega)]
         unfold hM;rw[if_neg (by omega),if_neg (by omega),if_neg (by omega),Ce,gS,Nat.mod_eq_of_lt hs];omega
theorem XY{s r:List UInt8}{n:Nat}(h:rdNum s=some (n,r)):s=e5 n++r/\n<18446744073709551616:=by
 match s with
 |[]=>cases h
 |b::t=>
  simp only[rdNum] at h
  split at h
  · cases h
  · rename_i aD
    split at h
    · rename_i he
      have ag:=b.toNat_lt
      have aJ:=zk b.toNat (t.take (dV b.toNat)) (by omega) (by rw[List.length_take];omega)
      obtain⟨rfl,rfl⟩:hM b.toNat (t.take (dV b.toNat))=n/\t.drop (dV b.toNat)=r:=by simpa using h
      exact⟨by rw[he,List.cons_append,List.take_append_drop],aJ⟩
    · cases h
theorem XZ(n:Nat)(h:n<18446744073709551616):0<(e5 n).length:=by
 obtain⟨b,t,ab,_,_⟩:=XX n h
 rw[ab];simp
abbrev cf:=Option (List UInt8)
def aI:cf->Nat×cf
 |none=>(0,none)
 |some s=>match rdNum s with
  |none=>(0,none)
  |some (n,r)=>(n,some r)
def fm(n:Nat):cf->List UInt8×cf
 |none=>([],none)
 |some s=>if n<=s.length then(s.take n,some (s.drop n)) else([],none)
def ch(st:cf):List UInt8×cf:=fm (aI st).1 (aI st).2
def left:cf->List UInt8
 |none=>[]
 |some s=>s
theorem zl{s:List UInt8}(h:rdNum s=none):aI (some s)=(0,none):=by simp only[aI,h]
theorem Gb{s r:List UInt8}{n:Nat}(h:rdNum s=some (n,r)):aI (some s)=(n,some r):=by simp only[aI,h]
theorem Cf(s:List UInt8):aI (some s)=(0,none)\/∃n r,aI (some s)=(n,some r)/\s=e5 n++r/\n<18446744073709551616:=by
 cases h:rdNum s with
 |none=>exact .inl (zl h)
 |some x=>obtain⟨n,r⟩:=x;exact .inr ⟨n,r,Gb h,XY h⟩
theorem Gc(st:cf):(left (aI st).2).length<=(left st).length:=by
 cases st with
 |none=>exact Nat.le_refl _
 |some s=>
  rcases Cf s with e|⟨n,r,e,ab,_⟩
  · rw[e];exact Nat.zero_le _
  · rw[e];show r.length<=s.length;rw[ab,List.length_append];omega
theorem zm(st:cf):(aI st).1<18446744073709551616:=by
 cases st with
 |none=>show 0<_;omega
 |some s=>
  rcases Cf s with e|⟨n,r,e,_,ae⟩
  · rw[e];show 0<_;omega
  · rw[e];exact ae
theorem X0(s:List UInt8):(left (aI (some s)).2).length<s.length\/(aI (some s)).2=none:=by
 rcases Cf s with e|⟨n,r,e,ab,ae⟩
 · rw[e];exact .inr rfl
 · rw[e]
   have:=XZ n ae
   refine .inl ?_
   show r.length<s.length
   rw[ab,List.length_append];omega
theorem uR{n:Nat}{s:List UInt8}(h:n<=s.length):fm n (some s)=(s.take n,some (s.drop n)):=by simp only[fm,if_pos h]
theorem Cg{n:Nat}{s:List UInt8}(h:¬n<=s.length):fm n (some s)=([],none):=by simp only[fm,if_neg h]
theorem X1(n:Nat)(st:cf):(left (fm n st).2).length<=(left st).length/\(fm n st).1.length<=(left st).length:=by
 cases st with
 |none=>exact⟨Nat.le_refl _,Nat.le_refl _⟩
 |some s=>
  by_cases h:n<=s.length
  · rw[uR h]
    exact⟨by show(s.drop n).length<=s.length;rw[List.length_drop];omega,by show(s.take n).length<=s.length;rw[List.length_take];omega⟩
  · rw[Cg h];exact⟨Nat.zero_le _,Nat.zero_le _⟩
theorem Gd(st:cf):(left (ch st).2).length<=(left st).length/\(ch st).1.length<=(left st).length:=by
 have ab:=Gc st
 have ae:=X1 (aI st).1 (aI st).2
 exact⟨by unfold ch;omega,by unfold ch;omega⟩
end Go.Proofs.eN
namespace Go.Proofs.df
open Go aC Go.Proofs Go.Proofs.eN
set_option maxRecDepth 100000
theorem hi(call:aE->List J->aa->ao)(n z:Nat)(s:List UInt8)(h ae:aa)
  (H1:aw Tryz.prog Tryz.f67 none call [1,1,0,1,0] (af.mk [(6,.int .i64 (.ofNat 0)),(5,.str []),(4,.str []),(0,.int .u64 (.ofNat n)),(1,.int .i64 (.ofNat z))] [] .none h) (.exit 0) (af.mk [(5,.str s)] [] .none ae)):
  aw Tryz.prog Tryz.f67 none call [] (af.mk [(0,.int .u64 (.ofNat n)),(1,.int .i64 (.ofNat z))] [] .none h) (.ret)
   (af.mk [(4,.str s)] [] .none ae):=
 aX [4] (hs:=[Hint.loop (bA.exit 0) (af.mk [(5,J.str s)] [] bH.none ae)]) (by kernel_rfl)<| .cons H1<| .nil
theorem X2(call:aE->List J->aa->ao)(n z i c m:Nat)(s t t2:List UInt8)(h:aa)(aZ bP:Nat)
  (H1:br (.ofNat i) (.ofNat z)=true)
  (ay:arith .rem .u64 (.ofNat n) (.ofNat 256)=some (.int .u64 (.ofNat m)))
  (aN:ec Tryz.prog 65 5 (J.int IntKind.u64 (Int.ofNat m)) h=fc.val (J.int IntKind.u8 (Int.ofNat c)) h)
  (aO:ec Tryz.prog 98 9 (J.slice (aa.n h) 0 1 (cE.exact 1)) (aa.push h (cJ.cells [J.int IntKind.u8 (Int.ofNat c)] 5 eE.own 0 0))=fc.val (J.str t) (aa.push h (cJ.cells [J.int IntKind.u8 (Int.ofNat c)] 5 eE.own 0 0)))
  (bm:fA .add t s=some (.str t2))
  (bT:arith .quo .u64 (.ofNat n) (.ofNat 256)=some (.int .u64 (.ofNat aZ)))
  (cA:arith .add .i64 (.ofNat i) (.ofNat 1)=some (.int .i64 (.ofNat bP))):
  aw Tryz.prog Tryz.f67 none call [1,1,0,1,0,0] (af.mk [(0,.int .u64 (.ofNat n)),(1,.int .i64 (.ofNat z)),(5,.str s),(6,.int .i64 (.ofNat i))] [] .none h) (.nrm)
   (af.mk [(0,.int .u64 (.ofNat aZ)),(1,.int .i64 (.ofNat z)),(5,.str t2),(6,.int .i64 (.ofNat bP))] [] .none (aa.push h (.cells [.int .u8 (.ofNat c)] 5 .own 0 0))):=
 aX [0,1,5,6] (hs:=[.b true,.v (.int .u64 (.ofNat m)),.v (.int .u8 (.ofNat c)),.v (.str t),.v (.str t2),.v (.int .u64 (.ofNat aZ)),.v (.int .i64 (.ofNat bP))]) (by kernel_rfl)<| .cons H1<| .cons ay<| .cons aN<| .cons aO<| .cons bm<| .cons bT<| .cons cA<| .nil
theorem X3(call:aE->List J->aa->ao)(n z i c m:Nat)(s t t2:List UInt8)(h:aa)
  (H1:br (.ofNat i) (.ofNat z)=false):
  aw Tryz.prog Tryz.f67 none call [1,1,0,1,0,0] (af.mk [(0,.int .u64 (.ofNat n)),(1,.int .i64 (.ofNat z)),(5,.str s),(6,.int .i64 (.ofNat i))] [] .none h) (.exit 0)
   (af.mk [(0,.int .u64 (.ofNat n)),(1,.int .i64 (.ofNat z)),(5,.str s),(6,.int .i64 (.ofNat i))] [] .none h):=
 aX [0,1,5,6] (hs:=[.b false]) (by kernel_rfl)<| .cons H1<| .nil
theorem X4(call:aE->List J->aa->ao)(n m:Nat)(s:List UInt8)(h:aa)(bC:List UInt8)(aK:aa)(de:List UInt8)
  (H1:dq (.ofNat n) (.ofNat 240)=true)
  (ay:call (.fn 67) [.int .u64 (.ofNat n),.int .i64 (.ofNat 1)] h=ao.ret (.str bC) aK)
  (aN:fA .add s bC=some (.str de)):
  aw Tryz.prog Tryz.f44 none call [] (af.mk [(0,.str s),(1,.int .u64 (.ofNat n))] [] .none h) (.ret)
   (af.mk [(4,.str de)] [] .none aK):=
 aX [4] (hs:=[.b true,.c (.str bC) aK,.v (.str de)]) (by kernel_rfl)<| .cons H1<| .cons ay<| .cons aN<| .nil
theorem X5(call:aE->List J->aa->ao)(n m:Nat)(s:List UInt8)(h:aa)(aZ bP cY:Nat)(bC:List UInt8)(aK:aa)(de:List UInt8)(dZ:Nat)(gH:List UInt8)(cd:aa)(pn:List UInt8)
  (H1:dq (.ofNat n) (.ofNat 240)=false)
  (ay:dq (.ofNat n) (.ofNat 2287)=true)
  (aN:arith .sub .u64 (.ofNat n) (.ofNat 240)=some (.int .u64 (.ofNat aZ)))
  (aO:arith .quo .u64 (.ofNat aZ) (.ofNat 256)=some (.int .u64 (.ofNat bP)))
  (bm:arith .add .u64 (.ofNat 241) (.ofNat bP)=some (.int .u64 (.ofNat cY)))
  (bT:call (.fn 67) [.int .u64 (.ofNat cY),.int .i64 (.ofNat 1)] h=ao.ret (.str bC) aK)
  (cA:fA .add s bC=some (.str de))
  (ei:arith .rem .u64 (.ofNat aZ) (.ofNat 256)=some (.int .u64 (.ofNat dZ)))
  (gF:call (.fn 67) [.int .u64 (.ofNat dZ),.int .i64 (.ofNat 1)] aK=ao.ret (.str gH) cd)
  (iI:fA .add de gH=some (.str pn)):
  aw Tryz.prog Tryz.f44 none call [] (af.mk [(0,.str s),(1,.int .u64 (.ofNat n))] [] .none h) (.ret)
   (af.mk [(4,.str pn)] [] .none cd):=
 aX [4] (hs:=[.b false,.b true,.v (.int .u64 (.ofNat aZ)),.v (.int .u64 (.ofNat bP)),.v (.int .u64 (.ofNat cY)),.c (.str bC) aK,.v (.str de),.v (.int .u64 (.ofNat aZ)),.v (.int .u64 (.ofNat dZ)),.c (.str gH) cd,.v (.str pn)]) (by kernel_rfl)<| .cons H1<| .cons ay<| .cons aN<| .cons aO<| .cons bm<| .cons bT<| .cons cA<| .cons aN<| .cons ei<| .cons gF<| .cons iI<| .nil
theorem X6(call:aE->List J->aa->ao)(n m:Nat)(s:List UInt8)(h:aa)(bC:List UInt8)(aK:aa)(de:List UInt8)(aZ:Nat)(gH:List UInt8)(cd:aa)(pn:List UInt8)
  (H1:dq (.ofNat n) (.ofNat 240)=false)
  (ay:dq (.ofNat n) (.ofNat 2287)=false)
  (aN:dq (.ofNat n) (.ofNat 67823)=true)
  (aO:call (.fn 67) [.int .u64 (.ofNat 249),.int .i64 (.ofNat 1)] h=ao.ret (.str bC) aK)
  (bm:fA .add s bC=some (.str de))
  (bT:arith .sub .u64 (.ofNat n) (.ofNat 2288)=some (.int .u64 (.ofNat aZ)))
  (cA:call (.fn 67) [.int .u64 (.ofNat aZ),.int .i64 (.ofNat 2)] aK=ao.ret (.str gH) cd)
  (ei:fA .add de gH=some (.str pn)):
  aw Tryz.prog Tryz.f44 none call [] (af.mk [(0,.str s),(1,.int .u64 (.ofNat n))] [] .none h) (.ret)
   (af.mk [(4,.str pn)] [] .none cd):=
 aX [4] (hs:=[.b false,.b false,.b true,.c (.str bC) aK,.v (.str de),.v (.int .u64 (.ofNat aZ)),.c (.str gH) cd,.v (.str pn)]) (by kernel_rfl)<| .cons H1<| .cons ay<| .cons aN<| .cons aO<| .cons bm<| .cons bT<| .cons cA<| .cons ei<| .nil
theorem X7(call:aE->List J->aa->ao)(n m:Nat)(s:List UInt8)(h:aa)(aZ bP:Nat)(bC:List UInt8)(aK:aa)(de gH:List UInt8)(cd:aa)(pn:List UInt8)
  (H1:dq (.ofNat n) (.ofNat 240)=false)
  (ay:dq (.ofNat n) (.ofNat 2287)=false)
  (aN:dq (.ofNat n) (.ofNat 67823)=false)
  (aO:aw Tryz.prog Tryz.f44 none call [1,1,1,0,0] (af.mk [(5,.int .i64 (.ofNat 3)),(28,.bool (dq (.ofNat n) (.ofNat 67823))),(13,.bool (dq (.ofNat n) (.ofNat 2287))),(6,.bool (dq (.ofNat n) (.ofNat 240))),(4,.str []),(0,.str s),(1,.int .u64 (.ofNat n))] [] .none h) (.exit 1) (af.mk [(0,.str s),(1,.int .u64 (.ofNat n)),(5,.int .i64 (.ofNat m))] [] .none h))
  (bm:arith .add .i64 (.ofNat 247) (.ofNat m)=some (.int .i64 (.ofNat aZ)))
  (bT:ec Tryz.prog 3 65 (J.int IntKind.i64 (Int.ofNat aZ)) h=fc.val (J.int IntKind.u64 (Int.ofNat bP)) h)
  (cA:call (.fn 67) [.int .u64 (.ofNat bP),.int .i64 (.ofNat 1)] h=ao.ret (.str bC) aK)
  (ei:fA .add s bC=some (.str de))
  (gF:call (.fn 67) [.int .u64 (.ofNat n),.int .i64 (.ofNat m)] aK=ao.ret (.str gH) cd)
  (iI:fA .add de gH=some (.str pn)):
  aw Tryz.prog Tryz.f44 none call [] (af.mk [(0,.str s),(1,.int .u64 (.ofNat n))] [] .none h) (.ret)
   (af.mk [(4,.str pn)] [] .none cd):=
 aX [4] (hs:=[Hint.b false,Hint.b false,Hint.b false,Hint.loop (bA.exit 1) (af.mk [(0,J.str s),(1,J.int IntKind.u64 (Int.ofNat n)),(5,J.int IntKind.i64 (Int.ofNat m))] [] bH.none h),Hint.v (J.int IntKind.i64 (Int.ofNat aZ)),Hint.v (J.int IntKind.u64 (Int.ofNat bP)),Hint.c (J.str bC) aK,Hint.v (J.str de),Hint.c (J.str gH) cd,Hint.v (J.str pn)]) (by kernel_rfl)<| .cons H1<| .cons ay<| .cons aN<| .cons aO<| .cons bm<| .cons bT<| .cons cA<| .cons ei<| .cons gF<| .cons iI<| .nil
theorem X8(call:aE->List J->aa->ao)(n m:Nat)(s:List UInt8)(h:aa)(aZ bP cY:Nat)
  (H1:br (.ofNat m) (.ofNat 8)=true)
  (ay:arith .mul .i64 (.ofNat 8) (.ofNat m)=some (.int .i64 (.ofNat aZ)))
  (aN:l8 .shr .u64 (.ofNat n) (.ofNat aZ)=some (.int .u64 (.ofNat bP)))
  (aO:br (.ofNat 0) (.ofNat bP)=true)
  (bm:arith .add .i64 (.ofNat m) (.ofNat 1)=some (.int .i64 (.ofNat cY))):
  aw Tryz.prog Tryz.f44 none call [1,1,1,0,0,0] (af.mk [(0,.str s),(1,.int .u64 (.ofNat n)),(5,.int .i64 (.ofNat m))] [] .none h) (.nrm)
   (af.mk [(0,.str s),(1,.int .u64 (.ofNat n)),(5,.int .i64 (.ofNat cY))] [] .none h):=
 aX [0,1,5] (hs:=[.b true,.b true,.b true,.v (.int .i64 (.ofNat aZ)),.b true,.v (.int .u64 (.ofNat bP)),.b true,.b true,.b true,.v (.int .i64 (.ofNat cY))]) (by kernel_rfl)<| .cons H1<| .cons H1<| .cons H1<| .cons ay<| .cons H1<| .cons aN<| .cons H1<| .cons H1<| .cons aO<| .cons bm<| .nil
theorem X9(call:aE->List J->aa->ao)(n m:Nat)(s:List UInt8)(h:aa)(aZ bP:Nat)
  (H1:br (.ofNat m) (.ofNat 8)=true)
  (ay:arith .mul .i64 (.ofNat 8) (.ofNat m)=some (.int .i64 (.ofNat aZ)))
  (aN:l8 .shr .u64 (.ofNat n) (.ofNat aZ)=some (.int .u64 (.ofNat bP)))
  (aO:br (.ofNat 0) (.ofNat bP)=false):
  aw Tryz.prog Tryz.f44 none call [1,1,1,0,0,0] (af.mk [(0,.str s),(1,.int .u64 (.ofNat n)),(5,.int .i64 (.ofNat m))] [] .none h) (.exit 1)
   (af.mk [(0,.str s),(1,.int .u64 (.ofNat n)),(5,.int .i64 (.ofNat m))] [] .none h):=
 aX [0,1,5] (hs:=[.b true,.b true,.b true,.v (.int .i64 (.ofNat aZ)),.b true,.v (.int .u64 (.ofNat bP)),.b true,.b true,.b false]) (by kernel_rfl)<| .cons H1<| .cons H1<| .cons H1<| .cons ay<| .cons H1<| .cons aN<| .cons H1<| .cons H1<| .cons aO<| .nil
theorem X_(call:aE->List J->aa->ao)(n m:Nat)(s:List UInt8)(h:aa)
  (H1:br (.ofNat m) (.ofNat 8)=false):
  aw Tryz.prog Tryz.f44 none call [1,1,1,0,0,0] (af.mk [(0,.str s),(1,.int .u64 (.ofNat n)),(5,.int .i64 (.ofNat m))] [] .none h) (.exit 1)
   (af.mk [(0,.str s),(1,.int .u64 (.ofNat n)),(5,.int .i64 (.ofNat m))] [] .none h):=
 aX [0,1,5] (hs:=[.b false,.b false,.b false,.b false,.b false,.b false,.b false]) (by kernel_rfl)<| .cons H1<| .cons H1<| .cons H1<| .cons H1<| .cons H1<| .cons H1<| .cons (by kernel_rfl:false=false)<| .nil
theorem fa(call:aE->List J->aa->ao)(n bS to k9 z b m:Nat)(s:List UInt8)(h aq ak aQ a3 aK:aa)(aZ bP cY dZ fo h0 mr rj:Nat)(cd:aa)(bC de:List UInt8)
  (H1:call (.fn 73) [.int .u64 (.ofNat n)] h=ao.ret (.agg [.int .u64 (.ofNat bS),.int .u64 (.ofNat to),.int .u8 (.ofNat k9),.int .i64 (.ofNat z)]) aq)
  (ay:aC.storeCells (aa.push aq (.cells [.int .u64 (.ofNat 0),.int .u64 (.ofNat 0),.int .u8 (.ofNat 0),.int .i64 (.ofNat 0)] 120 .own 0 0)) (aa.n aq) 0 [.int .u64 (.ofNat bS),.int .u64 (.ofNat to),.int .u8 (.ofNat k9),.int .i64 (.ofNat z)]=some aK)
  (aN:av aK (aa.n aq) (0+0)=some (.int .u64 (.ofNat aZ)))
  (aO:arith .sub .u64 (.ofNat n) (.ofNat aZ)=some (.int .u64 (.ofNat bP)))
  (bm:av aK (aa.n aq) (0+3)=some (.int .i64 (.ofNat cY)))
  (bT:arith .add .i64 (.ofNat 1) (.ofNat cY)=some (.int .i64 (.ofNat dZ)))
  (cA:vQ Tryz.prog aK 98 (J.int IntKind.i64 (Int.ofNat dZ)) (J.int IntKind.i64 (Int.ofNat dZ))=some (J.slice b 0 (z+1) (cE.exact (z+1)),aQ))
  (ei:av aQ (aa.n aq) (0+3)=some (.int .i64 (.ofNat fo)))
  (gF:aw Tryz.prog Tryz.f52 none call [1,1,1,1,0,1,0] (af.mk [(7,.int .i64 (.ofNat fo)),(6,.slice b 0 (z+1) (.exact (z+1))),(1,.int .u64 (.ofNat bP)),(5,.ptr (aa.n aq) 0),(4,.str []),(0,.str s)] [] .none aQ) (.exit 0) (af.mk [(0,.str s),(1,.int .u64 (.ofNat m)),(5,.ptr (aa.n aq) 0),(6,.slice b 0 (z+1) (.exact (z+1)))] [] .none a3))
  (iI:av a3 (aa.n aq) (0+2)=some (.int .u8 (.ofNat h0)))
  (lD:ec Tryz.prog 65 5 (J.int IntKind.u64 (Int.ofNat m)) a3=fc.val (J.int IntKind.u8 (Int.ofNat mr)) a3)
  (mZ:arith .add .u8 (.ofNat h0) (.ofNat mr)=some (.int .u8 (.ofNat rj)))
  (qh:Nat.le 1 (z+1))
  (wF:aC.storeCells a3 b (0+0*1) [.int .u8 (.ofNat rj)]=some cd)
  (yY:ec Tryz.prog 98 9 (J.slice b 0 (z+1) (cE.exact (z+1))) cd=fc.val (J.str bC) cd)
  (yZ:fA .add s bC=some (.str de)):
  aw Tryz.prog Tryz.f52 none call [] (af.mk [(0,.str s),(1,.int .u64 (.ofNat n))] [] .none h) (.ret)
   (af.mk [(4,.str de)] [] .none cd):=
 aX [4] (hs:=[Hint.c (J.agg [J.int IntKind.u64 (Int.ofNat bS),J.int IntKind.u64 (Int.ofNat to),J.int IntKind.u8 (Int.ofNat k9),J.int IntKind.i64 (Int.ofNat z)]) aq,Hint.ft (J.aL []) aK,Hint.v (J.int IntKind.u64 (Int.ofNat aZ)),Hint.v (J.int IntKind.u64 (Int.ofNat bP)),Hint.v (J.int IntKind.i64 (Int.ofNat cY)),Hint.v (J.int IntKind.i64 (Int.ofNat dZ)),Hint.ft (J.slice b 0 (z+1) (cE.exact (z+1))) aQ,Hint.v (J.int IntKind.i64 (Int.ofNat fo)),Hint.loop (bA.exit 0) (af.mk [(0,J.str s),(1,J.int IntKind.u64 (Int.ofNat m)),(5,J.ptr (aa.n aq) 0),(6,J.slice b 0 (z+1) (cE.exact (z+1)))] [] bH.none a3),Hint.v (J.int IntKind.u8 (Int.ofNat h0)),Hint.v (J.int IntKind.u8 (Int.ofNat mr)),Hint.v (J.int IntKind.u8 (Int.ofNat rj)),Hint.v (J.ptr b (0+0*1)),Hint.ft (J.aL []) cd,Hint.v (J.str bC),Hint.v (J.str de)]) (by kernel_rfl)<| .cons H1<| .cons (⟨by kernel_rfl,ay,rfl⟩:some 4=some 4/\aC.storeCells (aa.push aq (cJ.cells [J.int IntKind.u64 (Int.ofNat 0),J.int IntKind.u64 (Int.ofNat 0),J.int IntKind.u8 (Int.ofNat 0),J.int IntKind.i64 (Int.ofNat 0)] 120 eE.own 0 0)) (aa.n aq) 0 [J.int IntKind.u64 (Int.ofNat bS),J.int IntKind.u64 (Int.ofNat to),J.int IntKind.u8 (Int.ofNat k9),J.int IntKind.i64 (Int.ofNat z)]=some aK/\J.aL []=J.aL [])<| .cons aN<| .cons aO<| .cons bm<| .cons bT<| .cons cA<| .cons ei<| .cons gF<| .cons iI<| .cons lD<| .cons mZ<| .cons (⟨qh,rfl⟩:Nat.le 1 (z+1)/\J.ptr b (0+0*1)=J.ptr b (0+0*1))<| .cons (⟨by kernel_rfl,wF,rfl⟩:some 1=some 1/\aC.storeCells a3 b (0+0*1) [J.int IntKind.u8 (Int.ofNat rj)]=some cd/\J.aL []=J.aL [])<| .cons yY<| .cons yZ<| .nil
theorem Ya(call:aE->List J->aa->ao)(n i z b:Nat)(s:List UInt8)(h:aa)(p:J)(aZ:Nat)(aK:aa)(bP cY:Nat)
  (H1:br (.ofNat 0) (.ofNat i)=true)
  (ay:ec Tryz.prog 65 5 (J.int IntKind.u64 (Int.ofNat n)) h=fc.val (J.int IntKind.u8 (Int.ofNat aZ)) h)
  (aN:Nat.le (Nat.succ i) (z+1))
  (aO:aC.storeCells h b (0+i*1) [.int .u8 (.ofNat aZ)]=some aK)
  (bm:l8 .shr .u64 (.ofNat n) (.ofNat 8)=some (.int .u64 (.ofNat bP)))
  (bT:arith .sub .i64 (.ofNat i) (.ofNat 1)=some (.int .i64 (.ofNat cY))):
  aw Tryz.prog Tryz.f52 none call [1,1,1,1,0,1,0,0] (af.mk [(0,.str s),(1,.int .u64 (.ofNat n)),(5,p),(6,.slice b 0 (z+1) (.exact (z+1))),(7,.int .i64 (.ofNat i))] [] .none h) (.nrm)
   (af.mk [(0,.str s),(1,.int .u64 (.ofNat bP)),(5,p),(6,.slice b 0 (z+1) (.exact (z+1))),(7,.int .i64 (.ofNat cY))] [] .none aK):=
 aX [0,1,5,6,7] (hs:=[.b true,.v (.int .u8 (.ofNat aZ)),.v (.ptr b (0+i*1)),.ft (.aL []) aK,.v (.int .u64 (.ofNat bP)),.v (.int .i64 (.ofNat cY))]) (by kernel_rfl)<| .cons H1<| .cons ay<| .cons (⟨aN,rfl⟩:Nat.le (Nat.succ i) (z+1)/\J.ptr b (0+i*1)=J.ptr b (0+i*1))<| .cons (⟨by kernel_rfl,aO,rfl⟩:some 1=some 1/\aC.storeCells h b (0+i*1) [J.int IntKind.u8 (Int.ofNat aZ)]=some aK/\J.aL []=J.aL [])<| .cons bm<| .cons bT<| .nil
theorem Yb(call:aE->List J->aa->ao)(n i z b:Nat)(s:List UInt8)(h:aa)(p:J)
  (H1:br (.ofNat 0) (.ofNat i)=false):
  aw Tryz.prog Tryz.f52 none call [1,1,1,1,0,1,0,0] (af.mk [(0,.str s),(1,.int .u64 (.ofNat n)),(5,p),(6,.slice b 0 (z+1) (.exact (z+1))),(7,.int .i64 (.ofNat i))] [] .none h) (.exit 0)
   (af.mk [(0,.str s),(1,.int .u64 (.ofNat n)),(5,p),(6,.slice b 0 (z+1) (.exact (z+1))),(7,.int .i64 (.ofNat i))] [] .none h):=
 aX [0,1,5,6,7] (hs:=[.b false]) (by kernel_rfl)<| .cons H1<| .nil
theorem q7(call:aE->List J->aa->ao)(s t:List UInt8)(h:aa)(aZ:Nat)(bC:List UInt8)(aK:aa)(de:List UInt8)
  (H1:ec Tryz.prog 3 65 (J.int IntKind.i64 (Int.ofNat (List.length t))) h=fc.val (J.int IntKind.u64 (Int.ofNat aZ)) h)
  (ay:call (.fn 52) [.str s,.int .u64 (.ofNat aZ)] h=ao.ret (.str bC) aK)
  (aN:fA .add bC t=some (.str de)):
  aw Tryz.prog Tryz.f64 none call [] (af.mk [(0,.str s),(1,.str t)] [] .none h) (.ret)
   (af.mk [(4,.str de)] [] .none aK):=
 aX [4] (hs:=[.v (.int .u64 (.ofNat aZ)),.c (.str bC) aK,.v (.str de)]) (by kernel_rfl)<| .cons H1<| .cons ay<| .cons aN<| .nil
theorem Yc(call:aE->List J->aa->ao)(h:aa):
  aw Tryz.prog Tryz.f72 none call [] (af.mk [] [] .none h) (.ret)
   (af.mk [(0,.fn 89 [] [])] [] .none h):=
 aX [0] (hs:=[]) (by kernel_rfl)<| .nil
theorem Mo(call:aE->List J->aa->ao)(l:Nat)(e:bA)(h ae:aa)(bY:Bool)(aK:aa)
  (H1:call (.ca l) [.agg [.int .u64 (.ofNat 0),.int .u64 (.ofNat 240),.int .u8 (.ofNat 0),.int .i64 (.ofNat 0)]] h=ao.ret (.bool bY) aK)
  (ay:(!bY)=true):
  aw Tryz.prog Tryz.f89 none call [0] (af.mk [(0,.ca l)] [] .none h) (.ret)
   (af.mk [(0,.ca l)] [] .none aK):=
 aX [0] (hs:=[.c (.bool bY) aK,.b true,.b true,.b true,.b true,.b true,.b true,.b true,.b true,.b true,.b true,.b true]) (by kernel_rfl)<| .cons H1<| .cons ay<| .cons ay<| .cons ay<| .cons ay<| .cons ay<| .cons (by kernel_rfl:true=true)<| .cons (by kernel_rfl:true=true)<| .cons (by kernel_rfl:true=true)<| .cons (by kernel_rfl:true=true)<| .cons (by kernel_rfl:true=true)<| .cons (by kernel_rfl:true=true)<| .nil
theorem Mp(call:aE->List J->aa->ao)(l:Nat)(e:bA)(h ae:aa)(bY:Bool)(aK:aa)(hZ:Bool)(cd:aa)
  (H1:call (.ca l) [.agg [.int .u64 (.ofNat 0),.int .u64 (.ofNat 240),.int .u8 (.ofNat 0),.int .i64 (.ofNat 0)]] h=ao.ret (.bool bY) aK)
  (ay:(!bY)=false)
  (aN:call (.ca l) [.agg [.int .u64 (.ofNat 240),.int .u64 (.ofNat 2287),.int .u8 (.ofNat 241),.int .i64 (.ofNat 1)]] aK=ao.ret (.bool hZ) cd)
  (aO:(!hZ)=true):
  aw Tryz.prog Tryz.f89 none call [0] (af.mk [(0,.ca l)] [] .none h) (.ret)
   (af.mk [(0,.ca l)] [] .none cd):=
 aX [0] (hs:=[.c (.bool bY) aK,.b false,.b false,.b false,.c (.bool hZ) cd,.b false,.b false,.b true,.b true,.b true,.b true,.b true,.b true]) (by kernel_rfl)<| .cons H1<| .cons ay<| .cons ay<| .cons ay<| .cons aN<| .cons ay<| .cons ay<| .cons aO<| .cons aO<| .cons aO<| .cons aO<| .cons aO<| .cons (by kernel_rfl:true=true)<| .nil
theorem Mq(call:aE->List J->aa->ao)(l:Nat)(e:bA)(h ae:aa)(bY:Bool)(aK:aa)(hZ:Bool)(cd:aa)(uS:Bool)(jJ:aa)
  (H1:call (.ca l) [.agg [.int .u64 (.ofNat 0),.int .u64 (.ofNat 240),.int .u8 (.ofNat 0),.int .i64 (.ofNat 0)]] h=ao.ret (.bool bY) aK)
  (ay:(!bY)=false)
  (aN:call (.ca l) [.agg [.int .u64 (.ofNat 240),.int .u64 (.ofNat 2287),.int .u8 (.ofNat 241),.int .i64 (.ofNat 1)]] aK=ao.ret (.bool hZ) cd)
  (aO:(!hZ)=false)
  (bm:call (.ca l) [.agg [.int .u64 (.ofNat 2288),.int .u64 (.ofNat 67823),.int .u8 (.ofNat 249),.int .i64 (.ofNat 2)]] cd=ao.ret (.bool uS) jJ)
  (bT:(!uS)=true):
  aw Tryz.prog Tryz.f89 none call [0] (af.mk [(0,.ca l)] [] .none h) (.ret)
   (af.mk [(0,.ca l)] [] .none jJ):=
 aX [0] (hs:=[.c (.bool bY) aK,.b false,.b false,.b false,.c (.bool hZ) cd,.b false,.b false,.b false,.b false,.b false,.c (.bool uS) jJ,.b false,.b false,.b true]) (by kernel_rfl)<| .cons H1<| .cons ay<| .cons ay<| .cons ay<| .cons aN<| .cons ay<| .cons ay<| .cons aO<| .cons aO<| .cons aO<| .cons bm<| .cons aO<| .cons aO<| .cons bT<| .nil
theorem Mr(call:aE->List J->aa->ao)(l:Nat)(e:bA)(h ae:aa)(bY:Bool)(aK:aa)(hZ:Bool)(cd:aa)(uS:Bool)(jJ:aa)
  (H1:call (.ca l) [.agg [.int .u64 (.ofNat 0),.int .u64 (.ofNat 240),.int .u8 (.ofNat 0),.int .i64 (.ofNat 0)]] h=ao.ret (.bool bY) aK)
  (ay:(!bY)=false)
  (aN:call (.ca l) [.agg [.int .u64 (.ofNat 240),.int .u64 (.ofNat 2287),.int .u8 (.ofNat 241),.int .i64 (.ofNat 1)]] aK=ao.ret (.bool hZ) cd)
  (aO:(!hZ)=false)
  (bm:call (.ca l) [.agg [.int .u64 (.ofNat 2288),.int .u64 (.ofNat 67823),.int .u8 (.ofNat 249),.int .i64 (.ofNat 2)]] cd=ao.ret (.bool uS) jJ)
  (bT:(!uS)=false):
  aw Tryz.prog Tryz.f89 none call [0] (af.mk [(0,.ca l)] [] .none h) (.nrm)
   (af.mk [(0,.ca l)] [] .none jJ):=
 aX [0] (hs:=[.c (.bool bY) aK,.b false,.b false,.b false,.c (.bool hZ) cd,.b false,.b false,.b false,.b false,.b false,.c (.bool uS) jJ,.b false,.b false,.b false]) (by kernel_rfl)<| .cons H1<| .cons ay<| .cons ay<| .cons ay<| .cons aN<| .cons ay<| .cons ay<| .cons aO<| .cons aO<| .cons aO<| .cons bm<| .cons aO<| .cons aO<| .cons bT<| .nil
theorem Ge(call:aE->List J->aa->ao)(l:Nat)(h:aa):
  aw Tryz.prog Tryz.f89 none call [1,0] (af.mk [(0,.ca l)] [] .none h) (.nrm)
   (af.mk [(0,.ca l),(2,.int .i64 (.ofNat 3))] [] .none h):=
 aX [0,2] (hs:=[]) (by kernel_rfl)<| .nil
theorem Ms(call:aE->List J->aa->ao)(l i:Nat)(h:aa)(aZ bP cY dZ fo:Nat)(bY:Bool)(aK:aa)
  (H1:dq (.ofNat i) (.ofNat 8)=true)
  (ay:arith .sub .i64 (.ofNat 8) (.ofNat i)=some (.int .i64 (.ofNat aZ)))
  (aN:arith .mul .i64 (.ofNat 8) (.ofNat aZ)=some (.int .i64 (.ofNat bP)))
  (aO:l8 .shr .u64 (.ofNat 18446744073709551615) (.ofNat bP)=some (.int .u64 (.ofNat cY)))
  (bm:arith .add .i64 (.ofNat 247) (.ofNat i)=some (.int .i64 (.ofNat dZ)))
  (bT:ec Tryz.prog 3 5 (J.int IntKind.i64 (Int.ofNat dZ)) h=fc.val (J.int IntKind.u8 (Int.ofNat fo)) h)
  (cA:call (.ca l) [.agg [.int .u64 (.ofNat 0),.int .u64 (.ofNat cY),.int .u8 (.ofNat fo),.int .i64 (.ofNat i)]] h=ao.ret (.bool bY) aK)
  (ei:(!bY)=true):
  aw Tryz.prog Tryz.f89 none call [1,1,0,0] (af.mk [(0,.ca l),(2,.int .i64 (.ofNat i))] [] .none h) (.ret)
   (af.mk [(0,.ca l),(2,.int .i64 (.ofNat i))] [] .none aK):=
 aX [0,2] (hs:=[.b true,.v (.int .i64 (.ofNat aZ)),.v (.int .i64 (.ofNat bP)),.v (.int .u64 (.ofNat cY)),.v (.int .i64 (.ofNat dZ)),.v (.int .u8 (.ofNat fo)),.c (.bool bY) aK,.b true]) (by kernel_rfl)<| .cons H1<| .cons ay<| .cons aN<| .cons aO<| .cons bm<| .cons bT<| .cons cA<| .cons ei<| .nil
theorem Mt(call:aE->List J->aa->ao)(l i:Nat)(h:aa)(aZ bP cY dZ fo:Nat)(bY:Bool)(aK:aa)(h0:Nat)
  (H1:dq (.ofNat i) (.ofNat 8)=true)
  (ay:arith .sub .i64 (.ofNat 8) (.ofNat i)=some (.int .i64 (.ofNat aZ)))
  (aN:arith .mul .i64 (.ofNat 8) (.ofNat aZ)=some (.int .i64 (.ofNat bP)))
  (aO:l8 .shr .u64 (.ofNat 18446744073709551615) (.ofNat bP)=some (.int .u64 (.ofNat cY)))
  (bm:arith .add .i64 (.ofNat 247) (.ofNat i)=some (.int .i64 (.ofNat dZ)))
  (bT:ec Tryz.prog 3 5 (J.int IntKind.i64 (Int.ofNat dZ)) h=fc.val (J.int IntKind.u8 (Int.ofNat fo)) h)
  (cA:call (.ca l) [.agg [.int .u64 (.ofNat 0),.int .u64 (.ofNat cY),.int .u8 (.ofNat fo),.int .i64 (.ofNat i)]] h=ao.ret (.bool bY) aK)
  (ei:(!bY)=false)
  (gF:arith .add .i64 (.ofNat i) (.ofNat 1)=some (.int .i64 (.ofNat h0))):
  aw Tryz.prog Tryz.f89 none call [1,1,0,0] (af.mk [(0,.ca l),(2,.int .i64 (.ofNat i))] [] .none h) (.nrm)
   (af.mk [(0,.ca l),(2,.int .i64 (.ofNat h0))] [] .none aK):=
 aX [0,2] (hs:=[.b true,.v (.int .i64 (.ofNat aZ)),.v (.int .i64 (.ofNat bP)),.v (.int .u64 (.ofNat cY)),.v (.int .i64 (.ofNat dZ)),.v (.int .u8 (.ofNat fo)),.c (.bool bY) aK,.b false,.v (.int .i64 (.ofNat h0))]) (by kernel_rfl)<| .cons H1<| .cons ay<| .cons aN<| .cons aO<| .cons bm<| .cons bT<| .cons cA<| .cons ei<| .cons gF<| .nil
theorem Yd(call:aE->List J->aa->ao)(l i:Nat)(h:aa)
  (H1:dq (.ofNat i) (.ofNat 8)=false):
  aw Tryz.prog Tryz.f89 none call [1,1,0,0] (af.mk [(0,.ca l),(2,.int .i64 (.ofNat i))] [] .none h) (.exit 0)
   (af.mk [(0,.ca l),(2,.int .i64 (.ofNat i))] [] .none h):=
 aX [0,2] (hs:=[.b false]) (by kernel_rfl)<| .cons H1<| .nil
theorem Ye(call:aE->List J->aa->ao)(n:Nat)(h:aa):
  aw Tryz.prog Tryz.f73 none call [0] (af.mk [(0,.int .u64 (.ofNat n))] [] .none h) (.nrm)
   (af.mk [(1,.ptr (aa.n h) 0),(2,.ptr (aa.n (aa.push h (.cells [.int .u64 (.ofNat n)] 65 .own 0 0))) 0)] [] .none (aa.push (aa.push h (.cells [.int .u64 (.ofNat n)] 65 .own 0 0)) (.cells [.int .u64 (.ofNat 0),.int .u64 (.ofNat 0),.int .u8 (.ofNat 0),.int .i64 (.ofNat 0)] 120 .own 0 0))):=
 aX [1,2] (hs:=[]) (by kernel_rfl)<| .nil
theorem Yf(call:aE->List J->aa->ao)(a b:Nat)(h:aa)(uT:J)(aK:aa)
  (H1:call (.fn 72) [] h=ao.ret uT aK):
  aw Tryz.prog Tryz.f73 none call [1,0,0] (af.mk [(1,.ptr a 0),(2,.ptr b 0)] [] .none h) (.nrm)
   (af.mk [(1,.ptr a 0),(2,.ptr b 0),(4,uT)] [] .none aK):=
 aX [1,2,4] (hs:=[.c uT aK]) (by kernel_rfl)<| .cons H1<| .nil
theorem Yg(call:aE->List J->aa->ao)(l a b:Nat)(x:List J)(h aK:aa)
  (H1:some 4=some (List.length x)/\aC.storeCells (aa.push h (cJ.cells [J.int IntKind.u64 (Int.ofNat 0),J.int IntKind.u64 (Int.ofNat 0),J.int IntKind.u8 (Int.ofNat 0),J.int IntKind.i64 (Int.ofNat 0)] 120 eE.own 0 0)) (aa.n h) 0 x=some aK/\J.aL []=J.aL []):
  aw Tryz.prog Tryz.f73 (some l) call [1,0,1,0,0] (af.mk [(5,.agg x),(1,.ptr a 0),(2,.ptr b 0)] [] .none h) (.nrm)
   (af.mk [(1,.ptr a 0),(2,.ptr b 0),(3,.ptr (aa.n h) 0)] [] .none aK):=
 aX [1,2,3] (hs:=[.ft (.aL []) aK]) (by kernel_rfl)<| .cons H1<| .nil
theorem Yh(call:aE->List J->aa->ao)(l a b c:Nat)(h:aa)(aZ bP cY dZ:Nat)(aK:aa)(fo h0:Nat)
  (H1:aC.loadCells h c 0 4=some [.int .u64 (.ofNat aZ),.int .u64 (.ofNat bP),.int .u8 (.ofNat cY),.int .i64 (.ofNat dZ)])
  (ay:aC.storeCells h b 0 [.int .u64 (.ofNat aZ),.int .u64 (.ofNat bP),.int .u8 (.ofNat cY),.int .i64 (.ofNat dZ)]=some aK)
  (aN:av aK a 0=some (.int .u64 (.ofNat fo)))
  (aO:av aK c (0+1)=some (.int .u64 (.ofNat h0)))
  (bm:dq (.ofNat fo) (.ofNat h0)=true):
  aw Tryz.prog Tryz.f73 (some l) call [1,0,1,0,1] (af.mk [(1,.ptr a 0),(2,.ptr b 0),(3,.ptr c 0)] [] .none h) (.exit 0)
   (af.mk [] [] .none aK):=
 aX [] (hs:=[.v (.agg [.int .u64 (.ofNat aZ),.int .u64 (.ofNat bP),.int .u8 (.ofNat cY),.int .i64 (.ofNat dZ)]),.ft (.aL []) aK,.v (.int .u64 (.ofNat fo)),.v (.int .u64 (.ofNat h0)),.b true]) (by kernel_rfl)<| .cons H1<| .cons (⟨by kernel_rfl,ay,rfl⟩:some 4=some 4/\aC.storeCells h b 0 [J.int IntKind.u64 (Int.ofNat aZ),J.int IntKind.u64 (Int.ofNat bP),J.int IntKind.u8 (Int.ofNat cY),J.int IntKind.i64 (Int.ofNat dZ)]=some aK/\J.aL []=J.aL [])<| .cons aN<| .cons aO<| .cons bm<| .nil
theorem Yi(call:aE->List J->aa->ao)(l a b c:Nat)(h:aa)(aZ bP cY dZ:Nat)(aK:aa)(fo h0:Nat)
  (H1:aC.loadCells h c 0 4=some [.int .u64 (.ofNat aZ),.int .u64 (.ofNat bP),.int .u8 (.ofNat cY),.int .i64 (.ofNat dZ)])
  (ay:aC.storeCells h b 0 [.int .u64 (.ofNat aZ),.int .u64 (.ofNat bP),.int .u8 (.ofNat cY),.int .i64 (.ofNat dZ)]=some aK)
  (aN:av aK a 0=some (.int .u64 (.ofNat fo)))
  (aO:av aK c (0+1)=some (.int .u64 (.ofNat h0)))
  (bm:dq (.ofNat fo) (.ofNat h0)=false):
  aw Tryz.prog Tryz.f73 (some l) call [1,0,1,0,1] (af.mk [(1,.ptr a 0),(2,.ptr b 0),(3,.ptr c 0)] [] .none h) (.nrm)
   (af.mk [] [] .none aK):=
 aX [] (hs:=[.v (.agg [.int .u64 (.ofNat aZ),.int .u64 (.ofNat bP),.int .u8 (.ofNat cY),.int .i64 (.ofNat dZ)]),.ft (.aL []) aK,.v (.int .u64 (.ofNat fo)),.v (.int .u64 (.ofNat h0)),.b false]) (by kernel_rfl)<| .cons H1<| .cons (⟨by kernel_rfl,ay,rfl⟩:some 4=some 4/\aC.storeCells h b 0 [J.int IntKind.u64 (Int.ofNat aZ),J.int IntKind.u64 (Int.ofNat bP),J.int IntKind.u8 (Int.ofNat cY),J.int IntKind.i64 (Int.ofNat dZ)]=some aK/\J.aL []=J.aL [])<| .cons aN<| .cons aO<| .cons bm<| .nil
theorem Yj(call:aE->List J->aa->ao)(b:Nat)(d:List bU)(h:aa)(aZ bP cY dZ:Nat)(aK:aa)
  (H1:aC.loadCells h b 0 4=some [.int .u64 (.ofNat aZ),.int .u64 (.ofNat bP),.int .u8 (.ofNat cY),.int .i64 (.ofNat dZ)])
  (ay:aC.storeCells h b 0 [.int .u64 (.ofNat aZ),.int .u64 (.ofNat bP),.int .u8 (.ofNat cY),.int .i64 (.ofNat dZ)]=some aK):
  aw Tryz.prog Tryz.f73 none call [1,1] (af.mk [(2,.ptr b 0)] d .none h) (.ret)
   (af.mk [(2,.ptr b 0)] d .none aK):=
 aX [2] (hs:=[.v (.agg [.int .u64 (.ofNat aZ),.int .u64 (.ofNat bP),.int .u8 (.ofNat cY),.int .i64 (.ofNat dZ)]),.ft (.aL []) aK]) (by kernel_rfl)<| .cons H1<| .cons (⟨by kernel_rfl,ay,rfl⟩:some 4=some 4/\aC.storeCells h b 0 [J.int IntKind.u64 (Int.ofNat aZ),J.int IntKind.u64 (Int.ofNat bP),J.int IntKind.u8 (Int.ofNat cY),J.int IntKind.i64 (Int.ofNat dZ)]=some aK/\J.aL []=J.aL [])<| .nil
noncomputable abbrev hB:Nat->List J->aa->Option (J×aa):=Go.Proofs.cT.cj
noncomputable abbrev C(n:Nat):aE->List J->aa->ao:=Go.Proofs.cT.Y n
theorem Ch:Tryz.prog.underlying 65=some (.int .u64):=by kernel_rfl
theorem rk:Tryz.prog.underlying 5=some (.int .u8):=by kernel_rfl
theorem Ci:Tryz.prog.underlying 3=some (.int .i64):=by kernel_rfl
theorem oo:Tryz.prog.underlying 98=some (.slice 5):=by kernel_rfl
theorem mn:Tryz.prog.underlying 9=some .string:=by kernel_rfl
theorem Gf(n:Nat)(h:aa):ec Tryz.prog 65 5 (.int .u64 (Int.ofNat n)) h=.val (.int .u8 (Int.ofNat (n %256))) h:=vZ Ch rk (wrap_u8 n)
theorem Mu(n:Nat)(h:aa):ec Tryz.prog 3 5 (.int .i64 (Int.ofNat n)) h=.val (.int .u8 (Int.ofNat (n %256))) h:=vZ Ci rk (wrap_u8 n)
theorem rl(n:Nat)(aM:n<9223372036854775808)(h:aa):ec Tryz.prog 3 65 (.int .i64 (Int.ofNat n)) h=.val (.int .u64 (Int.ofNat n)) h:=vZ Ci Ch (sq n (by omega))
theorem Yk(n:Nat):(UInt8.ofNat n).toNat=n %256:=by simp
theorem Mv(call:aE->List J->aa->ao)(z:Nat)(bj:z<=8):∀(k i n:Nat) (s:List UInt8) (h:aa),z-i=k->i<=z->n<18446744073709551616->s.length<=i->
  ∃an,ev Tryz.prog Tryz.f67 none call [1,1,0,1,0] (k+1) ⟨[(0,.int .u64 (Int.ofNat n)),(1,.int .i64 (Int.ofNat z)),(5,.str s),(6,.int .i64 (Int.ofNat i))],[],.none,h⟩ (.exit 0) ⟨[(5,.str (iM n k s))],[],.none,an⟩/\Ext h.n h an
 |0,i,n,s,h,ax,hi,aM,hs=>⟨h,.exit (cD.post (X3 call n z i 0 0 s [] [] h (dY (by omega))) ⟨rfl,trivial⟩) (by simp),Ext.refl _ _⟩
 |k+1,i,n,s,h,ax,hi,aM,hs=>by
  have au:(h.push (.cells [.int .u8 (Int.ofNat (n %256 %256))] 5 .own 0 0)).get h.n=some (.cells (cK [UInt8.ofNat (n %256)]++[]) 5 .own 0 0):=by
   rw[aa.e6,if_pos rfl];simp[cK]
  have ai:=Kd (P:=Tryz.prog) (a:=98) (b:=9) (cap:=.exact 1) oo rk mn (.inl rfl) au
  have st:=X2 call n z i (n %256 %256) (n %256) s [UInt8.ofNat (n %256)] _ h (n/256) (i+1) (du (by omega)) (Kc .u64 (by omega)) (Gf (n %256) h) ai (gx (x:=[UInt8.ofNat (n %256)]) (y:=s) (by simp;omega)) (Kb (by omega) aM) (kF (by omega))
  obtain⟨an,bK,bQ⟩:=Mv call z bj k (i+1) (n/256) (UInt8.ofNat (n %256)::s) _ (by omega) (by omega) (by have:=Nat.div_le_self n 256;omega) (by simp;omega)
  exact⟨an,.step st bK,(Ext.push (Nat.le_refl _) _).trans (Nat.le_succ _) bQ⟩
theorem uU(m n z:Nat)(h:aa)(aM:n<18446744073709551616)(bj:z<=8):∃an,C (m+1) (.fn 67) [.int .u64 (Int.ofNat n),.int .i64 (Int.ofNat z)] h=.ret (.str (iM n z [])) an/\Ext h.n h an:=by
 obtain⟨an,bK,bQ⟩:=Mv (C m) z bj z 0 n [] h (by omega) (by omega) aM (by simp)
 have loop:=ev.run (p:=[1,1,0,1,0]) (by kernel_rfl) bK (by omega)
 exact⟨an,dn (intr:=hB) (n:=m) (args:=[.int .u64 (Int.ofNat n),.int .i64 (Int.ofNat z)]) Tryz.func67 (by kernel_rfl) rfl (by kernel_rfl) (hi (C m) n z _ h an (cD.pre loop ⟨rfl,rfl,rfl,rfl,trivial⟩ rfl rfl rfl)) (.inl rfl) (by kernel_rfl),bQ⟩
theorem Mw(call:aE->List J->aa->ao)(n:Nat)(aM:n<18446744073709551616)(s:List UInt8)(h:aa):∀(k m:Nat),8-m=k->m<=8->
  ev Tryz.prog Tryz.f44 none call [1,1,1,0,0] (k+1) ⟨[(0,.str s),(1,.int .u64 (Int.ofNat n)),(5,.int .i64 (Int.ofNat m))],[],.none,h⟩ (.exit 1) ⟨[(0,.str s),(1,.int .u64 (Int.ofNat n)),(5,.int .i64 (Int.ofNat (ko n k m)))],[],.none,h⟩
 |0,m,ax,hm=>by
  have:m=8:=by omega
  subst this
  exact .exit (X_ call n 8 s h (dY (by omega))) (by simp)
 |k+1,m,ax,hm=>by
  have e:(256:Nat)^m=2^(8*m):=by rw[Nat.pow_mul]
  simp only[ko]
  by_cases cB:n<256^m
  · rw[if_pos cB]
    have az:n/2^(8*m)=0:=by rw[<-e];exact Nat.div_eq_of_lt cB
    exact .exit (X9 call n m s h (8*m) (n/2^(8*m)) (du (by omega)) (uc (by omega)) (yx .u64 (by show 8*m<=64;omega)) (dY (by omega))) (by simp)
  · rw[if_neg cB]
    have az:0<n/2^(8*m):=by rw[<-e];exact Nat.div_pos (by omega) (Nat.pow_pos (by omega))
    exact .step (X8 call n m s h (8*m) (n/2^(8*m)) (m+1) (du (by omega)) (uc (by omega)) (yx .u64 (by show 8*m<=64;omega)) (du az) (kF (by omega))) (Mw call n aM s h k (m+1) (by omega) (by omega))
theorem Yl(m n:Nat)(s:List UInt8)(h:aa)(aM:n<18446744073709551616)(hs:s.length<=1000000000):∃an,C (m+2) (.fn 44) [.str s,.int .u64 (Int.ofNat n)] h=.ret (.str (s++e5 n)) an/\Ext h.n h an:=by
 have fin:∀{Γ:Env} {an:aa} {v:J},aw Tryz.prog Tryz.f44 none (C (m+1)) [] ⟨[(0,.str s),(1,.int .u64 (Int.ofNat n))],[],.none,h⟩ .ret ⟨Γ,[],.none,an⟩->kE Tryz.prog (dt Tryz.f44) Tryz.f44 Γ an=some v->
   C (m+2) (.fn 44) [.str s,.int .u64 (Int.ofNat n)] h=.ret v an:=λal hv=>
  dn (intr:=hB) (n:=m+1) (args:=[.str s,.int .u64 (Int.ofNat n)]) Tryz.func44 (by kernel_rfl) rfl (by kernel_rfl) al (.inl rfl) hv
 unfold e5
 by_cases ab:n<=240
 · rw[if_pos ab]
   obtain⟨g,c1,bw⟩:=uU m n 1 h aM (by omega)
   exact⟨g,fin (X4 (C (m+1)) n 0 s h _ g _ (iE ab) c1 (gx (by rw[jK];simp;omega))) (by kernel_rfl),bw⟩
 · by_cases ae:n<=2287
   · rw[if_neg ab,if_pos ae]
     obtain⟨g,c1,bw⟩:=uU m (241+(n-240)/256) 1 h (by omega) (by omega)
     obtain⟨ak,c2,bM⟩:=uU m ((n-240) %256) 1 g (by omega) (by omega)
     refine⟨ak,?_,bw.trans bw.n bM⟩
     rw[<-List.append_assoc]
     exact fin (X5 (C (m+1)) n 0 s h _ _ _ _ g _ _ _ ak _ (iF ab) (iE ae) (Bx (by omega) aM) (Kb (by omega) (by omega)) (ue (by omega)) c1 (gx (by rw[jK];simp;omega)) (Kc .u64 (by omega)) c2 (gx (by rw[List.length_append,jK,jK];simp;omega))) (by kernel_rfl)
   · by_cases aB:n<=67823
     · rw[if_neg ab,if_neg ae,if_pos aB]
       obtain⟨g,c1,bw⟩:=uU m 249 1 h (by omega) (by omega)
       obtain⟨ak,c2,bM⟩:=uU m (n-2288) 2 g (by omega) (by omega)
       refine⟨ak,?_,bw.trans bw.n bM⟩
       rw[<-List.append_assoc]
       exact fin (X6 (C (m+1)) n 0 s h _ g _ _ _ ak _ (iF ab) (iF ae) (iE aB) c1 (gx (by rw[jK];simp;omega)) (Bx (by omega) aM) c2 (gx (by rw[List.length_append,jK,jK];simp;omega))) (by kernel_rfl)
     · rw[if_neg ab,if_neg ae,if_neg aB]
       have bj:=zj n 5 3
       have loop:=ev.run (p:=[1,1,1,0,0]) (by kernel_rfl) (Mw (C (m+1)) n aM s h 5 3 rfl (by omega)) (by omega)
       obtain⟨g,c1,bw⟩:=uU m (247+iB n) 1 h (by unfold iB;omega) (by omega)
       obtain⟨ak,c2,bM⟩:=uU m n (iB n) g aM (by unfold iB;omega)
       refine⟨ak,?_,bw.trans bw.n bM⟩
       rw[<-List.append_assoc]
       exact fin (X7 (C (m+1)) n (iB n) s h (247+iB n) (247+iB n) _ g _ _ ak _ (iF ab) (iF ae) (iF aB) (cD.pre loop ⟨rfl,rfl,rfl,trivial⟩ rfl rfl rfl) (kF (by unfold iB;omega)) (rl _ (by unfold iB;omega) h) c1 (gx (by rw[jK];simp;omega)) c2 (gx (by rw[List.length_append,jK,jK];unfold iB;simp;omega))) (by kernel_rfl)
theorem Mx(n:Nat):(e5 n).length<=9:=by
 have:=zj n 5 3
 unfold e5
 split
 · rw[jK];simp
 · split
   · rw[List.length_append,jK,jK];simp
   · split
     · rw[List.length_append,jK,jK];simp
     · rw[List.length_append,jK,jK];unfold iB;simp;omega
def hN(t:List UInt8):List UInt8:=e5 t.length++t
end Go.Proofs.df
namespace Go.Proofs.df
open Go aC Go.Proofs Go.Proofs.eN
set_option maxRecDepth 100000
def fH(s:Nat×Nat×Nat×Nat):List J:=[.int .u64 (Int.ofNat s.1),.int .u64 (Int.ofNat s.2.1),.int .u8 (Int.ofNat s.2.2.1),.int .i64 (Int.ofNat s.2.2.2)]
theorem My(i:Nat)(ab:3<=i)(ae:i<=8):18446744073709551615/2^(8*(8-i))=256^i-1:=by
 have:i=3\/i=4\/i=5\/i=6\/i=7\/i=8:=by omega
 rcases this with rfl|rfl|rfl|rfl|rfl|rfl<;>rfl
section
variable (m l n:Nat) (I:aa->Prop) (Q:Nat×Nat×Nat×Nat->aa->Prop)
 (bu:∀s x,I x->(n<=s.2.1->∃x',C m (.ca l) [.agg (fH s)] x=.ret (.bool false) x'/\Q s x')/\(¬n<=s.2.1->∃x',C m (.ca l) [.agg (fH s)] x=.ret (.bool true) x'/\I x'))
include bu
theorem Mz(aM:n<18446744073709551616):∀(k i:Nat) (x:aa),8-i=k->3<=i->i<=8->I x->
  ∃x',ev Tryz.prog Tryz.f89 none (C m) [1,1,0] (k+1) ⟨[(0,.ca l),(2,.int .i64 (Int.ofNat i))],[],.none,x⟩ .ret ⟨[],[],.none,x'⟩/\Q (0,256^ko n k i-1,247+ko n k i,ko n k i) x'
 |k,i,x,ax,aB,gl,ad=>by
  have hs:=My i aB gl
  have aU:0<256^i:=Nat.pow_pos (by omega)
  have kx:=Mu (247+i) x
  rw[Nat.mod_eq_of_lt (by omega)] at kx
  have ju:=yx .u64 (i:=18446744073709551615) (j:=8*(8-i)) (by show 8*(8-i)<=64;omega)
  rw[hs] at ju
  obtain⟨iy,eK⟩:=bu (0,256^i-1,247+i,i) x ad
  by_cases hle:n<=256^i-1
  · obtain⟨x',c1,c2⟩:=iy hle
    refine⟨x',.exit (cD.post (Ms (C m) l i x _ _ _ _ _ false x' (iE gl) (nu gl (by omega)) (uc (by omega)) ju (kF (by omega)) kx c1 rfl) trivial) (by simp),?_⟩
    have:ko n k i=i:=by
     cases k with
     |zero=>rfl
     |succ k=>simp only[ko];rw[if_pos (by omega)]
    rw[this];exact c2
  · obtain⟨x',c1,c2⟩:=eK hle
    cases k with
    |zero=>
     have:i=8:=by omega
     subst this
     exact absurd (by omega:n<=256^8-1) hle
    |succ k=>
     obtain⟨bM,bK,bQ⟩:=Mz aM k (i+1) x' (by omega) (by omega) (by omega) c2
     refine⟨bM,.step (Mt (C m) l i x _ _ _ _ _ true x' _ (iE gl) (nu gl (by omega)) (uc (by omega)) ju (kF (by omega)) kx c1 rfl (kF (by omega))) bK,?_⟩
     simp only[ko];rw[if_neg (by omega)];exact bQ
theorem Ym(aM:n<18446744073709551616)(x:aa)(ad:I x):∃x',C (m+1) (.fn 89) [.ca l] x=.ret (.aL []) x'/\Q (hL n) x':=by
 have fin:∀{Γ:Env} {x':aa},aw Tryz.prog Tryz.f89 none (C m) [] ⟨[(0,.ca l)],[],.none,x⟩ .ret ⟨Γ,[],.none,x'⟩->C (m+1) (.fn 89) [.ca l] x=.ret (.aL []) x':=λal=>
  dn (intr:=hB) (n:=m) (args:=[.ca l]) Tryz.func89 (by kernel_rfl) rfl (by kernel_rfl) al (.inl rfl) (by kernel_rfl)
 obtain⟨dG,eJ⟩:=bu (0,240,0,0) x ad
 by_cases ab:n<=240
 · obtain⟨bw,c1,aY⟩:=dG ab
   have:hL n=(0,240,0,0):=by simp[hL,ab]
   rw[this]
   exact⟨bw,fin (aw.fW (p:=[]) (by kernel_rfl) (Mo (C m) l .nrm x x false bw c1 rfl) (by simp)),aY⟩
 · obtain⟨bw,c1,i1⟩:=eJ ab
   obtain⟨a8,aW⟩:=bu (240,2287,241,1) bw i1
   by_cases ae:n<=2287
   · obtain⟨bM,c2,aR⟩:=a8 ae
     have:hL n=(240,2287,241,1):=by simp[hL,ab,ae]
     rw[this]
     exact⟨bM,fin (aw.fW (p:=[]) (by kernel_rfl) (Mp (C m) l .nrm x x true bw false bM c1 rfl c2 rfl) (by simp)),aR⟩
   · obtain⟨bM,c2,i2⟩:=aW ae
     obtain⟨d1,d2⟩:=bu (2288,67823,249,2) bM i2
     by_cases aB:n<=67823
     · obtain⟨dT,c3,bW⟩:=d1 aB
       have:hL n=(2288,67823,249,2):=by simp[hL,ab,ae,aB]
       rw[this]
       exact⟨dT,fin (aw.fW (p:=[]) (by kernel_rfl) (Mq (C m) l .nrm x x true bw true bM false dT c1 rfl c2 rfl c3 rfl) (by simp)),bW⟩
     · obtain⟨dT,c3,i3⟩:=d2 aB
       obtain⟨kJ,bK,bQ⟩:=Mz m l n I Q bu aM 5 3 dT rfl (by omega) (by omega) i3
       have loop:=aw.o5 (p:=[1,1]) (id:=0) (by kernel_rfl) (ev.run (p:=[1,1,0]) (by kernel_rfl) bK (by omega)) (by simp)
       have:hL n=(0,256^ko n 5 3-1,247+ko n 5 3,ko n 5 3):=by simp[hL,ab,ae,aB,iB]
       rw[this]
       exact⟨kJ,fin (aw.seq (p:=[]) (by kernel_rfl) (Mr (C m) l .nrm x x true bw true bM true dT c1 rfl c2 rfl c3 rfl) (aw.seq (p:=[1]) (by kernel_rfl) (Ge (C m) l dT) loop)),bQ⟩
end
noncomputable def oq:Code:=sub (fO Tryz.f73) [1,0,1,0,0]
noncomputable def po:Code:=sub (fO Tryz.f73) [1,0,1,0,1]
structure Cj(n N:Nat)(h:aa)(r:a0)(x:aa):Prop where
 num:x.get N=some (.cells [.int .u64 (Int.ofNat n)] 65 .own 0 0)
 out:∃a b c d,x.get (N+1)=some (.cells [a,b,c,d] 120 .own 0 0)
 j8:x.get (N+2)=some (.defrd (some []))
 pe:x.get (N+3)=some (.loop .ready none (dt Tryz.f73) r [5] oq po (N+2))
 ext:Ext N h x
 o2:N+4<=x.n
structure MA(N:Nat)(h:aa)(r:a0)(s:Nat×Nat×Nat×Nat)(x:aa):Prop where
 out:x.get (N+1)=some (.cells (fH s) 120 .own 0 0)
 j8:x.get (N+2)=some (.defrd (some []))
 pe:x.get (N+3)=some (.loop .done (some (.exit 0)) (dt Tryz.f73) r [5] oq po (N+2))
 ext:Ext N h x
theorem zn{h:aa}{b t:Nat}{x:List J}(ad:x.length=4)(au:h.get b=some (.cells x t .own 0 0)):aC.loadCells h b 0 4=some x:=by
 have:=Bs (xs:=x) (rest:=[]) (by simpa using au)
 rwa [ad] at this
theorem wW{h:aa}{b t:Nat}{dG eJ h8 lx c1 c2 c3 c4:J}(ab:c1.cu=true)(ae:c2.cu=true)(aB:c3.cu=true)(aP:c4.cu=true)(au:h.get b=some (.cells [dG,eJ,h8,lx] t .own 0 0)):aC.storeCells h b 0 [c1,c2,c3,c4]=some (h.set b (some (.cells [c1,c2,c3,c4] t .own 0 0))):=by
 have hw:j9 .own 0 0 0 [c1,c2,c3,c4].length=true:=rfl
 simp only[aC.storeCells,au,hw,eP,ab,ae,aB,aP]
theorem Yn(m n N:Nat)(h:aa)(r:a0)(hm:aC.Mod r [(1,.ptr N 0),(2,.ptr (N+1) 0)])(s:Nat×Nat×Nat×Nat)(x:aa)(hi:Cj n N h r x):
  (n<=s.2.1->∃x',C (m+1) (.ca (N+3)) [.agg (fH s)] x=.ret (.bool false) x'/\MA N h r s x')/\(¬n<=s.2.1->∃x',C (m+1) (.ca (N+3)) [.agg (fH s)] x=.ret (.bool true) x'/\Cj n N h r x'):=by
 obtain⟨x7,⟨a,b,c,d,tg⟩,Gg,uV,p4,tO⟩:=hi
 have bu:C (m+1) (.ca (N+3)) [.agg (fH s)] x=oI Tryz.prog (C m) (N+3) [.agg (fH s)] x:=rfl
 let bw:=(x.push (.cells [.int .u64 (Int.ofNat 0),.int .u64 (Int.ofNat 0),.int .u8 (Int.ofNat 0),.int .i64 (Int.ofNat 0)] 120 .own 0 0)).set x.n (some (.cells (fH s) 120 .own 0 0))
 have s1:=wW (c1:=.int .u64 (Int.ofNat s.1)) (c2:=.int .u64 (Int.ofNat s.2.1)) (c3:=.int .u8 (Int.ofNat s.2.2.1)) (c4:=.int .i64 (Int.ofNat s.2.2.2)) rfl rfl rfl rfl (by rw[aa.e6,if_pos rfl]:(x.push (.cells [.int .u64 (Int.ofNat 0),.int .u64 (Int.ofNat 0),.int .u8 (Int.ofNat 0),.int .i64 (Int.ofNat 0)] 120 .own 0 0)).get x.n=_)
 have dH:∀j,j<x.n->bw.get j=x.get j:=λj aV=>by simp only[bw];rw[aa.bV,if_neg (by omega),aa.e6,if_neg (by omega)]
 have has:cD Tryz.prog (dt Tryz.f73) (some (N+3)) (C m) oq ⟨put 5 (.agg (fH s)) [(1,.ptr N 0),(2,.ptr (N+1) 0)],[],.none,x⟩ .nrm ⟨[(1,.ptr N 0),(2,.ptr (N+1) 0),(3,.ptr x.n 0)],[],.none,bw⟩:=
  cD.pre (st1:=⟨put 5 (.agg (fH s)) [(1,.ptr N 0),(2,.ptr (N+1) 0)],[],.none,x⟩) (Yg (C m) (N+3) N (N+1) (fH s) x bw ⟨rfl,s1,rfl⟩) ⟨rfl,rfl,rfl,trivial⟩ rfl rfl rfl
 have bK:bw.get (N+3)=some (.loop .ready none (dt Tryz.f73) r [5] oq po (N+2)):=(dH _ (by omega)).trans uV
 let bM:=bw.set (N+3) (some (.loop .busy none (dt Tryz.f73) r [5] oq po (N+2)))
 have gc:bM.get x.n=some (.cells (fH s) 120 .own 0 0):=by simp only[bM,bw];rw[aa.bV,if_neg (by omega),aa.bV,if_pos rfl]
 have iu:bM.get (N+1)=some (.cells [a,b,c,d] 120 .own 0 0):=by simp only[bM];rw[aa.bV,if_neg (by omega),dH _ (by omega)];exact tg
 have s2:=wW (c1:=.int .u64 (Int.ofNat s.1)) (c2:=.int .u64 (Int.ofNat s.2.1)) (c3:=.int .u8 (Int.ofNat s.2.2.1)) (c4:=.int .i64 (Int.ofNat s.2.2.2)) rfl rfl rfl rfl iu
 let dT:=bM.set (N+1) (some (.cells (fH s) 120 .own 0 0))
 have jF:dT.get N=some (.cells [.int .u64 (Int.ofNat n)] 65 .own 0 0):=by simp only[dT,bM];rw[aa.bV,if_neg (by omega),aa.bV,if_neg (by omega),dH _ (by omega)];exact x7
 have Yo:dT.get x.n=some (.cells (fH s) 120 .own 0 0):=by simp only[dT];rw[aa.bV,if_neg (by omega)];exact gc
 have AZ:av dT x.n (0+1)=some (.int .u64 (Int.ofNat s.2.1)):=by simp only[av,Yo];rfl
 have ax:dT.get (N+3)=some (.loop .busy none (dt Tryz.f73) r [5] oq po (N+2)):=by simp only[dT,bM];rw[aa.bV,if_neg (by omega),aa.bV,if_pos rfl]
 have ex:Ext N h dT:=((((p4.trans (Nat.le_refl _) (Ext.push (by omega) _)).trans (Nat.le_refl _) (Ext.set (by omega) _)).trans (Nat.le_refl _) (Ext.set (by omega) _)).trans (Nat.le_refl _) (Ext.set (by omega) _))
 have gd:dT.get (N+2)=some (.defrd (some [])):=by simp only[dT,bM];rw[aa.bV,if_neg (by omega),aa.bV,if_neg (by omega),dH _ (by omega)];exact Gg
 have go:dT.get (N+1)=some (.cells (fH s) 120 .own 0 0):=by simp only[dT];rw[aa.bV,if_pos rfl]
 have Yp:dT.n=x.n+1:=rfl
 refine⟨λhle=>?_,λhle=>?_⟩
 · have ag:=Yh (C m) (N+3) N (N+1) x.n bM s.1 s.2.1 s.2.2.1 s.2.2.2 dT n s.2.1 (zn rfl gc) s2 (mQ jF) AZ (iE hle)
   have uW:=By uV hm has bK (cD.pre (st1:=⟨[(1,.ptr N 0),(2,.ptr (N+1) 0),(3,.ptr x.n 0)],[],.none,bM⟩) ag ⟨rfl,rfl,rfl,trivial⟩ rfl rfl rfl) ax
   refine⟨_,bu.trans uW,⟨?_,?_,?_,ex.trans (Nat.le_refl _) (Ext.set (by omega) _)⟩⟩
   · rw[aa.bV,if_neg (by omega)];exact go
   · rw[aa.bV,if_neg (by omega)];exact gd
   · rw[aa.bV,if_pos rfl]
 · have ag:=Yi (C m) (N+3) N (N+1) x.n bM s.1 s.2.1 s.2.2.1 s.2.2.2 dT n s.2.1 (zn rfl gc) s2 (mQ jF) AZ (iF hle)
   have uW:=By uV hm has bK (cD.pre (st1:=⟨[(1,.ptr N 0),(2,.ptr (N+1) 0),(3,.ptr x.n 0)],[],.none,bM⟩) ag ⟨rfl,rfl,rfl,trivial⟩ rfl rfl rfl) ax
   refine⟨_,bu.trans uW,⟨?_,⟨.int .u64 (Int.ofNat s.1),.int .u64 (Int.ofNat s.2.1),.int .u8 (Int.ofNat s.2.2.1),.int .i64 (Int.ofNat s.2.2.2),?_⟩,?_,?_,ex.trans (Nat.le_refl _) (Ext.set (by omega) _),by simp[Yp];omega⟩⟩
   · rw[aa.bV,if_neg (by omega)];exact jF
   · rw[aa.bV,if_neg (by omega)];exact go
   · rw[aa.bV,if_neg (by omega)];exact gd
   · rw[aa.bV,if_pos rfl]
theorem MB(n:Nat)(h:aa):C (n+1) (.fn 72) [] h=.ret (.fn 89 [] []) h:=
 dn (intr:=hB) (n:=n) (args:=[]) Tryz.func72 (by kernel_rfl) rfl (by kernel_rfl) (Yc (C n) h) (.inl rfl) (by kernel_rfl)
theorem Yq(m n:Nat)(h:aa)(aM:n<18446744073709551616):∃an,C (m+3) (.fn 73) [.int .u64 (Int.ofNat n)] h=.ret (.agg (fH (hL n))) an/\Ext h.n h an:=by
 let ab:=(h.push (.cells [.int .u64 (Int.ofNat n)] 65 .own 0 0)).push (.cells [.int .u64 (Int.ofNat 0),.int .u64 (Int.ofNat 0),.int .u8 (Int.ofNat 0),.int .i64 (Int.ofNat 0)] 120 .own 0 0)
 have w:WF Tryz.prog Tryz.f73 none (C (m+2)) [] (λe r d q an=>∃hI,kT Tryz.prog (C (m+2)) Tryz.f73 (.ok e r d q an)=.ret (.agg (fH (hL n))) hI/\Ext h.n h hI) (nT 0 [.int .u64 (Int.ofNat n)] .leaf) [] .none h:=by
  refine WF.seq (p:=[]) (by kernel_rfl) (W.of (Ye (C (m+2)) n h) (t_ [.int .u64 (Int.ofNat n)]) λbq c9=>.inl ⟨rfl,?_⟩)
  refine WF.seq (p:=[1]) (by kernel_rfl) ?_
  refine WF.seq (p:=[1,0]) (by kernel_rfl) (W.of (Yf (C (m+2)) h.n (h.n+1) ab _ ab (MB (m+1) ab)) c9 λa9 jr=>.inl ⟨rfl,?_⟩)
  refine WF.block (p:=[1,0,1]) (id:=0) (by kernel_rfl) ?_
  refine WF.range (p:=[1,0,1,0]) (t:=4) (ps:=[5]) (by kernel_rfl) (by kernel_rfl) (hf:=rfl) (hm:=jr) ?_
  let kn:=(ab.push (.defrd (some []))).push (.loop .ready none (dt Tryz.f73) a9 [5] oq po (h.n+2))
  have i0:Cj n h.n h a9 kn:=by
   refine⟨?_,⟨.int .u64 (Int.ofNat 0),.int .u64 (Int.ofNat 0),.int .u8 (Int.ofNat 0),.int .i64 (Int.ofNat 0),?_⟩,?_,?_,?_,?_⟩
   · simp only[kn,ab,aa.e6,aa.e7];grind
   · simp only[kn,ab,aa.e6,aa.e7];rw[if_neg (by omega),if_neg (by omega)];simp
   · simp only[kn,ab,aa.e6,aa.e7];grind
   · simp only[kn,ab,aa.e6,aa.e7];grind
   · exact(((Ext.push (Nat.le_refl _) _).trans (Nat.le_refl _) (Ext.push (by simp) _)).trans (Nat.le_refl _) (Ext.push (by simp[ab];omega) _)).trans (Nat.le_refl _) (Ext.push (by simp[ab];omega) _)
   · simp[kn,ab]
  have MC:aC.Mod a9 [(1,.ptr h.n 0),(2,.ptr (h.n+1) 0)]:=jr.sub ⟨rfl,rfl,trivial⟩
  obtain⟨x,ff,fN⟩:=Ym (m+1) (h.n+3) n (Cj n h.n h a9) (MA h.n h a9) (λs x ad=>Yn m n h.n h a9 MC s x ad) aM kn i0
  have hl:jO (h.n+3) a9 [.collected (h.n+2)] .none (.ret (.aL []) x)=.ok (.exit 0) a9 [.collected (h.n+2)] .none (x.set (h.n+3) (some (.loop .exhausted (some (.exit 0)) (dt Tryz.f73) a9 [5] oq po (h.n+2)))):=by
   simp only[jO,fN.pe]
  refine⟨.exit 0,_,(congrArg (jO (h.n+3) a9 [.collected (h.n+2)] .none) ff).trans hl,.inl ⟨rfl,.inl ⟨rfl,?_⟩⟩⟩
  have go:(x.set (h.n+3) (some (.loop .exhausted (some (.exit 0)) (dt Tryz.f73) a9 [5] oq po (h.n+2)))).get (h.n+1)=some (.cells (fH (hL n)) 120 .own 0 0):=by rw[aa.bV,if_neg (by omega)];exact fN.out
  have gd:(x.set (h.n+3) (some (.loop .exhausted (some (.exit 0)) (dt Tryz.f73) a9 [5] oq po (h.n+2)))).get (h.n+2)=some (.defrd (some [])):=by rw[aa.bV,if_neg (by omega)];exact fN.j8
  have ex:Ext h.n h (x.set (h.n+3) (some (.loop .exhausted (some (.exit 0)) (dt Tryz.f73) a9 [5] oq po (h.n+2)))):=fN.ext.trans (Nat.le_refl _) (Ext.set (by omega) _)
  generalize x.set (h.n+3) (some (.loop .exhausted (some (.exit 0)) (dt Tryz.f73) a9 [5] oq po (h.n+2)))=y at go gd ex
  have cL:=wW (c1:=.int .u64 (Int.ofNat (hL n).1)) (c2:=.int .u64 (Int.ofNat (hL n).2.1)) (c3:=.int .u8 (Int.ofNat (hL n).2.2.1)) (c4:=.int .i64 (Int.ofNat (hL n).2.2.2)) rfl rfl rfl rfl go
  refine W.of (Yj (C (m+2)) (h.n+1) [.collected (h.n+2)] y _ _ _ _ _ (zn rfl go) cL) (MC.sub ⟨rfl,trivial⟩) λee wC=>?_
  let iy:=(y.set (h.n+1) (some (.cells (fH (hL n)) 120 .own 0 0)))
  have Yr:iy.get (h.n+2)=some (.defrd (some [])):=by simp only[iy];rw[aa.bV,if_neg (by omega)];exact gd
  have Ys:(iy.set (h.n+2) (some (.defrd none))).get (h.n+1)=some (.cells (fH (hL n)) 120 .own 0 0):=by simp only[iy];rw[aa.bV,if_neg (by omega),aa.bV,if_pos rfl]
  have hv:pG Tryz.prog (dt Tryz.f73) Tryz.f73 ee (iy.set (h.n+2) (some (.defrd none)))=some (.agg (fH (hL n))):=by
   refine ua wC ?_
   have aF:Tryz.f73.results.toList=[.cell 2 120]:=by kernel_rfl
   have aG:Nat.testBit (dt Tryz.f73) 2=true:=by kernel_rfl
   have bJ:m7 Tryz.prog 120=some true:=by kernel_rfl
   have dh:dQ Tryz.prog 120=some 4:=by kernel_rfl
   have iq:fV 2 [(2,J.ptr (h.n+1) 0)]=some (.ptr (h.n+1) 0):=rfl
   simp only[kE,aF,mC,n8,aG,bJ,dh,iq,zn rfl Ys]
  refine⟨iy.set (h.n+2) (some (.defrd none)),?_,(ex.trans (Nat.le_refl _) (Ext.set (by omega) _)).trans (Nat.le_refl _) (Ext.set (by omega) _)⟩
  show kT Tryz.prog (C (m+2)) Tryz.f73 (.ok .ret ee [.collected (h.n+2)] .none iy)=_
  simp only[kT,kb,Yr,List.nil_append,hv]
 obtain⟨e,r,d,q,an,bR,hI,b3,jU⟩:=w
 exact⟨hI,EN (intr:=hB) (n:=m+2) (args:=[.int .u64 (Int.ofNat n)]) Tryz.func73 (by kernel_rfl) rfl (by kernel_rfl) ⟨e,r,d,q,an,bR,b3⟩,jU⟩
end Go.Proofs.df
namespace Go.Proofs.df
open Go aC Go.Proofs Go.Proofs.eN
set_option maxRecDepth 100000
abbrev ou:J:=.int .u8 (Int.ofNat 0)
theorem MD(n:Nat)(acc:List UInt8):(J.int .u8 (Int.ofNat (n %256)))::cK acc=cK (UInt8.ofNat (n %256)::acc):=by
 simp only[cK,Yk,Nat.mod_mod]
theorem ME(call:aE->List J->aa->ao)(s:List UInt8)(z b:Nat)(p:J):∀(i m:Nat) (acc:List UInt8) (x:aa),i<=z->z<=8->x.get b=some (.cells (List.replicate (i+1) ou++cK acc) 5 .own 0 0)->
  ∃x',ev Tryz.prog Tryz.f52 none call [1,1,1,1,0,1,0] (i+1) ⟨[(0,.str s),(1,.int .u64 (Int.ofNat m)),(5,p),(6,.slice b 0 (z+1) (.exact (z+1))),(7,.int .i64 (Int.ofNat i))],[],.none,x⟩ (.exit 0) ⟨[(0,.str s),(1,.int .u64 (Int.ofNat (m/256^i))),(5,p),(6,.slice b 0 (z+1) (.exact (z+1)))],[],.none,x'⟩/\
   x'.get b=some (.cells (ou::cK (iM m i acc)) 5 .own 0 0)/\di b x.n x x'
 |0,m,acc,x,hi,bj,au=>by
  refine⟨x,.exit (cD.post (Yb _ _ _ _ _ _ _ _ (dY (by omega))) ⟨rfl,by simp[fV],rfl,rfl,trivial⟩) (by simp),au,di.refl _ _ _⟩
 |i+1,m,acc,x,hi,bj,au=>by
  have e:List.replicate (i+1+1) ou++cK acc=List.replicate (i+1) ou++ou::cK acc:=by rw[List.replicate_succ',List.append_assoc];rfl
  rw[e] at au
  have st:=Kf (.inl rfl) au (off:=0+(i+1)*1) (x:=.int .u8 (Int.ofNat (m %256))) (by simp) rfl
  rw[MD] at st
  have cI:=yx .u64 (i:=m) (j:=8) (by decide)
  obtain⟨x',bK,bQ,dW⟩:=ME call s z b p i (m/2^8) (UInt8.ofNat (m %256)::acc) (x.set b (some (.cells (List.replicate (i+1) ou++cK (UInt8.ofNat (m %256)::acc)) 5 .own 0 0))) (by omega) bj (by rw[aa.bV,if_pos rfl])
  have em:m/2^8/256^i=m/256^(i+1):=by rw[show(2:Nat)^8=256 from rfl,Nat.div_div_eq_div_mul,Nat.pow_succ,Nat.mul_comm]
  rw[em] at bK
  refine⟨x',.step ?_ bK,bQ,(di.set _).trans (Nat.le_refl _) dW⟩
  exact(Ya _ _ _ _ _ _ _ _ _ _ _ _ (du (by omega)) (Gf m x) (by show(_:Nat)<=_;omega) (st) (cI) (nu (by omega) (by omega)))
theorem Yt(m n:Nat)(s:List UInt8)(h:aa)(aM:n<18446744073709551616)(hs:s.length<=1000000000):∃an,C (m+4) (.fn 52) [.str s,.int .u64 (Int.ofNat n)] h=.ret (.str (s++e5 n)) an/\Ext h.n h an:=by
 obtain⟨aq,c1,bw⟩:=Yq m n h aM
 obtain⟨Aq,bj,_⟩:=XV n aM
 have Gh:=XU n aM
 have hlen:=Mx n
 rw[<-Gh] at hlen⊢
 generalize Yu:hL n=σ at c1 Aq bj
 obtain⟨bS,to,k9,z⟩:=σ
 simp only at Aq bj
 let ak:=(aq.push (.cells [.int .u64 (Int.ofNat 0),.int .u64 (Int.ofNat 0),.int .u8 (Int.ofNat 0),.int .i64 (Int.ofNat 0)] 120 .own 0 0)).set aq.n (some (.cells (fH (bS,to,k9,z)) 120 .own 0 0))
 have s2:=wW (c1:=.int .u64 (Int.ofNat bS)) (c2:=.int .u64 (Int.ofNat to)) (c3:=.int .u8 (Int.ofNat k9)) (c4:=.int .i64 (Int.ofNat z)) rfl rfl rfl rfl (by rw[aa.e6,if_pos rfl]:(aq.push (.cells [.int .u64 (Int.ofNat 0),.int .u64 (Int.ofNat 0),.int .u8 (Int.ofNat 0),.int .i64 (Int.ofNat 0)] 120 .own 0 0)).get aq.n=_)
 have Gi:ak.get aq.n=some (.cells (fH (bS,to,k9,z)) 120 .own 0 0):=by simp only[ak];rw[aa.bV,if_pos rfl]
 have bL:ak.n=aq.n+1:=rfl
 let aQ:=ak.push (.cells (List.replicate (z+1) ou) 5 .own 0 0)
 have MF:aQ.get aq.n=some (.cells (fH (bS,to,k9,z)) 120 .own 0 0):=by simp only[aQ];rw[aa.e6,if_neg (by omega)];exact Gi
 have Yv:aQ.get ak.n=some (.cells (List.replicate (z+1) ou++cK []) 5 .own 0 0):=by simp only[aQ];rw[aa.e6,if_pos rfl];simp[cK]
 have mk:vQ Tryz.prog ak 98 (.int .i64 (Int.ofNat (1+z))) (.int .i64 (Int.ofNat (1+z)))=some (.slice ak.n 0 (z+1) (.exact (z+1)),aQ):=by
  rw[Nat.add_comm 1 z]
  exact SC (i:=((Tryz.prog.info? 5).getD default)) oo (by kernel_rfl) (by kernel_rfl) (by kernel_rfl) (by kernel_rfl) (by omega) (by omega)
 obtain⟨a3,bK,bQ,dW⟩:=ME (C (m+3)) s z ak.n (.ptr aq.n 0) z (n-bS) [] aQ (Nat.le_refl _) bj Yv
 have loop:=ev.run (p:=[1,1,1,1,0,1,0]) (by kernel_rfl) bK (by omega)
 have Yw:a3.get aq.n=some (.cells (fH (bS,to,k9,z)) 120 .own 0 0):=(dW.get _ (by simp[aQ,bL];omega) (by omega)).trans MF
 have aF:(k9+(n-bS)/256^z %256) %256=(k9+(n-bS)/256^z) %256:=by omega
 have r6:cK (qu n)=.int .u8 (Int.ofNat ((k9+(n-bS)/256^z) %256))::cK (iM (n-bS) z []):=by
  rw[MD];simp only[qu,Yu]
 have uN:(qu n).length=z+1:=by
  have:=congrArg List.length r6
  simp only[o6,List.length_cons,jK] at this
  simpa using this
 let bZ:=a3.set ak.n (some (.cells (cK (qu n)) 5 .own 0 0))
 have Gj:aC.storeCells a3 ak.n (0+0*1) [.int .u8 (Int.ofNat ((k9+(n-bS)/256^z %256) %256))]=some bZ:=by
  have:=Kf (l:=[]) (k:=.own) (.inl rfl) bQ (off:=0+0*1) (x:=.int .u8 (Int.ofNat ((k9+(n-bS)/256^z %256) %256))) (by simp) rfl
  rw[this];simp only[bZ,r6,aF,List.nil_append]
 have Yx:bZ.get ak.n=some (.cells (cK (qu n)++[]) 5 .own 0 0):=by simp only[bZ];rw[aa.bV,if_pos rfl];simp
 have g0:=Kd (P:=Tryz.prog) (a:=98) (b:=9) (cap:=.exact (qu n).length) oo rk mn (.inl rfl) Yx
 rw[uN] at g0
 refine⟨bZ,?_,?_⟩
 · exact dn (intr:=hB) (n:=m+3) (args:=[.str s,.int .u64 (Int.ofNat n)]) Tryz.func52 (by kernel_rfl) rfl (by kernel_rfl)
    (fa (C (m+3)) n bS to k9 z ak.n ((n-bS)/256^z) s h aq ak aQ a3 ak bS (n-bS) z (1+z) z k9 ((n-bS)/256^z %256) ((k9+(n-bS)/256^z %256) %256) bZ (qu n) (s++qu n)
     c1 s2 (by simp only[av,Gi];rfl) (Bx (by omega) aM) (by simp only[av,Gi];rfl) (kF (by omega)) mk (by simp only[av,MF];rfl) (cD.pre loop ⟨rfl,rfl,rfl,rfl,rfl,trivial⟩ rfl rfl rfl)
     (by simp only[av,Yw];rfl) (Gf _ a3) SA (by show 1<=z+1;omega) Gj g0 (gx (by omega))) (.inl rfl) (by kernel_rfl)
 · have dG:Ext h.n h ak:=(bw.trans (Nat.le_refl _) (Ext.push bw.n _)).trans (Nat.le_refl _) (Ext.set bw.n _)
   have ag:h.n<=ak.n:=by have:=bw.n;omega
   have eJ:Ext h.n h aQ:=dG.trans (Nat.le_refl _) (Ext.push ag _)
   exact(eJ.trans (Nat.le_refl _) ((dW.le (by have:=eJ.n;omega)).Kg ag)).trans (Nat.le_refl _) (Ext.set ag _)
end Go.Proofs.df
namespace Go.Proofs.df
open Go aC Go.Proofs Go.Proofs.eN
set_option maxRecDepth 100000
set_option maxHeartbeats 1000000
theorem Yy(call:aE->List J->aa->ao)(s:List UInt8)(h:aa)(aZ bP cY:Nat)(kp:cE)(aK:aa)
  (H1:ec Tryz.prog 9 98 (J.str s) h=fc.val (J.slice aZ bP cY kp) aK):
  aw Tryz.prog Tryz.f22 none call [] (af.mk [(0,.str s)] [] .none h) (.ret)
   (af.mk [(2,.ptr (aa.n aK) 0)] [] .none (aa.push aK (.cells [.slice aZ bP cY kp,.bool false] 100 .own 0 0))):=
 aX [2] (hs:=[.ft (.slice aZ bP cY kp) aK]) (by kernel_rfl)<| .cons H1<| .nil
theorem Yz(call:aE->List J->aa->ao)(p k:Nat)(h:aa)(aZ bP cY:Nat)(kp:cE)(dZ:Nat)(aK cd:aa)
  (H1:av h p (0+0)=some (.slice aZ bP cY kp))
  (ay:ec Tryz.prog 3 65 (J.int IntKind.i64 (Int.ofNat cY)) h=fc.val (J.int IntKind.u64 (Int.ofNat dZ)) h)
  (aN:br (.ofNat dZ) (.ofNat k)=true)
  (aO:aC.storeCells h p (0+0) [.aA]=some aK)
  (bm:aC.storeCells aK p (0+1) [.bool true]=some cd):
  aw Tryz.prog Tryz.f50 none call [] (af.mk [(0,.ptr p 0),(1,.int .u64 (.ofNat k))] [] .none h) (.ret)
   (af.mk [(4,.aA),(5,.bool false)] [] .none cd):=
 aX [4,5] (hs:=[.v (.slice aZ bP cY kp),.v (.int .u64 (.ofNat dZ)),.b true,.ft (.aL []) aK,.ft (.aL []) cd]) (by kernel_rfl)<| .cons H1<| .cons ay<| .cons aN<| .cons (⟨by kernel_rfl,aO,rfl⟩:some 1=some 1/\aC.storeCells h p (0+0) [J.aA]=some aK/\J.aL []=J.aL [])<| .cons (⟨by kernel_rfl,bm,rfl⟩:some 1=some 1/\aC.storeCells aK p (0+1) [J.bool true]=some cd/\J.aL []=J.aL [])<| .nil
theorem MG(call:aE->List J->aa->ao)(p k:Nat)(h:aa)(aZ bP cY:Nat)(kp:cE)(dZ fo h0 mr:Nat)(Gk:cE)(rj Ck Cl:Nat)(Cm:cE)(aK:aa)
  (H1:av h p (0+0)=some (.slice aZ bP cY kp))
  (ay:ec Tryz.prog 3 65 (J.int IntKind.i64 (Int.ofNat cY)) h=fc.val (J.int IntKind.u64 (Int.ofNat dZ)) h)
  (aN:br (.ofNat dZ) (.ofNat k)=false)
  (aO:d_ Tryz.prog h 98 (J.slice aZ bP cY kp) none (some (J.int IntKind.u64 (Int.ofNat k))) (some (J.int IntKind.u64 (Int.ofNat k)))=some (J.slice fo h0 mr Gk))
  (bm:d_ Tryz.prog h 98 (J.slice aZ bP cY kp) (some (J.int IntKind.u64 (Int.ofNat k))) none none=some (J.slice rj Ck Cl Cm))
  (bT:aC.storeCells h p (0+0) [.slice rj Ck Cl Cm]=some aK):
  aw Tryz.prog Tryz.f50 none call [] (af.mk [(0,.ptr p 0),(1,.int .u64 (.ofNat k))] [] .none h) (.ret)
   (af.mk [(4,.slice fo h0 mr Gk),(5,.bool true)] [] .none aK):=
 aX [4,5] (hs:=[.v (.slice aZ bP cY kp),.v (.int .u64 (.ofNat dZ)),.b false,.v (.slice aZ bP cY kp),.v (.slice fo h0 mr Gk),.v (.slice aZ bP cY kp),.v (.slice rj Ck Cl Cm),.ft (.aL []) aK]) (by kernel_rfl)<| .cons H1<| .cons ay<| .cons aN<| .cons H1<| .cons aO<| .cons H1<| .cons bm<| .cons (⟨by kernel_rfl,bT,rfl⟩:some 1=some 1/\aC.storeCells h p (0+0) [J.slice rj Ck Cl Cm]=some aK/\J.aL []=J.aL [])<| .nil
theorem YA(call:aE->List J->aa->ao)(p k:Nat)(h aK cd:aa)
  (H1:av h p (0+0)=some .aA)
  (ay:br (.ofNat 0) (.ofNat k)=true)
  (aN:aC.storeCells h p (0+0) [.aA]=some aK)
  (aO:aC.storeCells aK p (0+1) [.bool true]=some cd):
  aw Tryz.prog Tryz.f50 none call [] (af.mk [(0,.ptr p 0),(1,.int .u64 (.ofNat k))] [] .none h) (.ret)
   (af.mk [(4,.aA),(5,.bool false)] [] .none cd):=
 aX [4,5] (hs:=[.v .aA,.v (.int .u64 (.ofNat 0)),.b true,.ft (.aL []) aK,.ft (.aL []) cd]) (by kernel_rfl)<| .cons H1<| .cons (by kernel_rfl:ec Tryz.prog 3 65 (J.int IntKind.i64 (Int.ofNat 0)) h=fc.val (J.int IntKind.u64 (Int.ofNat 0)) h)<| .cons ay<| .cons (⟨by kernel_rfl,aN,rfl⟩:some 1=some 1/\aC.storeCells h p (0+0) [J.aA]=some aK/\J.aL []=J.aL [])<| .cons (⟨by kernel_rfl,aO,rfl⟩:some 1=some 1/\aC.storeCells aK p (0+1) [J.bool true]=some cd/\J.aL []=J.aL [])<| .nil
theorem ctz(call:aE->List J->aa->ao)(p:Nat)(h aK:aa)
  (H1:av h p (0+0)=some .aA)
  (ay:d_ Tryz.prog h 98 J.aA none (some (J.int IntKind.u64 (Int.ofNat 0))) (some (J.int IntKind.u64 (Int.ofNat 0)))=some J.aA)
  (aN:d_ Tryz.prog h 98 J.aA (some (J.int IntKind.u64 (Int.ofNat 0))) none none=some J.aA)
  (aO:aC.storeCells h p (0+0) [.aA]=some aK):
  aw Tryz.prog Tryz.f50 none call [] (af.mk [(0,.ptr p 0),(1,.int .u64 (.ofNat 0))] [] .none h) (.ret)
   (af.mk [(4,.aA),(5,.bool true)] [] .none aK):=
 aX [4,5] (hs:=[.v .aA,.v (.int .u64 (.ofNat 0)),.b false,.v .aA,.v .aA,.v .aA,.v .aA,.ft (.aL []) aK]) (by kernel_rfl)<| .cons H1<| .cons (by kernel_rfl:ec Tryz.prog 3 65 (J.int IntKind.i64 (Int.ofNat 0)) h=fc.val (J.int IntKind.u64 (Int.ofNat 0)) h)<| .cons (by kernel_rfl:br (Int.ofNat 0) (Int.ofNat 0)=false)<| .cons H1<| .cons ay<| .cons H1<| .cons aN<| .cons (⟨by kernel_rfl,aO,rfl⟩:some 1=some 1/\aC.storeCells h p (0+0) [J.aA]=some aK/\J.aL []=J.aL [])<| .nil
theorem YB(call:aE->List J->aa->ao)(p n:Nat)(s:List UInt8)(t:Bool)(h g:aa)(aZ:Nat)(bC:List UInt8)(bY:Bool)(aK:aa)
  (H1:call (.fn 51) [.fn 50 [.ptr p 0] []] h=ao.ret (.aL [.int .u64 (.ofNat aZ),.str bC,.bool bY]) aK)
  (ay:(!bY)=true):
  aw Tryz.prog Tryz.f24 none call [] (af.mk [(0,.ptr p 0)] [] .none h) (.ret)
   (af.mk [(2,.int .u64 (.ofNat 0))] [] .none aK):=
 aX [2] (hs:=[.v (.bool false),.b false,.c (.aL [.int .u64 (.ofNat aZ),.str bC,.bool bY]) aK,.b true]) (by kernel_rfl)<| .cons (by kernel_rfl:dr Tryz.prog h BinOp.eql 60 (Operand.tmp 6) (Operand.const (Value.pointer none)) (J.ptr p 0) J.bb=some (J.bool false))<| .cons (by kernel_rfl:false=false)<| .cons H1<| .cons ay<| .nil
theorem YC(call:aE->List J->aa->ao)(p n:Nat)(s:List UInt8)(t:Bool)(h g:aa)(aZ:Nat)(bC:List UInt8)(bY:Bool)(aK:aa)(de:List UInt8)(cd jJ Cn:aa)
  (H1:call (.fn 51) [.fn 50 [.ptr p 0] []] h=ao.ret (.aL [.int .u64 (.ofNat aZ),.str bC,.bool bY]) aK)
  (ay:(!bY)=false)
  (aN:call (.fn 52) [.str [],.int .u64 (.ofNat aZ)] aK=ao.ret (.str de) cd)
  (aO:(!cF de bC)=true)
  (bm:aC.storeCells cd p (0+0) [.aA]=some jJ)
  (bT:aC.storeCells jJ p (0+1) [.bool true]=some Cn):
  aw Tryz.prog Tryz.f24 none call [] (af.mk [(0,.ptr p 0)] [] .none h) (.ret)
   (af.mk [(2,.int .u64 (.ofNat 0))] [] .none Cn):=
 aX [2] (hs:=[.v (.bool false),.b false,.c (.aL [.int .u64 (.ofNat aZ),.str bC,.bool bY]) aK,.b false,.c (.str de) cd,.b true,.ft (.aL []) jJ,.ft (.aL []) Cn]) (by kernel_rfl)<| .cons (by kernel_rfl:dr Tryz.prog h BinOp.eql 60 (Operand.tmp 6) (Operand.const (Value.pointer none)) (J.ptr p 0) J.bb=some (J.bool false))<| .cons (by kernel_rfl:false=false)<| .cons H1<| .cons ay<| .cons aN<| .cons aO<| .cons (⟨by kernel_rfl,bm,rfl⟩:some 1=some 1/\aC.storeCells cd p (0+0) [J.aA]=some jJ/\J.aL []=J.aL [])<| .cons (⟨by kernel_rfl,bT,rfl⟩:some 1=some 1/\aC.storeCells jJ p (0+1) [J.bool true]=some Cn/\J.aL []=J.aL [])<| .nil
theorem YD(call:aE->List J->aa->ao)(p n:Nat)(s:List UInt8)(t:Bool)(h g:aa)(aZ:Nat)(bC:List UInt8)(bY:Bool)(aK:aa)(de:List UInt8)(cd:aa)
  (H1:call (.fn 51) [.fn 50 [.ptr p 0] []] h=ao.ret (.aL [.int .u64 (.ofNat aZ),.str bC,.bool bY]) aK)
  (ay:(!bY)=false)
  (aN:call (.fn 52) [.str [],.int .u64 (.ofNat aZ)] aK=ao.ret (.str de) cd)
  (aO:(!cF de bC)=false):
  aw Tryz.prog Tryz.f24 none call [] (af.mk [(0,.ptr p 0)] [] .none h) (.ret)
   (af.mk [(2,.int .u64 (.ofNat aZ))] [] .none cd):=
 aX [2] (hs:=[.v (.bool false),.b false,.c (.aL [.int .u64 (.ofNat aZ),.str bC,.bool bY]) aK,.b false,.c (.str de) cd,.b false]) (by kernel_rfl)<| .cons (by kernel_rfl:dr Tryz.prog h BinOp.eql 60 (Operand.tmp 6) (Operand.const (Value.pointer none)) (J.ptr p 0) J.bb=some (J.bool false))<| .cons (by kernel_rfl:false=false)<| .cons H1<| .cons ay<| .cons aN<| .cons aO<| .nil
theorem YE(call:aE->List J->aa->ao)(p n b o m:Nat)(aH:cE)(s:List UInt8)(t:Bool)(h g aq:aa)
  (H1:call (.fn 24) [.ptr p 0] h=ao.ret (.int .u64 (.ofNat n)) g)
  (ay:call (.fn 50) [.ptr p 0,.int .u64 (.ofNat n)] g=ao.ret (.aL [.slice b o m aH,.bool t]) aq)
  (aN:ec Tryz.prog 98 9 (J.slice b o m aH) aq=fc.val (J.str s) aq):
  aw Tryz.prog Tryz.f23 none call [] (af.mk [(0,.ptr p 0)] [] .none h) (.ret)
   (af.mk [(2,.str s)] [] .none aq):=
 aX [2] (hs:=[.c (.int .u64 (.ofNat n)) g,.v (.bool false),.b false,.c (.aL [.slice b o m aH,.bool t]) aq,.v (.str s)]) (by kernel_rfl)<| .cons H1<| .cons (by kernel_rfl:dr Tryz.prog g BinOp.eql 60 (Operand.tmp 8) (Operand.const (Value.pointer none)) (J.ptr p 0) J.bb=some (J.bool false))<| .cons (by kernel_rfl:false=false)<| .cons ay<| .cons aN<| .nil
theorem YF(call:aE->List J->aa->ao)(p n:Nat)(s:List UInt8)(t:Bool)(h g aq:aa)
  (H1:call (.fn 24) [.ptr p 0] h=ao.ret (.int .u64 (.ofNat n)) g)
  (ay:call (.fn 50) [.ptr p 0,.int .u64 (.ofNat n)] g=ao.ret (.aL [.aA,.bool t]) aq):
  aw Tryz.prog Tryz.f23 none call [] (af.mk [(0,.ptr p 0)] [] .none h) (.ret)
   (af.mk [(2,.str [])] [] .none aq):=
 aX [2] (hs:=[.c (.int .u64 (.ofNat n)) g,.v (.bool false),.b false,.c (.aL [.aA,.bool t]) aq,.v (.str [])]) (by kernel_rfl)<| .cons H1<| .cons (by kernel_rfl:dr Tryz.prog g BinOp.eql 60 (Operand.tmp 8) (Operand.const (Value.pointer none)) (J.ptr p 0) J.bb=some (J.bool false))<| .cons (by kernel_rfl:false=false)<| .cons ay<| .cons (by kernel_rfl:ec Tryz.prog 98 9 J.aA aq=fc.val (J.str []) aq)<| .nil
theorem tD(call:aE->List J->aa->ao)(p:Nat)(h:aa)(bY:Bool)
  (H1:av h p (0+1)=some (.bool bY)):
  aw Tryz.prog Tryz.f26 none call [] (af.mk [(0,.ptr p 0)] [] .none h) (.ret)
   (af.mk [(2,.bool !bY)] [] .none h):=
 aX [2] (hs:=[.v (.bool !false),.b true,.b true,.b true,.b true,.v (.bool bY),.b true,.b true]) (by kernel_rfl)<| .cons (by kernel_rfl:dr Tryz.prog h BinOp.neq 60 (Operand.tmp 3) (Operand.const (Value.pointer none)) (J.ptr p 0) J.bb=some (J.bool !false))<| .cons (by kernel_rfl:(!false)=true)<| .cons (by kernel_rfl:(!false)=true)<| .cons (by kernel_rfl:(!false)=true)<| .cons (by kernel_rfl:(!false)=true)<| .cons H1<| .cons (by kernel_rfl:(!false)=true)<| .cons (by kernel_rfl:(!false)=true)<| .nil
theorem MH(call:aE->List J->aa->ao)(p:Nat)(h:aa)(bY:Bool)(aK:aa)(aZ bP cY:Nat)(kp:cE)
  (H1:call (.fn 26) [.ptr p 0] h=ao.ret (.bool bY) aK)
  (ay:bY=true)
  (aN:av aK p (0+0)=some (.slice aZ bP cY kp)):
  aw Tryz.prog Tryz.f28 none call [] (af.mk [(0,.ptr p 0)] [] .none h) (.ret)
   (af.mk [(2,.bool (ba (.ofNat cY) (.ofNat 0)))] [] .none aK):=
 aX [2] (hs:=[.c (.bool bY) aK,.b true,.b true,.b true,.b true,.v (.slice aZ bP cY kp),.b true,.b true,.b true]) (by kernel_rfl)<| .cons H1<| .cons ay<| .cons ay<| .cons ay<| .cons ay<| .cons aN<| .cons ay<| .cons ay<| .cons ay<| .nil
theorem YG(call:aE->List J->aa->ao)(p:Nat)(h:aa)(bY:Bool)(aK:aa)
  (H1:call (.fn 26) [.ptr p 0] h=ao.ret (.bool bY) aK)
  (ay:bY=false):
  aw Tryz.prog Tryz.f28 none call [] (af.mk [(0,.ptr p 0)] [] .none h) (.ret)
   (af.mk [(2,.bool false)] [] .none aK):=
 aX [2] (hs:=[.c (.bool bY) aK,.b false,.b false,.b false,.b false,.b false,.b false,.b false]) (by kernel_rfl)<| .cons H1<| .cons ay<| .cons ay<| .cons ay<| .cons ay<| .cons ay<| .cons ay<| .cons ay<| .nil
theorem YH(call:aE->List J->aa->ao)(p:Nat)(h aK cd:aa)
  (H1:aC.storeCells h p (0+0) [.str []]=some aK)
  (ay:aC.storeCells aK p (0+1) [.bool true]=some cd):
  aw Tryz.prog Tryz.f57 none call [] (af.mk [(0,.ptr p 0)] [] .none h) (.ret)
   (af.mk [(2,.int .u64 (.ofNat 0))] [] .none cd):=
 aX [2] (hs:=[.ft (.aL []) aK,.ft (.aL []) cd]) (by kernel_rfl)<| .cons (⟨by kernel_rfl,H1,rfl⟩:some 1=some 1/\aC.storeCells h p (0+0) [J.str []]=some aK/\J.aL []=J.aL [])<| .cons (⟨by kernel_rfl,ay,rfl⟩:some 1=some 1/\aC.storeCells aK p (0+1) [J.bool true]=some cd/\J.aL []=J.aL [])<| .nil
theorem lw(call:aE->List J->aa->ao)(s:List UInt8)(n:Nat)(h g:aa)
  (H1:aw Tryz.prog Tryz.f58 none call [1,1,0,1,0] (af.mk [(4,.int .i64 (.ofNat 0)),(3,.int .u64 (.ofNat 0)),(2,.int .u64 (.ofNat 0)),(0,.str s)] [] .none h) (.exit 0) (af.mk [(3,.int .u64 (.ofNat n))] [] .none g)):
  aw Tryz.prog Tryz.f58 none call [] (af.mk [(0,.str s)] [] .none h) (.ret)
   (af.mk [(2,.int .u64 (.ofNat n))] [] .none g):=
 aX [2] (hs:=[Hint.loop (bA.exit 0) (af.mk [(3,J.int IntKind.u64 (Int.ofNat n))] [] bH.none g)]) (by kernel_rfl)<| .cons H1<| .nil
theorem YI(call:aE->List J->aa->ao)(s:List UInt8)(n i:Nat)(h:aa)(aZ bP cY dZ fo:Nat)
  (H1:br (.ofNat i) (.ofNat (List.length s))=true)
  (ay:arith .mul .u64 (.ofNat 256) (.ofNat n)=some (.int .u64 (.ofNat aZ)))
  (aN:g1 i s=some (.int .u8 (.ofNat bP)))
  (aO:ec Tryz.prog 5 65 (J.int IntKind.u8 (Int.ofNat bP)) h=fc.val (J.int IntKind.u64 (Int.ofNat cY)) h)
  (bm:arith .add .u64 (.ofNat aZ) (.ofNat cY)=some (.int .u64 (.ofNat dZ)))
  (bT:arith .add .i64 (.ofNat i) (.ofNat 1)=some (.int .i64 (.ofNat fo))):
  aw Tryz.prog Tryz.f58 none call [1,1,0,1,0,0] (af.mk [(0,.str s),(3,.int .u64 (.ofNat n)),(4,.int .i64 (.ofNat i))] [] .none h) (.nrm)
   (af.mk [(0,.str s),(3,.int .u64 (.ofNat dZ)),(4,.int .i64 (.ofNat fo))] [] .none h):=
 aX [0,3,4] (hs:=[.b true,.v (.int .u64 (.ofNat aZ)),.v (.int .u8 (.ofNat bP)),.v (.int .u64 (.ofNat cY)),.v (.int .u64 (.ofNat dZ)),.v (.int .i64 (.ofNat fo))]) (by kernel_rfl)<| .cons H1<| .cons ay<| .cons aN<| .cons aO<| .cons bm<| .cons bT<| .nil
theorem YJ(call:aE->List J->aa->ao)(s:List UInt8)(n i:Nat)(h:aa)
  (H1:br (.ofNat i) (.ofNat (List.length s))=false):
  aw Tryz.prog Tryz.f58 none call [1,1,0,1,0,0] (af.mk [(0,.str s),(3,.int .u64 (.ofNat n)),(4,.int .i64 (.ofNat i))] [] .none h) (.exit 0)
   (af.mk [(0,.str s),(3,.int .u64 (.ofNat n)),(4,.int .i64 (.ofNat i))] [] .none h):=
 aX [0,3,4] (hs:=[.b false]) (by kernel_rfl)<| .cons H1<| .nil
theorem YK(call:aE->List J->aa->ao)(p:Nat)(h:aa)(bY:Bool)
  (H1:av h p (0+1)=some (.bool bY)):
  aw Tryz.prog Tryz.f59 none call [] (af.mk [(0,.ptr p 0)] [] .none h) (.ret)
   (af.mk [(2,.bool !bY)] [] .none h):=
 aX [2] (hs:=[.v (.bool bY)]) (by kernel_rfl)<| .cons H1<| .nil
theorem YL(call:aE->List J->aa->ao)(p:Nat)(h:aa)(bY:Bool)(bC:List UInt8)
  (H1:av h p (0+1)=some (.bool bY))
  (ay:(!bY)=true)
  (aN:av h p (0+0)=some (.str bC)):
  aw Tryz.prog Tryz.f33 none call [] (af.mk [(0,.ptr p 0)] [] .none h) (.ret)
   (af.mk [(2,.bool (cF bC []))] [] .none h):=
 aX [2] (hs:=[.v (.bool bY),.b true,.b true,.b true,.b true,.v (.str bC),.b true,.b true]) (by kernel_rfl)<| .cons H1<| .cons ay<| .cons ay<| .cons ay<| .cons ay<| .cons aN<| .cons ay<| .cons ay<| .nil
theorem YM(call:aE->List J->aa->ao)(p:Nat)(h:aa)(bY:Bool)
  (H1:av h p (0+1)=some (.bool bY))
  (ay:(!bY)=false):
  aw Tryz.prog Tryz.f33 none call [] (af.mk [(0,.ptr p 0)] [] .none h) (.ret)
   (af.mk [(2,.bool false)] [] .none h):=
 aX [2] (hs:=[.v (.bool bY),.b false,.b false,.b false,.b false,.b false,.b false]) (by kernel_rfl)<| .cons H1<| .cons ay<| .cons ay<| .cons ay<| .cons ay<| .cons ay<| .cons ay<| .nil
theorem YN(call:aE->List J->aa->ao)(p:Nat)(h:aa)(aZ:Nat)(aK:aa)(bC:List UInt8)(bP cY:Nat)(cd:aa)
  (H1:call (.fn 31) [.ptr p 0] h=ao.ret (.int .u64 (.ofNat aZ)) aK)
  (ay:av aK p (0+0)=some (.str bC))
  (aN:ec Tryz.prog 3 65 (J.int IntKind.i64 (Int.ofNat (List.length bC))) aK=fc.val (J.int IntKind.u64 (Int.ofNat bP)) aK)
  (aO:br (.ofNat bP) (.ofNat aZ)=true)
  (bm:call (.fn 57) [.ptr p 0] aK=ao.ret (.int .u64 (.ofNat cY)) cd):
  aw Tryz.prog Tryz.f30 none call [] (af.mk [(0,.ptr p 0)] [] .none h) (.ret)
   (af.mk [(2,.str [])] [] .none cd):=
 aX [2] (hs:=[.c (.int .u64 (.ofNat aZ)) aK,.v (.str bC),.v (.int .u64 (.ofNat bP)),.b true,.c (.int .u64 (.ofNat cY)) cd]) (by kernel_rfl)<| .cons H1<| .cons ay<| .cons aN<| .cons aO<| .cons bm<| .nil
theorem YO(call:aE->List J->aa->ao)(p:Nat)(h:aa)(aZ:Nat)(aK:aa)(bC:List UInt8)(bP:Nat)(de gH:List UInt8)(cd:aa)
  (H1:call (.fn 31) [.ptr p 0] h=ao.ret (.int .u64 (.ofNat aZ)) aK)
  (ay:av aK p (0+0)=some (.str bC))
  (aN:ec Tryz.prog 3 65 (J.int IntKind.i64 (Int.ofNat (List.length bC))) aK=fc.val (J.int IntKind.u64 (Int.ofNat bP)) aK)
  (aO:br (.ofNat bP) (.ofNat aZ)=false)
  (bm:d_ Tryz.prog aK 9 (J.str bC) none (some (J.int IntKind.u64 (Int.ofNat aZ))) none=some (J.str de))
  (bT:d_ Tryz.prog aK 9 (J.str bC) (some (J.int IntKind.u64 (Int.ofNat aZ))) none none=some (J.str gH))
  (cA:aC.storeCells aK p (0+0) [.str gH]=some cd):
  aw Tryz.prog Tryz.f30 none call [] (af.mk [(0,.ptr p 0)] [] .none h) (.ret)
   (af.mk [(2,.str de)] [] .none cd):=
 aX [2] (hs:=[.c (.int .u64 (.ofNat aZ)) aK,.v (.str bC),.v (.int .u64 (.ofNat bP)),.b false,.v (.str bC),.v (.str de),.v (.str bC),.v (.str gH),.ft (.aL []) cd]) (by kernel_rfl)<| .cons H1<| .cons ay<| .cons aN<| .cons aO<| .cons ay<| .cons bm<| .cons ay<| .cons bT<| .cons (⟨by kernel_rfl,cA,rfl⟩:some 1=some 1/\aC.storeCells aK p (0+0) [J.str gH]=some cd/\J.aL []=J.aL [])<| .nil
theorem YP(call:aE->List J->aa->ao)(p:Nat)(h:aa):
  aw Tryz.prog Tryz.f31 none call [0] (af.mk [(0,.ptr p 0)] [] .none h) (.nrm)
   (af.mk [(0,.ptr p 0)] [] .none h):=
 aX [0] (hs:=[]) (by kernel_rfl)<| .nil
theorem YQ(call:aE->List J->aa->ao)(p:Nat)(h:aa)(bC:List UInt8)(aZ:Nat)(aK:aa)
  (H1:av h p (0+0)=some (.str bC))
  (ay:cF bC []=true)
  (aN:call (.fn 57) [.ptr p 0] h=ao.ret (.int .u64 (.ofNat aZ)) aK):
  aw Tryz.prog Tryz.f31 none call [1,0] (af.mk [(0,.ptr p 0)] [] .none h) (.ret)
   (af.mk [(0,.ptr p 0),(2,.int .u64 (.ofNat aZ))] [] .none aK):=
 aX [0,2] (hs:=[.v (.str bC),.b true,.c (.int .u64 (.ofNat aZ)) aK]) (by kernel_rfl)<| .cons H1<| .cons ay<| .cons aN<| .nil
theorem YR(call:aE->List J->aa->ao)(p:Nat)(h:aa)(bC:List UInt8)
  (H1:av h p (0+0)=some (.str bC))
  (ay:cF bC []=false):
  aw Tryz.prog Tryz.f31 none call [1,0] (af.mk [(0,.ptr p 0)] [] .none h) (.nrm)
   (af.mk [(0,.ptr p 0)] [] .none h):=
 aX [0,2] (hs:=[.v (.str bC),.b false]) (by kernel_rfl)<| .cons H1<| .cons ay<| .nil
theorem YS(call:aE->List J->aa->ao)(p:Nat)(h:aa)(bC:List UInt8)(aZ bP:Nat)
  (H1:av h p (0+0)=some (.str bC))
  (ay:g1 0 bC=some (.int .u8 (.ofNat aZ)))
  (aN:ec Tryz.prog 5 3 (J.int IntKind.u8 (Int.ofNat aZ)) h=fc.val (J.int IntKind.i64 (Int.ofNat bP)) h):
  aw Tryz.prog Tryz.f31 none call [1,1,0] (af.mk [(0,.ptr p 0)] [] .none h) (.nrm)
   (af.mk [(0,.ptr p 0),(3,.int .i64 (.ofNat bP))] [] .none h):=
 aX [0,3] (hs:=[.v (.str bC),.v (.int .u8 (.ofNat aZ)),.v (.int .i64 (.ofNat bP))]) (by kernel_rfl)<| .cons H1<| .cons ay<| .cons aN<| .nil
theorem YT(call:aE->List J->aa->ao)(p b:Nat)(h:aa):
  aw Tryz.prog Tryz.f31 none call [1,1,1,0] (af.mk [(0,.ptr p 0),(3,.int .i64 (.ofNat b))] [] .none h) (.nrm)
   (af.mk [(0,.ptr p 0),(3,.int .i64 (.ofNat b)),(4,.int .i64 (.ofNat 0))] [] .none h):=
 aX [0,3,4] (hs:=[]) (by kernel_rfl)<| .nil
theorem YU(call:aE->List J->aa->ao)(p b:Nat)(h:aa)(aZ:Nat)
  (H1:br (.ofNat 249) (.ofNat b)=true)
  (ay:arith .sub .i64 (.ofNat b) (.ofNat 247)=some (.int .i64 (.ofNat aZ))):
  aw Tryz.prog Tryz.f31 none call [1,1,1,1,0] (af.mk [(0,.ptr p 0),(3,.int .i64 (.ofNat b)),(4,.int .i64 (.ofNat 0))] [] .none h) (.nrm)
   (af.mk [(0,.ptr p 0),(3,.int .i64 (.ofNat b)),(4,.int .i64 (.ofNat aZ))] [] .none h):=
 aX [0,3,4] (hs:=[.b true,.v (.int .i64 (.ofNat aZ))]) (by kernel_rfl)<| .cons H1<| .cons ay<| .nil
theorem YV(call:aE->List J->aa->ao)(p b:Nat)(h:aa)
  (H1:br (.ofNat 249) (.ofNat b)=false)
  (ay:ba (.ofNat b) (.ofNat 249)=true):
  aw Tryz.prog Tryz.f31 none call [1,1,1,1,0] (af.mk [(0,.ptr p 0),(3,.int .i64 (.ofNat b)),(4,.int .i64 (.ofNat 0))] [] .none h) (.nrm)
   (af.mk [(0,.ptr p 0),(3,.int .i64 (.ofNat b)),(4,.int .i64 (.ofNat 2))] [] .none h):=
 aX [0,3,4] (hs:=[.b false,.b true]) (by kernel_rfl)<| .cons H1<| .cons ay<| .nil
theorem YW(call:aE->List J->aa->ao)(p b:Nat)(h:aa)
  (H1:br (.ofNat 249) (.ofNat b)=false)
  (ay:ba (.ofNat b) (.ofNat 249)=false)
  (aN:br (.ofNat 240) (.ofNat b)=true):
  aw Tryz.prog Tryz.f31 none call [1,1,1,1,0] (af.mk [(0,.ptr p 0),(3,.int .i64 (.ofNat b)),(4,.int .i64 (.ofNat 0))] [] .none h) (.nrm)
   (af.mk [(0,.ptr p 0),(3,.int .i64 (.ofNat b)),(4,.int .i64 (.ofNat 1))] [] .none h):=
 aX [0,3,4] (hs:=[.b false,.b false,.b true]) (by kernel_rfl)<| .cons H1<| .cons ay<| .cons aN<| .nil
theorem YX(call:aE->List J->aa->ao)(p b:Nat)(h:aa)
  (H1:br (.ofNat 249) (.ofNat b)=false)
  (ay:ba (.ofNat b) (.ofNat 249)=false)
  (aN:br (.ofNat 240) (.ofNat b)=false):
  aw Tryz.prog Tryz.f31 none call [1,1,1,1,0] (af.mk [(0,.ptr p 0),(3,.int .i64 (.ofNat b)),(4,.int .i64 (.ofNat 0))] [] .none h) (.nrm)
   (af.mk [(0,.ptr p 0),(3,.int .i64 (.ofNat b)),(4,.int .i64 (.ofNat 0))] [] .none h):=
 aX [0,3,4] (hs:=[.b false,.b false,.b false]) (by kernel_rfl)<| .cons H1<| .cons ay<| .cons aN<| .nil
theorem YY(call:aE->List J->aa->ao)(p b z:Nat)(h:aa)(bC:List UInt8)(aZ bP:Nat)(aK:aa)
  (H1:av h p (0+0)=some (.str bC))
  (ay:arith .add .i64 (.ofNat 1) (.ofNat z)=some (.int .i64 (.ofNat aZ)))
  (aN:br (.ofNat (List.length bC)) (.ofNat aZ)=true)
  (aO:call (.fn 57) [.ptr p 0] h=ao.ret (.int .u64 (.ofNat bP)) aK):
  aw Tryz.prog Tryz.f31 none call [1,1,1,1,1,0] (af.mk [(0,.ptr p 0),(3,.int .i64 (.ofNat b)),(4,.int .i64 (.ofNat z))] [] .none h) (.ret)
   (af.mk [(0,.ptr p 0),(2,.int .u64 (.ofNat bP)),(3,.int .i64 (.ofNat b)),(4,.int .i64 (.ofNat z))] [] .none aK):=
 aX [0,2,3,4] (hs:=[.v (.str bC),.v (.int .i64 (.ofNat aZ)),.b true,.c (.int .u64 (.ofNat bP)) aK]) (by kernel_rfl)<| .cons H1<| .cons ay<| .cons aN<| .cons aO<| .nil
theorem YZ(call:aE->List J->aa->ao)(p b z:Nat)(h:aa)(bC:List UInt8)(aZ:Nat)
  (H1:av h p (0+0)=some (.str bC))
  (ay:arith .add .i64 (.ofNat 1) (.ofNat z)=some (.int .i64 (.ofNat aZ)))
  (aN:br (.ofNat (List.length bC)) (.ofNat aZ)=false):
  aw Tryz.prog Tryz.f31 none call [1,1,1,1,1,0] (af.mk [(0,.ptr p 0),(3,.int .i64 (.ofNat b)),(4,.int .i64 (.ofNat z))] [] .none h) (.nrm)
   (af.mk [(0,.ptr p 0),(3,.int .i64 (.ofNat b)),(4,.int .i64 (.ofNat z))] [] .none h):=
 aX [0,2,3,4] (hs:=[.v (.str bC),.v (.int .i64 (.ofNat aZ)),.b false]) (by kernel_rfl)<| .cons H1<| .cons ay<| .cons aN<| .nil
theorem Y0(call:aE->List J->aa->ao)(p b z:Nat)(h:aa)(bC:List UInt8)(aZ:Nat)(de:List UInt8)(bP:Nat)(aK:aa)
  (H1:av h p (0+0)=some (.str bC))
  (ay:arith .add .i64 (.ofNat 1) (.ofNat z)=some (.int .i64 (.ofNat aZ)))
  (aN:d_ Tryz.prog h 9 (J.str bC) (some (J.int IntKind.i64 (Int.ofNat 1))) (some (J.int IntKind.i64 (Int.ofNat aZ))) none=some (J.str de))
  (aO:call (.fn 58) [.str de] h=ao.ret (.int .u64 (.ofNat bP)) aK):
  aw Tryz.prog Tryz.f31 none call [1,1,1,1,1,1,0] (af.mk [(0,.ptr p 0),(3,.int .i64 (.ofNat b)),(4,.int .i64 (.ofNat z))] [] .none h) (.nrm)
   (af.mk [(0,.ptr p 0),(3,.int .i64 (.ofNat b)),(4,.int .i64 (.ofNat z)),(5,.int .u64 (.ofNat bP))] [] .none aK):=
 aX [0,3,4,5] (hs:=[.v (.str bC),.v (.int .i64 (.ofNat aZ)),.v (.str de),.c (.int .u64 (.ofNat bP)) aK]) (by kernel_rfl)<| .cons H1<| .cons ay<| .cons aN<| .cons aO<| .nil
theorem Y1(call:aE->List J->aa->ao)(p b z n:Nat)(h:aa)(aZ:Nat)
  (H1:dq (.ofNat b) (.ofNat 240)=true)
  (ay:ec Tryz.prog 3 65 (J.int IntKind.i64 (Int.ofNat b)) h=fc.val (J.int IntKind.u64 (Int.ofNat aZ)) h):
  aw Tryz.prog Tryz.f31 none call [1,1,1,1,1,1,1,0] (af.mk [(0,.ptr p 0),(3,.int .i64 (.ofNat b)),(4,.int .i64 (.ofNat z)),(5,.int .u64 (.ofNat n))] [] .none h) (.nrm)
   (af.mk [(0,.ptr p 0),(4,.int .i64 (.ofNat z)),(5,.int .u64 (.ofNat aZ))] [] .none h):=
 aX [0,4,5] (hs:=[.b true,.v (.int .u64 (.ofNat aZ))]) (by kernel_rfl)<| .cons H1<| .cons ay<| .nil
theorem Y2(call:aE->List J->aa->ao)(p b z n:Nat)(h:aa)(aZ bP cY dZ fo:Nat)
  (H1:dq (.ofNat b) (.ofNat 240)=false)
  (ay:br (.ofNat b) (.ofNat 249)=true)
  (aN:arith .add .u64 (.ofNat n) (.ofNat 240)=some (.int .u64 (.ofNat aZ)))
  (aO:arith .sub .i64 (.ofNat b) (.ofNat 241)=some (.int .i64 (.ofNat bP)))
  (bm:ec Tryz.prog 3 65 (J.int IntKind.i64 (Int.ofNat bP)) h=fc.val (J.int IntKind.u64 (Int.ofNat cY)) h)
  (bT:arith .mul .u64 (.ofNat 256) (.ofNat cY)=some (.int .u64 (.ofNat dZ)))
  (cA:arith .add .u64 (.ofNat aZ) (.ofNat dZ)=some (.int .u64 (.ofNat fo))):
  aw Tryz.prog Tryz.f31 none call [1,1,1,1,1,1,1,0] (af.mk [(0,.ptr p 0),(3,.int .i64 (.ofNat b)),(4,.int .i64 (.ofNat z)),(5,.int .u64 (.ofNat n))] [] .none h) (.nrm)
   (af.mk [(0,.ptr p 0),(4,.int .i64 (.ofNat z)),(5,.int .u64 (.ofNat fo))] [] .none h):=
 aX [0,4,5] (hs:=[.b false,.b true,.v (.int .u64 (.ofNat aZ)),.v (.int .i64 (.ofNat bP)),.v (.int .u64 (.ofNat cY)),.v (.int .u64 (.ofNat dZ)),.v (.int .u64 (.ofNat fo))]) (by kernel_rfl)<| .cons H1<| .cons ay<| .cons aN<| .cons aO<| .cons bm<| .cons bT<| .cons cA<| .nil
theorem Y3(call:aE->List J->aa->ao)(p b z n:Nat)(h:aa)(aZ:Nat)
  (H1:dq (.ofNat b) (.ofNat 240)=false)
  (ay:br (.ofNat b) (.ofNat 249)=false)
  (aN:ba (.ofNat b) (.ofNat 249)=true)
  (aO:arith .add .u64 (.ofNat n) (.ofNat 2288)=some (.int .u64 (.ofNat aZ))):
  aw Tryz.prog Tryz.f31 none call [1,1,1,1,1,1,1,0] (af.mk [(0,.ptr p 0),(3,.int .i64 (.ofNat b)),(4,.int .i64 (.ofNat z)),(5,.int .u64 (.ofNat n))] [] .none h) (.nrm)
   (af.mk [(0,.ptr p 0),(4,.int .i64 (.ofNat z)),(5,.int .u64 (.ofNat aZ))] [] .none h):=
 aX [0,4,5] (hs:=[.b false,.b false,.b true,.v (.int .u64 (.ofNat aZ))]) (by kernel_rfl)<| .cons H1<| .cons ay<| .cons aN<| .cons aO<| .nil
theorem Y4(call:aE->List J->aa->ao)(p b z n:Nat)(h:aa)
  (H1:dq (.ofNat b) (.ofNat 240)=false)
  (ay:br (.ofNat b) (.ofNat 249)=false)
  (aN:ba (.ofNat b) (.ofNat 249)=false):
  aw Tryz.prog Tryz.f31 none call [1,1,1,1,1,1,1,0] (af.mk [(0,.ptr p 0),(3,.int .i64 (.ofNat b)),(4,.int .i64 (.ofNat z)),(5,.int .u64 (.ofNat n))] [] .none h) (.nrm)
   (af.mk [(0,.ptr p 0),(4,.int .i64 (.ofNat z)),(5,.int .u64 (.ofNat n))] [] .none h):=
 aX [0,4,5] (hs:=[.b false,.b false,.b false]) (by kernel_rfl)<| .cons H1<| .cons ay<| .cons aN<| .nil
theorem Y5(call:aE->List J->aa->ao)(p z n:Nat)(h:aa)(bC:List UInt8)(aK:aa)(de:List UInt8)(aZ:Nat)(gH:List UInt8)(bP:Nat)(cd:aa)
  (H1:call (.fn 44) [.str [],.int .u64 (.ofNat n)] (aa.room h 10)=ao.ret (.str bC) aK)
  (ay:av aK p (0+0)=some (.str de))
  (aN:arith .add .i64 (.ofNat 1) (.ofNat z)=some (.int .i64 (.ofNat aZ)))
  (aO:d_ Tryz.prog aK 9 (J.str de) none (some (J.int IntKind.i64 (Int.ofNat aZ))) none=some (J.str gH))
  (bm:av (aa.room h 10) p (0+0)=some (.str de))
  (bT:d_ Tryz.prog (aa.room h 10) 9 (J.str de) none (some (J.int IntKind.i64 (Int.ofNat aZ))) none=some (J.str gH))
  (cA:(!cF bC gH)=true)
  (ei:call (.fn 57) [.ptr p 0] aK=ao.ret (.int .u64 (.ofNat bP)) cd):
  aw Tryz.prog Tryz.f31 none call [1,1,1,1,1,1,1,1,0] (af.mk [(0,.ptr p 0),(4,.int .i64 (.ofNat z)),(5,.int .u64 (.ofNat n))] [] .none h) (.ret)
   (af.mk [(0,.ptr p 0),(2,.int .u64 (.ofNat bP)),(4,.int .i64 (.ofNat z)),(5,.int .u64 (.ofNat n))] [] .none cd):=
 aX [0,2,4,5] (hs:=[.c (.str bC) aK,.v (.str de),.v (.int .i64 (.ofNat aZ)),.v (.str gH),.b true,.c (.int .u64 (.ofNat bP)) cd]) (by kernel_rfl)<| .cons H1<| .cons ay<| .cons aN<| .cons aO<| .cons (by kernel_rfl:J.sound (J.int IntKind.u64 (Int.ofNat n))=true)<| .cons (by kernel_rfl:J.int IntKind.u64 (Int.ofNat n)=J.int IntKind.u64 (Int.ofNat n))<| .cons (by kernel_rfl:J.sound (J.ptr p 0)=true)<| .cons (by kernel_rfl:J.ptr p 0=J.ptr p 0)<| .cons (by kernel_rfl:J.sound (J.ptr p 0)=true)<| .cons (by kernel_rfl:J.ptr p 0=J.ptr p 0)<| .cons (by kernel_rfl:J.sound (J.ptr p 0)=true)<| .cons (by kernel_rfl:J.ptr p 0=J.ptr p 0)<| .cons (by kernel_rfl:J.sound (J.ptr p 0)=true)<| .cons (by kernel_rfl:J.ptr p 0=J.ptr p 0)<| .cons (by kernel_rfl:J.sound (J.ptr p (0+0))=true)<| .cons (by kernel_rfl:J.ptr p (0+0)=J.ptr p (0+0))<| .cons (by kernel_rfl:J.sound (J.ptr p (0+0))=true)<| .cons (by kernel_rfl:J.ptr p (0+0)=J.ptr p (0+0))<| .cons (by kernel_rfl:J.sound (J.str de)=true)<| .cons ay<| .cons (by kernel_rfl:J.sound (J.str de)=true)<| .cons bm<| .cons (by kernel_rfl:J.sound (J.int IntKind.i64 (Int.ofNat z))=true)<| .cons (by kernel_rfl:J.int IntKind.i64 (Int.ofNat z)=J.int IntKind.i64 (Int.ofNat z))<| .cons (by kernel_rfl:J.sound (J.int IntKind.i64 (Int.ofNat z))=true)<| .cons (by kernel_rfl:J.int IntKind.i64 (Int.ofNat z)=J.int IntKind.i64 (Int.ofNat z))<| .cons (by kernel_rfl:J.sound (J.int IntKind.i64 (Int.ofNat aZ))=true)<| .cons aN<| .cons (by kernel_rfl:J.sound (J.int IntKind.i64 (Int.ofNat aZ))=true)<| .cons aN<| .cons (by kernel_rfl:J.sound (J.str gH)=true)<| .cons aO<| .cons (by kernel_rfl:J.sound (J.str gH)=true)<| .cons bT<| .cons (by kernel_rfl:J.sound (J.bool !cF bC gH)=true)<| .cons (by kernel_rfl:(J.bool !cF bC gH)=J.bool !cF bC gH)<| .cons cA<| .cons ei<| .nil
theorem Y6(call:aE->List J->aa->ao)(p z n:Nat)(h:aa)(bC:List UInt8)(aK:aa)(de:List UInt8)(aZ:Nat)(gH:List UInt8)
  (H1:call (.fn 44) [.str [],.int .u64 (.ofNat n)] (aa.room h 10)=ao.ret (.str bC) aK)
  (ay:av aK p (0+0)=some (.str de))
  (aN:arith .add .i64 (.ofNat 1) (.ofNat z)=some (.int .i64 (.ofNat aZ)))
  (aO:d_ Tryz.prog aK 9 (J.str de) none (some (J.int IntKind.i64 (Int.ofNat aZ))) none=some (J.str gH))
  (bm:av (aa.room h 10) p (0+0)=some (.str de))
  (bT:d_ Tryz.prog (aa.room h 10) 9 (J.str de) none (some (J.int IntKind.i64 (Int.ofNat aZ))) none=some (J.str gH))
  (cA:(!cF bC gH)=false):
  aw Tryz.prog Tryz.f31 none call [1,1,1,1,1,1,1,1,0] (af.mk [(0,.ptr p 0),(4,.int .i64 (.ofNat z)),(5,.int .u64 (.ofNat n))] [] .none h) (.nrm)
   (af.mk [(0,.ptr p 0),(4,.int .i64 (.ofNat z)),(5,.int .u64 (.ofNat n))] [] .none aK):=
 aX [0,2,4,5] (hs:=[.c (.str bC) aK,.v (.str de),.v (.int .i64 (.ofNat aZ)),.v (.str gH),.b false]) (by kernel_rfl)<| .cons H1<| .cons ay<| .cons aN<| .cons aO<| .cons (by kernel_rfl:J.sound (J.int IntKind.u64 (Int.ofNat n))=true)<| .cons (by kernel_rfl:J.int IntKind.u64 (Int.ofNat n)=J.int IntKind.u64 (Int.ofNat n))<| .cons (by kernel_rfl:J.sound (J.ptr p 0)=true)<| .cons (by kernel_rfl:J.ptr p 0=J.ptr p 0)<| .cons (by kernel_rfl:J.sound (J.ptr p 0)=true)<| .cons (by kernel_rfl:J.ptr p 0=J.ptr p 0)<| .cons (by kernel_rfl:J.sound (J.ptr p 0)=true)<| .cons (by kernel_rfl:J.ptr p 0=J.ptr p 0)<| .cons (by kernel_rfl:J.sound (J.ptr p 0)=true)<| .cons (by kernel_rfl:J.ptr p 0=J.ptr p 0)<| .cons (by kernel_rfl:J.sound (J.ptr p (0+0))=true)<| .cons (by kernel_rfl:J.ptr p (0+0)=J.ptr p (0+0))<| .cons (by kernel_rfl:J.sound (J.ptr p (0+0))=true)<| .cons (by kernel_rfl:J.ptr p (0+0)=J.ptr p (0+0))<| .cons (by kernel_rfl:J.sound (J.str de)=true)<| .cons ay<| .cons (by kernel_rfl:J.sound (J.str de)=true)<| .cons bm<| .cons (by kernel_rfl:J.sound (J.int IntKind.i64 (Int.ofNat z))=true)<| .cons (by kernel_rfl:J.int IntKind.i64 (Int.ofNat z)=J.int IntKind.i64 (Int.ofNat z))<| .cons (by kernel_rfl:J.sound (J.int IntKind.i64 (Int.ofNat z))=true)<| .cons (by kernel_rfl:J.int IntKind.i64 (Int.ofNat z)=J.int IntKind.i64 (Int.ofNat z))<| .cons (by kernel_rfl:J.sound (J.int IntKind.i64 (Int.ofNat aZ))=true)<| .cons aN<| .cons (by kernel_rfl:J.sound (J.int IntKind.i64 (Int.ofNat aZ))=true)<| .cons aN<| .cons (by kernel_rfl:J.sound (J.str gH)=true)<| .cons aO<| .cons (by kernel_rfl:J.sound (J.str gH)=true)<| .cons bT<| .cons (by kernel_rfl:J.sound (J.bool !cF bC gH)=true)<| .cons (by kernel_rfl:(J.bool !cF bC gH)=J.bool !cF bC gH)<| .cons cA<| .nil
theorem Y7(call:aE->List J->aa->ao)(p z n:Nat)(h:aa)(bC:List UInt8)(aZ:Nat)(de:List UInt8)(aK:aa)
  (H1:av h p (0+0)=some (.str bC))
  (ay:arith .add .i64 (.ofNat 1) (.ofNat z)=some (.int .i64 (.ofNat aZ)))
  (aN:d_ Tryz.prog h 9 (J.str bC) (some (J.int IntKind.i64 (Int.ofNat aZ))) none none=some (J.str de))
  (aO:aC.storeCells h p (0+0) [.str de]=some aK):
  aw Tryz.prog Tryz.f31 none call [1,1,1,1,1,1,1,1,1] (af.mk [(0,.ptr p 0),(4,.int .i64 (.ofNat z)),(5,.int .u64 (.ofNat n))] [] .none h) (.ret)
   (af.mk [(2,.int .u64 (.ofNat n))] [] .none aK):=
 aX [2] (hs:=[.v (.str bC),.v (.int .i64 (.ofNat aZ)),.v (.str de),.ft (.aL []) aK]) (by kernel_rfl)<| .cons H1<| .cons ay<| .cons aN<| .cons (⟨by kernel_rfl,aO,rfl⟩:some 1=some 1/\aC.storeCells h p (0+0) [J.str de]=some aK/\J.aL []=J.aL [])<| .nil
theorem MI(call:aE->List J->aa->ao)(f:J)(h:aa):
  aw Tryz.prog Tryz.f51 none call [0] (af.mk [(0,f)] [] .none h) (.nrm)
   (af.mk [(0,f)] [] .none h):=
 aX [0] (hs:=[]) (by kernel_rfl)<| .nil
theorem Y8(call:aE->List J->aa->ao)(p b o m:Nat)(aH:cE)(t:Bool)(h g aK:aa)
  (H1:call (.fn 50) [.ptr p 0,.int .u64 (.ofNat 1)] h=ao.ret (.aL [.slice b o m aH,.bool t]) g)
  (ay:aC.storeCells (aa.push g (.cells [.aA] 98 .own 0 0)) (aa.n g) 0 [.slice b o m aH]=some aK):
  aw Tryz.prog Tryz.f51 none call [1,0] (af.mk [(0,.fn 50 [.ptr p 0] [])] [] .none h) (.nrm)
   (af.mk [(0,.fn 50 [.ptr p 0] []),(4,.bool t),(5,.ptr (aa.n g) 0)] [] .none aK):=
 aX [0,4,5] (hs:=[.c (.aL [.slice b o m aH,.bool t]) g,.ft (.aL []) aK]) (by kernel_rfl)<| .cons H1<| .cons (⟨by kernel_rfl,ay,rfl⟩:some 1=some 1/\aC.storeCells (aa.push g (cJ.cells [J.aA] 98 eE.own 0 0)) (aa.n g) 0 [J.slice b o m aH]=some aK/\J.aL []=J.aL [])<| .nil
theorem Y9(call:aE->List J->aa->ao)(p:Nat)(t:Bool)(h g aK:aa)
  (H1:call (.fn 50) [.ptr p 0,.int .u64 (.ofNat 1)] h=ao.ret (.aL [.aA,.bool t]) g)
  (ay:aC.storeCells (aa.push g (.cells [.aA] 98 .own 0 0)) (aa.n g) 0 [.aA]=some aK):
  aw Tryz.prog Tryz.f51 none call [1,0] (af.mk [(0,.fn 50 [.ptr p 0] [])] [] .none h) (.nrm)
   (af.mk [(0,.fn 50 [.ptr p 0] []),(4,.bool t),(5,.ptr (aa.n g) 0)] [] .none aK):=
 aX [0,4,5] (hs:=[.c (.aL [.aA,.bool t]) g,.ft (.aL []) aK]) (by kernel_rfl)<| .cons H1<| .cons (⟨by kernel_rfl,ay,rfl⟩:some 1=some 1/\aC.storeCells (aa.push g (cJ.cells [J.aA] 98 eE.own 0 0)) (aa.n g) 0 [J.aA]=some aK/\J.aL []=J.aL [])<| .nil
theorem Y_(call:aE->List J->aa->ao)(f a:J)(t:Bool)(h:aa)
  (H1:(!t)=true):
  aw Tryz.prog Tryz.f51 none call [1,1,0] (af.mk [(0,f),(4,.bool t),(5,a)] [] .none h) (.ret)
   (af.mk [(0,f),(2,.int .u64 (.ofNat 0)),(3,.str []),(4,.bool false),(5,a)] [] .none h):=
 aX [0,2,3,4,5] (hs:=[.b true]) (by kernel_rfl)<| .cons H1<| .nil
theorem Za(call:aE->List J->aa->ao)(f a:J)(t:Bool)(h:aa)
  (H1:(!t)=false):
  aw Tryz.prog Tryz.f51 none call [1,1,0] (af.mk [(0,f),(4,.bool t),(5,a)] [] .none h) (.nrm)
   (af.mk [(0,f),(4,.bool t),(5,a)] [] .none h):=
 aX [0,2,3,4,5] (hs:=[.b false]) (by kernel_rfl)<| .cons H1<| .nil
theorem Zb(call:aE->List J->aa->ao)(f a:J)(h aK:aa)
  (H1:aC.storeCells (aa.push h (.cells [.int .u64 (.ofNat 0),.int .u64 (.ofNat 0),.int .u8 (.ofNat 0),.int .i64 (.ofNat 0)] 120 .own 0 0)) (aa.n h) 0 [.int .u64 (.ofNat 0),.int .u64 (.ofNat 0),.int .u8 (.ofNat 0),.int .i64 (.ofNat 0)]=some aK):
  aw Tryz.prog Tryz.f51 none call [1,1,1,0] (af.mk [(0,f),(5,a)] [] .none h) (.nrm)
   (af.mk [(0,f),(5,a),(6,.ptr (aa.n h) 0)] [] .none aK):=
 aX [0,5,6] (hs:=[.ft (.aL []) aK]) (by kernel_rfl)<| .cons (⟨by kernel_rfl,H1,rfl⟩:some 4=some 4/\aC.storeCells (aa.push h (cJ.cells [J.int IntKind.u64 (Int.ofNat 0),J.int IntKind.u64 (Int.ofNat 0),J.int IntKind.u8 (Int.ofNat 0),J.int IntKind.i64 (Int.ofNat 0)] 120 eE.own 0 0)) (aa.n h) 0 [J.int IntKind.u64 (Int.ofNat 0),J.int IntKind.u64 (Int.ofNat 0),J.int IntKind.u8 (Int.ofNat 0),J.int IntKind.i64 (Int.ofNat 0)]=some aK/\J.aL []=J.aL [])<| .nil
theorem Zc(call:aE->List J->aa->ao)(f a b:J)(h:aa)(uT:J)(aK:aa)
  (H1:call (.fn 72) [] h=ao.ret uT aK):
  aw Tryz.prog Tryz.f51 none call [1,1,1,1,0,0] (af.mk [(0,f),(5,a),(6,b)] [] .none h) (.nrm)
   (af.mk [(0,f),(5,a),(6,b),(19,uT)] [] .none aK):=
 aX [0,5,6,19] (hs:=[.c uT aK]) (by kernel_rfl)<| .cons H1<| .nil
theorem Zd(call:aE->List J->aa->ao)(l a b:Nat)(x:List J)(h aK:aa)
  (H1:some 4=some (List.length x)/\aC.storeCells (aa.push h (cJ.cells [J.int IntKind.u64 (Int.ofNat 0),J.int IntKind.u64 (Int.ofNat 0),J.int IntKind.u8 (Int.ofNat 0),J.int IntKind.i64 (Int.ofNat 0)] 120 eE.own 0 0)) (aa.n h) 0 x=some aK/\J.aL []=J.aL []):
  aw Tryz.prog Tryz.f51 (some l) call [1,1,1,1,0,1,0,0] (af.mk [(20,.agg x),(5,.ptr a 0),(6,.ptr b 0)] [] .none h) (.nrm)
   (af.mk [(5,.ptr a 0),(6,.ptr b 0),(7,.ptr (aa.n h) 0)] [] .none aK):=
 aX [5,6,7] (hs:=[.ft (.aL []) aK]) (by kernel_rfl)<| .cons H1<| .nil
theorem Ze(call:aE->List J->aa->ao)(l a b c p o n:Nat)(aH:cE)(h:aa)(aZ bP:Nat)
  (H1:av (aa.room h 6) c (0+2)=some (.int .u8 (.ofNat aZ)))
  (ay:av (aa.room h 6) a 0=some (.slice p o n aH))
  (aN:Nat.le 1 n)
  (aO:av (aa.room h 6) p (o+0*1)=some (.int .u8 (.ofNat bP)))
  (bm:br (.ofNat bP) (.ofNat aZ)=true):
  aw Tryz.prog Tryz.f51 (some l) call [1,1,1,1,0,1,0,1] (af.mk [(5,.ptr a 0),(6,.ptr b 0),(7,.ptr c 0)] [] .none h) (.exit 0)
   (af.mk [] [] .none (aa.room h 6)):=
 aX [] (hs:=[.v (.int .u8 (.ofNat aZ)),.v (.slice p o n aH),.v (.ptr p (o+0*1)),.v (.int .u8 (.ofNat bP)),.b true]) (by kernel_rfl)<| .cons H1<| .cons ay<| .cons (⟨aN,rfl⟩:Nat.le 1 n/\J.ptr p (o+0*1)=J.ptr p (o+0*1))<| .cons aO<| .cons (by kernel_rfl:J.sound (J.ptr c (0+2))=true)<| .cons (by kernel_rfl:J.ptr c (0+2)=J.ptr c (0+2))<| .cons (by kernel_rfl:J.sound (J.int IntKind.u8 (Int.ofNat aZ))=true)<| .cons H1<| .cons (by kernel_rfl:J.sound (J.slice p o n aH)=true)<| .cons ay<| .cons (by kernel_rfl:J.sound (J.ptr p (o+0*1))=true)<| .cons (⟨aN,rfl⟩:Nat.le 1 n/\J.ptr p (o+0*1)=J.ptr p (o+0*1))<| .cons (by kernel_rfl:J.sound (J.int IntKind.u8 (Int.ofNat bP))=true)<| .cons aO<| .cons (by kernel_rfl:J.sound (J.bool (br (Int.ofNat bP) (Int.ofNat aZ)))=true)<| .cons (by kernel_rfl:J.bool (br (Int.ofNat bP) (Int.ofNat aZ))=J.bool (br (Int.ofNat bP) (Int.ofNat aZ)))<| .cons bm<| .nil
theorem Zf(call:aE->List J->aa->ao)(l a b c p o n:Nat)(aH:cE)(h:aa)(aZ bP cY dZ fo h0:Nat)(aK:aa)
  (H1:av (aa.room h 6) c (0+2)=some (.int .u8 (.ofNat aZ)))
  (ay:av (aa.room h 6) a 0=some (.slice p o n aH))
  (aN:Nat.le 1 n)
  (aO:av (aa.room h 6) p (o+0*1)=some (.int .u8 (.ofNat bP)))
  (bm:br (.ofNat bP) (.ofNat aZ)=false)
  (bT:aC.loadCells (aa.room h 6) c 0 4=some [.int .u64 (.ofNat cY),.int .u64 (.ofNat dZ),.int .u8 (.ofNat fo),.int .i64 (.ofNat h0)])
  (cA:aC.storeCells (aa.room h 6) b 0 [.int .u64 (.ofNat cY),.int .u64 (.ofNat dZ),.int .u8 (.ofNat fo),.int .i64 (.ofNat h0)]=some aK):
  aw Tryz.prog Tryz.f51 (some l) call [1,1,1,1,0,1,0,1] (af.mk [(5,.ptr a 0),(6,.ptr b 0),(7,.ptr c 0)] [] .none h) (.nrm)
   (af.mk [] [] .none aK):=
 aX [] (hs:=[.v (.int .u8 (.ofNat aZ)),.v (.slice p o n aH),.v (.ptr p (o+0*1)),.v (.int .u8 (.ofNat bP)),.b false,.v (.agg [.int .u64 (.ofNat cY),.int .u64 (.ofNat dZ),.int .u8 (.ofNat fo),.int .i64 (.ofNat h0)]),.ft (.aL []) aK]) (by kernel_rfl)<| .cons H1<| .cons ay<| .cons (⟨aN,rfl⟩:Nat.le 1 n/\J.ptr p (o+0*1)=J.ptr p (o+0*1))<| .cons aO<| .cons (by kernel_rfl:J.sound (J.ptr c (0+2))=true)<| .cons (by kernel_rfl:J.ptr c (0+2)=J.ptr c (0+2))<| .cons (by kernel_rfl:J.sound (J.int IntKind.u8 (Int.ofNat aZ))=true)<| .cons H1<| .cons (by kernel_rfl:J.sound (J.slice p o n aH)=true)<| .cons ay<| .cons (by kernel_rfl:J.sound (J.ptr p (o+0*1))=true)<| .cons (⟨aN,rfl⟩:Nat.le 1 n/\J.ptr p (o+0*1)=J.ptr p (o+0*1))<| .cons (by kernel_rfl:J.sound (J.int IntKind.u8 (Int.ofNat bP))=true)<| .cons aO<| .cons (by kernel_rfl:J.sound (J.bool (br (Int.ofNat bP) (Int.ofNat aZ)))=true)<| .cons (by kernel_rfl:J.bool (br (Int.ofNat bP) (Int.ofNat aZ))=J.bool (br (Int.ofNat bP) (Int.ofNat aZ)))<| .cons bm<| .cons bT<| .cons (⟨by kernel_rfl,cA,rfl⟩:some 4=some 4/\aC.storeCells (aa.room h 6) b 0 [J.int IntKind.u64 (Int.ofNat cY),J.int IntKind.u64 (Int.ofNat dZ),J.int IntKind.u8 (Int.ofNat fo),J.int IntKind.i64 (Int.ofNat h0)]=some aK/\J.aL []=J.aL [])<| .nil
theorem Zg(call:aE->List J->aa->ao)(p a b:Nat)(w:J)(t:Bool)(d:List bU)(h g:aa)(aZ bP:Nat)
  (H1:av h b (0+3)=some (.int .i64 (.ofNat aZ)))
  (ay:ec Tryz.prog 3 65 (J.int IntKind.i64 (Int.ofNat aZ)) h=fc.val (J.int IntKind.u64 (Int.ofNat bP)) h)
  (aN:call (.fn 50) [.ptr p 0,.int .u64 (.ofNat bP)] h=ao.ret (.aL [w,.bool t]) g):
  aw Tryz.prog Tryz.f51 none call [1,1,1,1,1,0] (af.mk [(0,.fn 50 [.ptr p 0] []),(5,.ptr a 0),(6,.ptr b 0)] d .none h) (.nrm)
   (af.mk [(4,.bool t),(5,.ptr a 0),(6,.ptr b 0),(8,w)] d .none g):=
 aX [4,5,6,8] (hs:=[.v (.int .i64 (.ofNat aZ)),.v (.int .u64 (.ofNat bP)),.c (.aL [w,.bool t]) g]) (by kernel_rfl)<| .cons H1<| .cons ay<| .cons aN<| .nil
theorem Zh(call:aE->List J->aa->ao)(a b w:J)(t:Bool)(d:List bU)(h:aa)
  (H1:(!t)=true):
  aw Tryz.prog Tryz.f51 none call [1,1,1,1,1,1,0] (af.mk [(4,.bool t),(5,a),(6,b),(8,w)] d .none h) (.ret)
   (af.mk [(2,.int .u64 (.ofNat 0)),(3,.str []),(4,.bool false),(5,a),(6,b),(8,w)] d .none h):=
 aX [2,3,4,5,6,8] (hs:=[.b true]) (by kernel_rfl)<| .cons H1<| .nil
theorem Zi(call:aE->List J->aa->ao)(a b w:J)(t:Bool)(d:List bU)(h:aa)
  (H1:(!t)=false):
  aw Tryz.prog Tryz.f51 none call [1,1,1,1,1,1,0] (af.mk [(4,.bool t),(5,a),(6,b),(8,w)] d .none h) (.nrm)
   (af.mk [(4,.bool t),(5,a),(6,b),(8,w)] d .none h):=
 aX [2,3,4,5,6,8] (hs:=[.b false]) (by kernel_rfl)<| .cons H1<| .nil
theorem Zj(call:aE->List J->aa->ao)(a b:Nat)(w:J)(d:List bU)(h:aa)(aZ bP cY:Nat)(kp:cE)(dZ fo h0 mr:Nat)
  (H1:av (aa.room h 8) a 0=some (.slice aZ bP cY kp))
  (ay:Nat.le 1 cY)
  (aN:av (aa.room h 8) aZ (bP+0*1)=some (.int .u8 (.ofNat dZ)))
  (aO:av (aa.room h 8) b (0+2)=some (.int .u8 (.ofNat fo)))
  (bm:arith .sub .u8 (.ofNat dZ) (.ofNat fo)=some (.int .u8 (.ofNat h0)))
  (bT:ec Tryz.prog 5 65 (J.int IntKind.u8 (Int.ofNat h0)) (aa.room h 8)=fc.val (J.int IntKind.u64 (Int.ofNat mr)) (aa.room h 8)):
  aw Tryz.prog Tryz.f51 none call [1,1,1,1,1,1,1,0] (af.mk [(5,.ptr a 0),(6,.ptr b 0),(8,w)] d .none h) (.nrm)
   (af.mk [(2,.int .u64 (.ofNat mr)),(5,.ptr a 0),(6,.ptr b 0),(8,w)] d .none (aa.room h 8)):=
 aX [2,5,6,8] (hs:=[.v (.slice aZ bP cY kp),.v (.ptr aZ (bP+0*1)),.v (.int .u8 (.ofNat dZ)),.v (.int .u8 (.ofNat fo)),.v (.int .u8 (.ofNat h0)),.v (.int .u64 (.ofNat mr))]) (by kernel_rfl)<| .cons H1<| .cons (⟨ay,rfl⟩:Nat.le 1 cY/\J.ptr aZ (bP+0*1)=J.ptr aZ (bP+0*1))<| .cons aN<| .cons aO<| .cons bm<| .cons bT<| .cons (by kernel_rfl:J.sound (J.slice aZ bP cY kp)=true)<| .cons H1<| .cons (by kernel_rfl:J.sound (J.ptr aZ (bP+0*1))=true)<| .cons (⟨ay,rfl⟩:Nat.le 1 cY/\J.ptr aZ (bP+0*1)=J.ptr aZ (bP+0*1))<| .cons (by kernel_rfl:J.sound (J.int IntKind.u8 (Int.ofNat dZ))=true)<| .cons aN<| .cons (by kernel_rfl:J.sound (J.ptr b (0+2))=true)<| .cons (by kernel_rfl:J.ptr b (0+2)=J.ptr b (0+2))<| .cons (by kernel_rfl:J.sound (J.int IntKind.u8 (Int.ofNat fo))=true)<| .cons aO<| .cons (by kernel_rfl:J.sound (J.int IntKind.u8 (Int.ofNat h0))=true)<| .cons bm<| .cons (by kernel_rfl:J.sound (J.int IntKind.u64 (Int.ofNat mr))=true)<| .cons bT<| .cons (by kernel_rfl:J.sound (J.int IntKind.u64 (Int.ofNat mr))=true)<| .cons (by kernel_rfl:J.int IntKind.u64 (Int.ofNat mr)=J.int IntKind.u64 (Int.ofNat mr))<| .nil
theorem Zk(call:aE->List J->aa->ao)(a b:J)(k c o n:Nat)(aH:cE)(d:List bU)(h:aa):
  aw Tryz.prog Tryz.f51 none call [1,1,1,1,1,1,1,1,0,0] (af.mk [(2,.int .u64 (.ofNat k)),(5,a),(6,b),(8,.slice c o n aH)] d .none h) (.nrm)
   (af.mk [(2,.int .u64 (.ofNat k)),(5,a),(6,b),(8,.slice c o n aH),(45,.slice c o n aH),(46,.int .i64 (.ofNat n)),(47,.int .i64 (.ofNat 0))] d .none h):=
 aX [2,5,6,8,45,46,47] (hs:=[]) (by kernel_rfl)<| .nil
theorem Zl(call:aE->List J->aa->ao)(a b w:J)(k c o n i:Nat)(aH:cE)(d:List bU)(h:aa)(aZ bP cY dZ fo:Nat)
  (H1:br (.ofNat i) (.ofNat n)=true)
  (ay:Nat.le (Nat.succ i) n)
  (aN:av h c (o+i*1)=some (.int .u8 (.ofNat aZ)))
  (aO:l8 .shl .u64 (.ofNat k) (.ofNat 8)=some (.int .u64 (.ofNat bP)))
  (bm:ec Tryz.prog 5 65 (J.int IntKind.u8 (Int.ofNat aZ)) h=fc.val (J.int IntKind.u64 (Int.ofNat cY)) h)
  (bT:arith .or .u64 (.ofNat bP) (.ofNat cY)=some (.int .u64 (.ofNat dZ)))
  (cA:arith .add .i64 (.ofNat i) (.ofNat 1)=some (.int .i64 (.ofNat fo))):
  aw Tryz.prog Tryz.f51 none call [1,1,1,1,1,1,1,1,0,1,0,0] (af.mk [(2,.int .u64 (.ofNat k)),(5,a),(6,b),(8,w),(45,.slice c o n aH),(46,.int .i64 (.ofNat n)),(47,.int .i64 (.ofNat i))] d .none h) (.nrm)
   (af.mk [(2,.int .u64 (.ofNat dZ)),(5,a),(6,b),(8,w),(45,.slice c o n aH),(46,.int .i64 (.ofNat n)),(47,.int .i64 (.ofNat fo))] d .none h):=
 aX [2,5,6,8,45,46,47] (hs:=[.b true,.v (.ptr c (o+i*1)),.v (.int .u8 (.ofNat aZ)),.v (.int .u64 (.ofNat bP)),.v (.int .u64 (.ofNat cY)),.v (.int .u64 (.ofNat dZ)),.v (.int .i64 (.ofNat fo))]) (by kernel_rfl)<| .cons H1<| .cons (⟨ay,rfl⟩:Nat.le (Nat.succ i) n/\J.ptr c (o+i*1)=J.ptr c (o+i*1))<| .cons aN<| .cons aO<| .cons bm<| .cons bT<| .cons cA<| .nil
theorem Zm(call:aE->List J->aa->ao)(a b w:J)(k c o n i:Nat)(aH:cE)(d:List bU)(h:aa)
  (H1:br (.ofNat i) (.ofNat n)=false):
  aw Tryz.prog Tryz.f51 none call [1,1,1,1,1,1,1,1,0,1,0,0] (af.mk [(2,.int .u64 (.ofNat k)),(5,a),(6,b),(8,w),(45,.slice c o n aH),(46,.int .i64 (.ofNat n)),(47,.int .i64 (.ofNat i))] d .none h) (.exit 2)
   (af.mk [(2,.int .u64 (.ofNat k)),(5,a),(6,b),(8,w),(45,.slice c o n aH),(46,.int .i64 (.ofNat n)),(47,.int .i64 (.ofNat i))] d .none h):=
 aX [2,5,6,8,45,46,47] (hs:=[.b false]) (by kernel_rfl)<| .cons H1<| .nil
theorem Zn(call:aE->List J->aa->ao)(a b k f c o n c2 dR bL:Nat)(aH dj:cE)(s t:List UInt8)(d:List bU)(h:aa)(aZ:Nat)(bC:List UInt8)
  (H1:av (aa.room h 12) b (0+0)=some (.int .u64 (.ofNat f)))
  (ay:arith .add .u64 (.ofNat k) (.ofNat f)=some (.int .u64 (.ofNat aZ)))
  (aN:av (aa.room h 12) a 0=some (.slice c2 dR bL dj))
  (aO:ec Tryz.prog 98 9 (J.slice c2 dR bL dj) (aa.room h 12)=fc.val (J.str s) (aa.room h 12))
  (bm:ec Tryz.prog 98 9 (J.slice c o n aH) (aa.room h 12)=fc.val (J.str t) (aa.room h 12))
  (bT:fA .add s t=some (.str bC)):
  aw Tryz.prog Tryz.f51 none call [1,1,1,1,1,1,1,1,1] (af.mk [(2,.int .u64 (.ofNat k)),(5,.ptr a 0),(6,.ptr b 0),(8,.slice c o n aH)] d .none h) (.ret)
   (af.mk [(2,.int .u64 (.ofNat aZ)),(3,.str bC),(4,.bool true)] d .none (aa.room h 12)):=
 aX [2,3,4] (hs:=[.v (.int .u64 (.ofNat f)),.v (.int .u64 (.ofNat aZ)),.v (.slice c2 dR bL dj),.v (.str s),.v (.str t),.v (.str bC)]) (by kernel_rfl)<| .cons H1<| .cons ay<| .cons aN<| .cons aO<| .cons bm<| .cons bT<| .cons (by kernel_rfl:J.sound (J.int IntKind.u64 (Int.ofNat k))=true)<| .cons (by kernel_rfl:J.int IntKind.u64 (Int.ofNat k)=J.int IntKind.u64 (Int.ofNat k))<| .cons (by kernel_rfl:J.sound (J.ptr b (0+0))=true)<| .cons (by kernel_rfl:J.ptr b (0+0)=J.ptr b (0+0))<| .cons (by kernel_rfl:J.sound (J.int IntKind.u64 (Int.ofNat f))=true)<| .cons H1<| .cons (by kernel_rfl:J.sound (J.int IntKind.u64 (Int.ofNat aZ))=true)<| .cons ay<| .cons (by kernel_rfl:J.sound (J.slice c2 dR bL dj)=true)<| .cons aN<| .cons (by kernel_rfl:J.sound (J.str s)=true)<| .cons aO<| .cons (by kernel_rfl:J.sound (J.slice c o n aH)=true)<| .cons (by kernel_rfl:J.slice c o n aH=J.slice c o n aH)<| .cons (by kernel_rfl:J.sound (J.str t)=true)<| .cons bm<| .cons (by kernel_rfl:J.sound (J.str bC)=true)<| .cons bT<| .cons (by kernel_rfl:J.sound (J.int IntKind.u64 (Int.ofNat aZ))=true)<| .cons (by kernel_rfl:J.int IntKind.u64 (Int.ofNat aZ)=J.int IntKind.u64 (Int.ofNat aZ))<| .cons (by kernel_rfl:J.sound (J.str bC)=true)<| .cons (by kernel_rfl:J.str bC=J.str bC)<| .cons (by kernel_rfl:J.sound (J.bool true)=true)<| .cons (by kernel_rfl:J.bool true=J.bool true)<| .nil
theorem MJ{i j:Nat}(h:i*j<18446744073709551616):arith BinOp.mul IntKind.u64 (Int.ofNat i) (Int.ofNat j)=some (J.int IntKind.u64 (Int.ofNat (i*j))):=by
 have h:=sq (i*j) h
 have e:Int.ofNat i*Int.ofNat j=((i*j:Nat):Int):=rfl
 simp only[arith,e,h];rfl
theorem Zo{n:Nat}(h:n*256<18446744073709551616):l8 BinOp.shl IntKind.u64 (Int.ofNat n) (Int.ofNat 8)=some (J.int IntKind.u64 (Int.ofNat (n*256))):=by
 have h:=sq (n*256) h
 have aF:(Int.ofNat 8).toNat=8:=rfl
 have aG:min 8 IntKind.u64.bits=8:=rfl
 have bJ:Int.ofNat n*2^8=((n*256:Nat):Int):=rfl
 have aM:¬(Int.ofNat 8<0):=by have:Int.ofNat 8=8:=rfl;omega
 simp only[l8,if_neg aM,aF,aG,bJ,h];rfl
theorem Zp{n c:Nat}(ai:c<256)(h:n*256+c<18446744073709551616):arith BinOp.or IntKind.u64 (Int.ofNat (n*256)) (Int.ofNat c)=some (J.int IntKind.u64 (Int.ofNat (n*256+c))):=by
 have hw:=sq (n*256+c) h
 have dc:IntKind.u64.bits=64:=rfl
 have key:(BitVec.ofInt 64 (Int.ofNat (n*256))|||BitVec.ofInt 64 (Int.ofNat c)).toNat=n*256+c:=by
  have aF:∀k:Nat,k<18446744073709551616->(BitVec.ofInt 64 (Int.ofNat k)).toNat=k:=λk ax=>by
   have:BitVec.ofInt 64 (Int.ofNat k)=BitVec.ofNat 64 k:=BitVec.ofInt_natCast 64 k
   rw[this,BitVec.toNat_ofNat];exact Nat.mod_eq_of_lt ax
  rw[BitVec.toNat_or,aF _ (by omega),aF _ (by omega)]
  have:=Nat.shiftLeft_add_eq_or_of_lt (i:=8) (b:=c) (by simpa using ai) n
  rw[Nat.shiftLeft_eq] at this
  exact this.symm
 show some (J.int .u64 (IntKind.wrap .u64 (((BitVec.ofInt 64 (Int.ofNat (n*256))|||BitVec.ofInt 64 (Int.ofNat c)).toNat:Nat):Int)))=_
 rw[key,hw];rfl
theorem Gl(n:Nat)(aM:n<256)(h:aa):ec Tryz.prog 5 65 (.int .u8 (Int.ofNat n)) h=.val (.int .u64 (Int.ofNat n)) h:=vZ rk Ch (sq n (by omega))
theorem Zq(n:Nat)(aM:n<256)(h:aa):ec Tryz.prog 5 3 (.int .u8 (Int.ofNat n)) h=.val (.int .i64 (Int.ofNat n)) h:=vZ rk Ci (rY n (by omega))
theorem wX:dQ Tryz.prog 5=some 1:=by kernel_rfl
theorem sH:∀s:List UInt8,cF s []=s.isEmpty
 |[]=>rfl
 |_::_=>rfl
theorem MK:∀(l:List UInt8) (j:Nat) (h:j<l.length),nth j (cK l)=some (.int .u8 (Int.ofNat (l[j]).toNat))
 |[],j,h=>by simp at h
 |x::l,0,h=>rfl
 |x::l,j+1,h=>by
  have:=MK l j (by simpa using h)
  simpa[cK,nth] using this
def db(h:aa)(p:Nat)(st:cf):Prop:=p<h.n/\(left st).length<=1000000/\h.get p=some (.cells [.str (left st),.bool st.isNone] 73 .own 0 0)
theorem db.mono{B p:Nat}{h an:aa}{st:cf}(al:db h p st)(e:Ext B h an)(b4:h.n<=B):db an p st:=
 ⟨Nat.lt_of_lt_of_le al.1 e.n,al.2.1,(e.get p (Nat.lt_of_lt_of_le al.1 b4)).trans al.2.2⟩
theorem Co(m p:Nat)(st:cf)(h:aa)(al:db h p st):∃an,C (m+1) (.fn 57) [.ptr p 0] h=.ret (.int .u64 (Int.ofNat 0)) an/\di p h.n h an/\db an p none:=by
 obtain⟨ab,ae,aB⟩:=al
 refine⟨_,dn (intr:=hB) (n:=m) (args:=[.ptr p 0]) Tryz.func57 (by kernel_rfl) rfl (by kernel_rfl) (YH _ _ _ _ _ (lT rfl rfl) (lT rfl rfl)) (.inl rfl) (by kernel_rfl),v3,by simpa using ab,by simp[left],dF rfl⟩
theorem ML(call:aE->List J->aa->ao)(s:List UInt8)(hs:s.length<=8)(h:aa):∀(q i n:Nat),s.length-i=q->i<=s.length->n<256^i->
  ev Tryz.prog Tryz.f58 none call [1,1,0,1,0] (q+1) ⟨[(0,.str s),(3,.int .u64 (Int.ofNat n)),(4,.int .i64 (Int.ofNat i))],[],.none,h⟩ (.exit 0) ⟨[(3,.int .u64 (Int.ofNat (gS n (s.drop i))))],[],.none,h⟩
 |0,i,n,aS,hi,aM=>by
  have aj:s.drop i=[]:=List.drop_eq_nil_of_le (by omega)
  rw[aj]
  exact .exit (cD.post (YJ _ _ _ _ _ (dY (by omega))) ⟨rfl,trivial⟩) (by simp)
 |q+1,i,n,aS,hi,aM=>by
  have fM:i<s.length:=by omega
  have ai:=(s[i]).toNat_lt
  have aU:256^(i+1)<=256^8:=Nat.pow_le_pow_right (by omega) (by omega)
  have kL:(256:Nat)^(i+1)=256^i*256:=Nat.pow_succ ..
  have ag:256*n+(s[i]).toNat<256^(i+1):=by omega
  rw[List.drop_eq_getElem_cons fM,gS,Nat.mul_comm n 256]
  exact .step (YI _ _ _ _ _ _ _ _ _ _ (du (by omega)) (MJ (by omega)) (nt fM) (Gl _ (by omega) h) (ue (by omega)) (kF (by omega))) (ML call s hs h q (i+1) _ (by omega) (by omega) ag)
theorem Zr(m:Nat)(s:List UInt8)(hs:s.length<=8)(h:aa):C (m+1) (.fn 58) [.str s] h=.ret (.int .u64 (Int.ofNat (gS 0 s))) h:=by
 have loop:=ev.run (p:=[1,1,0,1,0]) (by kernel_rfl) (ML (C m) s hs h s.length 0 0 rfl (by omega) (by simp)) (by omega)
 rw[List.drop_zero] at loop
 exact dn (intr:=hB) (n:=m) (args:=[.str s]) Tryz.func58 (by kernel_rfl) rfl (by kernel_rfl) (lw _ _ _ _ _ (cD.pre loop ⟨rfl,rfl,rfl,trivial⟩ rfl rfl rfl)) (.inl rfl) (by kernel_rfl)
theorem sQ(m p:Nat)(st:cf)(h:aa)(al:db h p st):C (m+1) (.fn 59) [.ptr p 0] h=.ret (.bool (!st.isNone)) h:=by
 obtain⟨ab,ae,aB⟩:=al
 exact dn (intr:=hB) (n:=m) (args:=[.ptr p 0]) Tryz.func59 (by kernel_rfl) rfl (by kernel_rfl) (YK _ _ _ _ (jH rfl)) (.inl rfl) (by kernel_rfl)
def jg:cf->Bool
 |none=>false
 |some s=>s.isEmpty
theorem Gm(m p:Nat)(st:cf)(h:aa)(al:db h p st):C (m+1) (.fn 33) [.ptr p 0] h=.ret (.bool (jg st)) h:=by
 obtain⟨ab,ae,aB⟩:=al
 cases st with
 |none=>exact dn (intr:=hB) (n:=m) (args:=[.ptr p 0]) Tryz.func33 (by kernel_rfl) rfl (by kernel_rfl) (YM _ _ _ _ (jH rfl) rfl) (.inl rfl) (by kernel_rfl)
 |some s=>
  have:=sH s
  rw[show jg (some s)=cF s [] from this.symm]
  exact dn (intr:=hB) (n:=m) (args:=[.ptr p 0]) Tryz.func33 (by kernel_rfl) rfl (by kernel_rfl) (YL _ _ _ _ _ (jH rfl) rfl (jH rfl)) (.inl rfl) (by kernel_rfl)
theorem Zs(call:aE->List J->aa->ao)(p b:Nat)(ag:b<256)(h:aa):aw Tryz.prog Tryz.f31 none call [1,1,1,1,0] ⟨[(0,.ptr p 0),(3,.int .i64 (Int.ofNat b)),(4,.int .i64 (Int.ofNat 0))],[],.none,h⟩ .nrm ⟨[(0,.ptr p 0),(3,.int .i64 (Int.ofNat b)),(4,.int .i64 (Int.ofNat (dV b)))],[],.none,h⟩:=by
 unfold dV
 by_cases ab:b<=240
 · rw[if_pos ab];exact(YX _ _ _ _ (dY (by omega)) (jX (by omega)) (dY (by omega)))
 · by_cases ae:b<=248
   · rw[if_neg ab,if_pos ae];exact(YW _ _ _ _ (dY (by omega)) (jX (by omega)) (du (by omega)))
   · by_cases aB:b=249
     · rw[if_neg ab,if_neg ae,if_pos aB];exact(YV _ _ _ _ (dY (by omega)) (nv (by omega)))
     · rw[if_neg ab,if_neg ae,if_neg aB];exact(YU _ _ _ _ _ (du (by omega)) (nu (by omega) (by omega)))
theorem Zt(call:aE->List J->aa->ao)(p b z:Nat)(t:List UInt8)(ag:b<256)(bh:t.length=dV b)(h:aa):aw Tryz.prog Tryz.f31 none call [1,1,1,1,1,1,1,0] ⟨[(0,.ptr p 0),(3,.int .i64 (Int.ofNat b)),(4,.int .i64 (Int.ofNat z)),(5,.int .u64 (Int.ofNat (gS 0 t)))],[],.none,h⟩ .nrm ⟨[(0,.ptr p 0),(4,.int .i64 (Int.ofNat z)),(5,.int .u64 (Int.ofNat (hM b t)))],[],.none,h⟩:=by
 have aJ:=zk b t ag bh
 unfold hM at aJ⊢
 by_cases ab:b<=240
 · rw[if_pos ab];exact(Y1 _ _ _ _ _ _ _ (iE (by omega)) (rl b (by omega) h))
 · by_cases ae:b<=248
   · rw[if_neg ab,if_pos ae] at*
     have e:gS 0 t+240+256*(b-241)=240+256*(b-241)+gS 0 t:=by omega
     rw[<-e]
     exact(Y2 _ _ _ _ _ _ _ _ _ _ _ (iF (by omega)) (du (by omega)) (ue (by omega)) (nu (by omega) (by omega)) (rl (b-241) (by omega) h) (MJ (by omega)) (ue (by omega)))
   · by_cases aB:b=249
     · rw[if_neg ab,if_neg ae,if_pos aB] at*
       rw[Nat.add_comm 2288]
       exact(Y3 _ _ _ _ _ _ _ (iF (by omega)) (dY (by omega)) (nv (by omega)) (ue (by omega)))
     · rw[if_neg ab,if_neg ae,if_neg aB];exact(Y4 _ _ _ _ _ _ (iF (by omega)) (dY (by omega)) (jX (by omega)))
theorem wY(m p:Nat)(st:cf)(h:aa)(al:db h p st):∃an,C (m+3) (.fn 31) [.ptr p 0] h=.ret (.int .u64 (Int.ofNat (aI st).1)) an/\di p h.n h an/\db an p (aI st).2:=by
 have fin:∀{Γ:Env} {an:aa} {v:J},aw Tryz.prog Tryz.f31 none (C (m+2)) [1] ⟨[(0,.ptr p 0)],[],.none,h⟩ .ret ⟨Γ,[],.none,an⟩->kE Tryz.prog (dt Tryz.f31) Tryz.f31 Γ an=some v->C (m+3) (.fn 31) [.ptr p 0] h=.ret v an:=λad hv=>
  dn (intr:=hB) (n:=m+2) (args:=[.ptr p 0]) Tryz.func31 (by kernel_rfl) rfl (by kernel_rfl) (aw.seq (p:=[]) (by kernel_rfl) (YP (C (m+2)) p h) ad) (.inl rfl) hv
 have MM:left st=[]->∃an,C (m+3) (.fn 31) [.ptr p 0] h=.ret (.int .u64 (Int.ofNat 0)) an/\di p h.n h an/\db an p none:=λe=>by
  obtain⟨g,c,x,r⟩:=Co (m+1) p st h al
  obtain⟨ab,ae,aB⟩:=al
  rw[e] at aB
  exact⟨g,fin (aw.fW (p:=[1]) (by kernel_rfl) (YQ _ _ _ _ _ _ (jH rfl) (rfl) (c)) (by simp)) (by kernel_rfl),x,r⟩
 cases st with
 |none=>exact MM rfl
 |some s=>
  cases s with
  |nil=>exact MM rfl
  |cons b t=>
   have oM:=al
   obtain⟨ab,ae,aB⟩:=al
   simp only[left,List.length_cons] at ae
   have qi:h.get p=some (.cells [.str (b::t),.bool false] 73 .own 0 0):=aB
   have ag:=b.toNat_lt
   have bj:=Mn b.toNat (by omega)
   have s1:aw Tryz.prog Tryz.f31 none (C (m+2)) [1,0] ⟨[(0,.ptr p 0)],[],.none,h⟩ .nrm ⟨[(0,.ptr p 0)],[],.none,h⟩:=(YR _ _ _ _ (jH rfl) (rfl))
   have s2:aw Tryz.prog Tryz.f31 none (C (m+2)) [1,1,0] ⟨[(0,.ptr p 0)],[],.none,h⟩ .nrm ⟨[(0,.ptr p 0),(3,.int .i64 (Int.ofNat b.toNat))],[],.none,h⟩:=(YS _ _ _ _ _ _ (jH rfl) (rfl) (Zq b.toNat (by omega) h))
   have ck:=YT (C (m+2)) p b.toNat h
   have b6:=Zs (C (m+2)) p b.toNat (by omega) h
   have front:∀{Γ:Env} {an:aa},aw Tryz.prog Tryz.f31 none (C (m+2)) [1,1,1,1,1] ⟨[(0,.ptr p 0),(3,.int .i64 (Int.ofNat b.toNat)),(4,.int .i64 (Int.ofNat (dV b.toNat)))],[],.none,h⟩ .ret ⟨Γ,[],.none,an⟩->aw Tryz.prog Tryz.f31 none (C (m+2)) [1] ⟨[(0,.ptr p 0)],[],.none,h⟩ .ret ⟨Γ,[],.none,an⟩:=λad=>
    aw.seq (p:=[1]) (by kernel_rfl) s1 (aw.seq (p:=[1,1]) (by kernel_rfl) s2 (aw.seq (p:=[1,1,1]) (by kernel_rfl) ck (aw.seq (p:=[1,1,1,1]) (by kernel_rfl) b6 ad)))
   by_cases hlen:t.length<dV b.toNat
   · have e:aI (some (b::t))=(0,none):=zl (by simp only[rdNum,if_pos hlen])
     rw[e]
     obtain⟨g,c,x,r⟩:=Co (m+1) p _ h oM
     exact⟨g,fin (front (aw.fW (p:=[1,1,1,1,1]) (by kernel_rfl) (YY _ _ _ _ _ _ _ _ _ (ar qi rfl) (kF (by omega)) (du (by simp;omega)) (c)) (by simp))) (by kernel_rfl),x,r⟩
   · obtain⟨u,hu⟩:∃u,u=t.take (dV b.toNat):=⟨_,rfl⟩
     have oP:u.length=dV b.toNat:=by rw[hu,List.length_take];omega
     have aJ:=zk b.toNat u (by omega) oP
     have cW:aw Tryz.prog Tryz.f31 none (C (m+2)) [1,1,1,1,1,0] ⟨[(0,.ptr p 0),(3,.int .i64 (Int.ofNat b.toNat)),(4,.int .i64 (Int.ofNat (dV b.toNat)))],[],.none,h⟩ .nrm ⟨[(0,.ptr p 0),(3,.int .i64 (Int.ofNat b.toNat)),(4,.int .i64 (Int.ofNat (dV b.toNat)))],[],.none,h⟩:=(YZ _ _ _ _ _ _ _ (ar qi rfl) (kF (by omega)) (dY (by simp;omega)))
     have Zu:d_ Tryz.prog h 9 (J.str (b::t)) (some (J.int IntKind.i64 (Int.ofNat 1))) (some (J.int IntKind.i64 (Int.ofNat (1+dV b.toNat)))) none=some (J.str u):=by
      have:=Su (P:=Tryz.prog) (h:=h) (t:=9) (s:=b::t) (lo:=1) (hi:=1+dV b.toNat) (k:=.i64) (k':=.i64) mn (by omega) (by simp;omega)
      rw[this,hu];congr 2;simp[Nat.add_sub_cancel_left]
     have dO:aw Tryz.prog Tryz.f31 none (C (m+2)) [1,1,1,1,1,1,0] ⟨[(0,.ptr p 0),(3,.int .i64 (Int.ofNat b.toNat)),(4,.int .i64 (Int.ofNat (dV b.toNat)))],[],.none,h⟩ .nrm ⟨[(0,.ptr p 0),(3,.int .i64 (Int.ofNat b.toNat)),(4,.int .i64 (Int.ofNat (dV b.toNat))),(5,.int .u64 (Int.ofNat (gS 0 u)))],[],.none,h⟩:=(Y0 _ _ _ _ _ _ _ _ _ _ (jH rfl) (kF (by omega)) (Zu) (Zr (m+1) u (by omega) h))
     have e2:=Zt (C (m+2)) p b.toNat (dV b.toNat) u (by omega) oP h
     have wG:=Mx (hM b.toNat u)
     obtain⟨g,c,x⟩:=Yl m (hM b.toNat u) [] (h.room 10) aJ (by simp)
     rw[List.nil_append] at c
     have x':Ext h.n h g:=(Ext.hW (Ext.refl _ _)).trans (by simp) x
     have rg:=oM.mono x' (Nat.le_refl _)
     have aQ:g.get p=some (.cells [.str (b::t),.bool false] 73 .own 0 0):=rg.2.2
     have Cp:∀ep:aa,d_ Tryz.prog ep 9 (J.str (b::t)) none (some (J.int IntKind.i64 (Int.ofNat (1+dV b.toNat)))) none=some (J.str (b::u)):=λep=>by
      have:=yu (P:=Tryz.prog) (h:=ep) (t:=9) (s:=b::t) (hi:=1+dV b.toNat) (k':=.i64) mn (by simp;omega)
      rw[this,hu,Nat.add_comm 1];rfl
     have Gn:∀ep:aa,d_ Tryz.prog ep 9 (J.str (b::t)) (some (J.int IntKind.i64 (Int.ofNat (1+dV b.toNat)))) none none=some (J.str (t.drop (dV b.toNat))):=λep=>by
      have:=EL (P:=Tryz.prog) (h:=ep) (t:=9) (s:=b::t) (lo:=1+dV b.toNat) (k:=.i64) mn (by simp;omega)
      rw[this,Nat.add_comm 1];rfl
     have mid:∀{Γ:Env} {an:aa},aw Tryz.prog Tryz.f31 none (C (m+2)) [1,1,1,1,1,1,1,1] ⟨[(0,.ptr p 0),(4,.int .i64 (Int.ofNat (dV b.toNat))),(5,.int .u64 (Int.ofNat (hM b.toNat u)))],[],.none,h⟩ .ret ⟨Γ,[],.none,an⟩->aw Tryz.prog Tryz.f31 none (C (m+2)) [1] ⟨[(0,.ptr p 0)],[],.none,h⟩ .ret ⟨Γ,[],.none,an⟩:=λad=>
      front (aw.seq (p:=[1,1,1,1,1]) (by kernel_rfl) cW (aw.seq (p:=[1,1,1,1,1,1]) (by kernel_rfl) dO (aw.seq (p:=[1,1,1,1,1,1,1]) (by kernel_rfl) e2 ad)))
     by_cases heq:e5 (hM b.toNat u)=b::u
     · have e:aI (some (b::t))=(hM b.toNat u,some (t.drop (dV b.toNat))):=Gb (by simp only[rdNum,if_neg hlen,<-hu,if_pos heq])
       rw[e]
       have ov:aw Tryz.prog Tryz.f31 none (C (m+2)) [1,1,1,1,1,1,1,1,0] ⟨[(0,.ptr p 0),(4,.int .i64 (Int.ofNat (dV b.toNat))),(5,.int .u64 (Int.ofNat (hM b.toNat u)))],[],.none,h⟩ .nrm ⟨[(0,.ptr p 0),(4,.int .i64 (Int.ofNat (dV b.toNat))),(5,.int .u64 (Int.ofNat (hM b.toNat u)))],[],.none,g⟩:=(Y6 _ _ _ _ _ _ _ _ _ _ (c) (jH rfl) (kF (by omega)) (Cp g) (jH rfl) (Cp _) ((by rw[heq,uf];rfl)))
       refine⟨g.set p (some (.cells [.str (t.drop (dV b.toNat)),.bool false] 73 .own 0 0)),fin (mid (aw.seq (p:=[1,1,1,1,1,1,1,1]) (by kernel_rfl) ov (Y7 _ _ _ _ _ _ _ _ _ (jH rfl) (kF (by omega)) (Gn g) (lT rfl rfl)))) (by kernel_rfl),?_,?_⟩
       · exact di.yz (x'.mg p)
       · exact⟨by simpa using rg.1,by simp[left];omega,dF rfl⟩
     · have e:aI (some (b::t))=(0,none):=zl (by simp only[rdNum,if_neg hlen,<-hu,if_neg heq])
       rw[e]
       obtain⟨ak,c2,bM,a9⟩:=Co (m+1) p _ g rg
       have eb:cF (e5 (hM b.toNat u)) (b::u)=false:=by
        cases aS:cF (e5 (hM b.toNat u)) (b::u) with
        |false=>rfl
        |true=>rw[oR] at aS;exact absurd (by simpa using aS) heq
       exact⟨ak,fin (mid (aw.fW (p:=[1,1,1,1,1,1,1,1]) (by kernel_rfl) (Y5 _ _ _ _ _ _ _ _ _ _ _ _ (c) (jH rfl) (kF (by omega)) (Cp g) (jH rfl) (Cp _) ((by rw[eb];rfl)) (c2)) (by simp))) (by kernel_rfl),(x'.mg p).trans x'.n bM,a9⟩
theorem Cq(m p:Nat)(st:cf)(h:aa)(al:db h p st):∃an,C (m+4) (.fn 30) [.ptr p 0] h=.ret (.str (ch st).1) an/\di p h.n h an/\db an p (ch st).2:=by
 obtain⟨g,c,x,r⟩:=wY m p st h al
 have cB:=zm st
 obtain⟨n,aM⟩:∃n,n=(aI st).1:=⟨_,rfl⟩
 obtain⟨dB,cL⟩:∃dB,dB=(aI st).2:=⟨_,rfl⟩
 have bh:ch st=fm n dB:=by rw[aM,cL];rfl
 rw[bh]
 rw[<-aM] at c cB
 rw[<-cL] at r
 have gw:=r
 obtain⟨bq,a9,ee⟩:=r
 have Zv:∀s:List UInt8,n<=s.length->d_ Tryz.prog g 9 (J.str s) none (some (J.int IntKind.u64 (Int.ofNat n))) none=some (J.str (s.take n)):=λs hs=>yu mn hs
 have Zw:∀s:List UInt8,n<=s.length->d_ Tryz.prog g 9 (J.str s) (some (J.int IntKind.u64 (Int.ofNat n))) none none=some (J.str (s.drop n)):=λs hs=>EL mn hs
 by_cases hle:n<=(left dB).length
 · refine⟨g.set p (some (.cells [.str ((left dB).drop n),.bool dB.isNone] 73 .own 0 0)),?_,di.yz x,?_⟩
   · have e:(fm n dB).1=(left dB).take n:=by
       cases dB with
       |none=>simp[fm,left]
       |some s=>rw[uR (s:=s) hle];rfl
     rw[e]
     exact dn (intr:=hB) (n:=m+3) (args:=[.ptr p 0]) Tryz.func30 (by kernel_rfl) rfl (by kernel_rfl) (YO _ _ _ _ _ _ _ _ _ _ (c) (jH rfl) (rl _ (by omega) g) (dY (by omega)) (Zv _ hle) (Zw _ hle) (lT rfl rfl)) (.inl rfl) (by kernel_rfl)
   · cases dB with
     |none=>exact⟨by simpa using bq,by simp[fm,left],by rw[dF rfl];simp[fm,left]⟩
     |some s=>rw[uR (s:=s) hle];exact⟨by simpa using bq,by simp only[left] at a9⊢;rw[List.length_drop];omega,dF rfl⟩
 · obtain⟨ak,c2,bM,Zx⟩:=Co (m+2) p dB g gw
   have e:fm n dB=([],none):=by
    cases dB with
    |none=>rfl
    |some s=>exact Cg (s:=s) hle
   rw[e]
   exact⟨ak,dn (intr:=hB) (n:=m+3) (args:=[.ptr p 0]) Tryz.func30 (by kernel_rfl) rfl (by kernel_rfl) (YN _ _ _ _ _ _ _ _ _ (c) (ar ee rfl) (rl _ (by omega) g) (du (by omega)) (c2)) (.inl rfl) (by kernel_rfl),x.trans x.n bM,Zx⟩
end Go.Proofs.df
namespace Go.Proofs.df
open Go aC Go.Proofs Go.Proofs.eN
set_option maxRecDepth 100000
set_option maxHeartbeats 1000000
def mu(h:aa)(p:Nat)(v:J)(s:List UInt8):Prop:=
 (s=[]/\∃b o,v=.slice b o 0 .dead)\/∃b pre,v=.slice b pre.length s.length (.a5 1)/\b<h.n/\b<p/\h.get b=some (.cells (cK (pre++s)) 5 .a5 0 0)
def cC(h:aa)(p:Nat):cf->Prop
 |none=>p<h.n/\h.get p=some (.cells [.aA,.bool true] 100 .own 0 0)
 |some s=>p<h.n/\s.length<=1000000/\∃v,h.get p=some (.cells [v,.bool false] 100 .own 0 0)/\mu h p v s
theorem cC.lt{h:aa}{p:Nat}{st:cf}(al:cC h p st):p<h.n:=by
 cases st with
 |none=>exact al.1
 |some s=>exact al.1
theorem cC.mono{B p:Nat}{h an:aa}{st:cf}(al:cC h p st)(e:Ext B h an)(b4:h.n<=B):cC an p st:=by
 have aU:=al.lt
 cases st with
 |none=>exact⟨Nat.lt_of_lt_of_le aU e.n,(e.get p (by omega)).trans al.2⟩
 |some s=>
  obtain⟨ab,ae,v,aB,aP⟩:=al
  refine⟨Nat.lt_of_lt_of_le aU e.n,ae,v,(e.get p (by omega)).trans aB,?_⟩
  rcases aP with aP|⟨b,pre,aY,aR,bW,eu⟩
  · exact .inl aP
  · exact .inr ⟨b,pre,aY,Nat.lt_of_lt_of_le aR e.n,bW,(e.get b (by omega)).trans eu⟩
def ow(h:aa)(p:Nat)(w:J)(t:List UInt8):Prop:=
 ∃b o aH,w=.slice b o t.length aH/\((t=[]/\aH=.dead)\/((∃k,aH=.exact k)/\b<h.n/\b≠p/\∃pre rest el,o=pre.length/\h.get b=some (.cells (cK (pre++(t++rest))) el .a5 0 0)))
theorem ow.Cr{B p:Nat}{h an:aa}{w:J}{t:List UInt8}(al:ow h p w t)(e:di p B h an)(b4:h.n<=B):ow an p w t:=by
 obtain⟨b,o,aH,ab,ae⟩:=al
 refine⟨b,o,aH,ab,?_⟩
 rcases ae with ae|⟨ae,aB,aP,pre,rest,el,cg,dN⟩
 · exact .inl ae
 · exact .inr ⟨ae,Nat.lt_of_lt_of_le aB e.n,aP,pre,rest,el,cg,(e.get b (by omega) aP).trans dN⟩
theorem Zy{h:aa}{b el lo up:Nat}{k:eE}{pre t rest:List UInt8}(au:h.get b=some (.cells (cK (pre++(t++rest))) el k lo up)):aC.loadCells h b pre.length t.length=some (cK t):=by
 have e:cK (pre++(t++rest))=cK pre++(cK t++cK rest):=by rw[vY,vY]
 simp only[aC.loadCells,au,e]
 have ab:=EO (cK pre) (cK t++cK rest)
 rw[o6] at ab
 rw[ab]
 exact Ka _ _ _ (o6 t)
theorem Zz{h:aa}{b el lo up:Nat}{k:eE}{pre t rest:List UInt8}(au:h.get b=some (.cells (cK (pre++(t++rest))) el k lo up)){i off:Nat}(hi:i<t.length)(a7:off=pre.length+i):av h b off=some (.int .u8 (Int.ofNat (t[i]).toNat)):=by
 have aD:pre.length+i<(pre++(t++rest)).length:=by simp;omega
 have:=MK (pre++(t++rest)) (pre.length+i) aD
 have e:(pre++(t++rest))[pre.length+i]=t[i]:=by
  rw[List.getElem_append_right (by omega)]
  simp only[Nat.add_sub_cancel_left]
  rw[List.getElem_append_left hi]
 rw[e] at this
 simp only[av,au,a7,this]
theorem ow.conv{h:aa}{p:Nat}{w:J}{t:List UInt8}(ag:ow h p w t):ec Tryz.prog 98 9 w h=.val (.str t) h:=by
 obtain⟨b,o,aH,rfl,ai⟩:=ag
 rcases ai with⟨rfl,rfl⟩|⟨⟨k,rfl⟩,_,_,pre,rest,el,rfl,au⟩
 · simp only[ec,oo,mn,rk];rfl
 · simp only[ec,oo,mn,rk,Zy au,Bv]
def kO:Nat->cf->Bool
 |k,none=>decide (k=0)
 |k,some s=>decide (k<=s.length)
theorem Gn{g:aa}{b o n k:Nat}(ax:k<=n):d_ Tryz.prog g 98 (.slice b o n (.a5 1)) none (some (.int .u64 (Int.ofNat k))) (some (.int .u64 (Int.ofNat k)))=some (.slice b o k (.exact k)):=by
 have fg:Nat.ble k n=true:=by simpa using ax
 have fe:Nat.ble k k=true:=by simp
 have tS:Nat.ble 0 k=true:=by simp
 simp only[d_,oo,wX,bounds,jM,gb,fg,fe,tS]
 simp
theorem ZA{g:aa}{b o n k:Nat}(ax:k<=n):d_ Tryz.prog g 98 (.slice b o n (.a5 1)) (some (.int .u64 (Int.ofNat k))) none none=some (if k<n\/k=0 then .slice b (o+k) (n-k) (.a5 1) else .slice b o 0 .dead):=by
 have fg:Nat.ble n n=true:=by simp
 have fe:Nat.ble k n=true:=by simpa using ax
 simp only[d_,oo,wX,bounds,jM,gb,fg,fe]
 by_cases az:k=0
 · subst az;simp
 · by_cases ab:k<n
   · have tS:Nat.blt k n=true:=by simpa[Nat.blt_eq] using ab
     simp[az,ab,tS]
   · have tS:Nat.blt k n=false:=by
       cases ad:Nat.blt k n with
       |false=>rfl
       |true=>rw[Nat.blt_eq] at ad;omega
     simp[az,ab,tS]
theorem mu.from{g:aa}{p k:Nat}{b:Nat}{pre s:List UInt8}(ax:k<=s.length)(ab:b<g.n)(ae:b<p)(au:g.get b=some (.cells (cK (pre++s)) 5 .a5 0 0)):mu g p (if k<s.length\/k=0 then .slice b (pre.length+k) (s.length-k) (.a5 1) else .slice b pre.length 0 .dead) (s.drop k):=by
 by_cases h:k<s.length\/k=0
 · rw[if_pos h]
   refine .inr ⟨b,pre++s.take k,by rw[List.length_append,List.length_take,List.length_drop,Nat.min_eq_left ax],ab,ae,?_⟩
   rw[List.append_assoc,List.take_append_drop];exact au
 · rw[if_neg h]
   exact .inl ⟨List.drop_eq_nil_of_le (by omega),b,pre.length,rfl⟩
theorem Gp(m p k:Nat)(st:cf)(h:aa)(al:cC h p st)(ax:k<18446744073709551616):
  ∃w an,C (m+1) (.fn 50) [.ptr p 0,.int .u64 (Int.ofNat k)] h=.ret (.aL [w,.bool (kO k st)]) an/\di p h.n h an/\cC an p (fm k st).2/\((w=.aA/\(fm k st).1=[]/\(st=none\/kO k st=false))\/ow an p w (fm k st).1):=by
 cases st with
 |none=>
  obtain⟨ab,ae⟩:=al
  by_cases az:k=0
  · subst az
    have ZB:d_ Tryz.prog h 98 .aA none (some (.int .u64 (Int.ofNat 0))) (some (.int .u64 (Int.ofNat 0)))=some .aA:=by simp only[d_,oo,wX];rfl
    have ZC:d_ Tryz.prog h 98 .aA (some (.int .u64 (Int.ofNat 0))) none none=some .aA:=by simp only[d_,oo,wX];rfl
    exact⟨.aA,_,dn (intr:=hB) (n:=m) (args:=[.ptr p 0,.int .u64 (Int.ofNat 0)]) Tryz.func50 (by kernel_rfl) rfl (by kernel_rfl) (ctz _ _ _ _ (jH rfl) (ZB) (ZC) (lT rfl rfl)) (.inl rfl) (by kernel_rfl),v3,⟨by simpa using ab,dF rfl⟩,.inl ⟨rfl,rfl,.inl rfl⟩⟩
  · rw[show kO k none=false by simp[kO,az]]
    exact⟨.aA,_,dn (intr:=hB) (n:=m) (args:=[.ptr p 0,.int .u64 (Int.ofNat k)]) Tryz.func50 (by kernel_rfl) rfl (by kernel_rfl) (YA _ _ _ _ _ _ (jH rfl) (du (by omega)) (lT rfl rfl) (lT rfl rfl)) (.inl rfl) (by kernel_rfl),v3,⟨by simpa using ab,dF rfl⟩,.inl ⟨rfl,rfl,.inl rfl⟩⟩
 |some s=>
  obtain⟨ab,ae,v,aB,aP⟩:=al
  by_cases hle:k<=s.length
  · rw[show kO k (some s)=true by simp[kO,hle],uR hle]
    rcases aP with⟨rfl,b,o,rfl⟩|⟨b,pre,rfl,aR,bW,eu⟩
    · obtain rfl:k=0:=by simpa using hle
      have ZD:d_ Tryz.prog h 98 (.slice b o 0 .dead) none (some (.int .u64 (Int.ofNat 0))) (some (.int .u64 (Int.ofNat 0)))=some (.slice b o 0 .dead):=by simp only[d_,oo,wX];rfl
      have ZE:d_ Tryz.prog h 98 (.slice b o 0 .dead) (some (.int .u64 (Int.ofNat 0))) none none=some (.slice b o 0 .dead):=by simp only[d_,oo,wX];rfl
      exact⟨.slice b o 0 .dead,_,dn (intr:=hB) (n:=m) (args:=[.ptr p 0,.int .u64 (Int.ofNat 0)]) Tryz.func50 (by kernel_rfl) rfl (by kernel_rfl) (MG _ _ _ _ _ _ _ _ _ _ _ _ _ _ _ _ _ _ (jH rfl) (rl 0 (by omega) h) (dY (by omega)) (ZD) (ZE) (lT rfl rfl)) (.inl rfl) (by kernel_rfl),v3,⟨by simpa using ab,by simp,_,dF rfl,.inl ⟨rfl,b,o,rfl⟩⟩,.inr ⟨b,o,.dead,rfl,.inl ⟨rfl,rfl⟩⟩⟩
    · have s1:=Gn (g:=h) (b:=b) (o:=pre.length) hle
      have s2:=ZA (g:=h) (b:=b) (o:=pre.length) hle
      have cB:(s.take k).length=k:=by rw[List.length_take];omega
      have body:∀aW dR bL c2,J.slice aW dR bL c2=(if k<s.length\/k=0 then .slice b (pre.length+k) (s.length-k) (.a5 1) else .slice b pre.length 0 .dead)->∃w an,C (m+1) (.fn 50) [.ptr p 0,.int .u64 (Int.ofNat k)] h=.ret (.aL [w,.bool true]) an/\di p h.n h an/\cC an p (some (s.drop k))/\((w=.aA/\s.take k=[]/\(some s=none\/true=false))\/ow an p w (s.take k)):=by
       intro aW dR bL c2 e
       rw[<-e] at s2
       have iu:(h.set p (some (.cells [.slice aW dR bL c2,.bool false] 100 .own 0 0))).get b=some (.cells (cK (pre++s)) 5 .a5 0 0):=et (Nat.ne_of_lt bW) eu
       refine⟨.slice b pre.length k (.exact k),_,dn (intr:=hB) (n:=m) (args:=[.ptr p 0,.int .u64 (Int.ofNat k)]) Tryz.func50 (by kernel_rfl) rfl (by kernel_rfl) (MG _ _ _ _ _ _ _ _ _ _ _ _ _ _ _ _ _ _ (jH rfl) (rl _ (by omega) h) (dY (by omega)) (s1) (s2) (lT rfl rfl)) (.inl rfl) (by kernel_rfl),v3,⟨by simpa using ab,by rw[List.length_drop];omega,_,dF rfl,?_⟩,.inr ⟨b,pre.length,.exact k,by rw[cB],.inr ⟨⟨k,rfl⟩,by simpa using aR,Nat.ne_of_lt bW,pre,s.drop k,_,rfl,by rw[List.take_append_drop];exact iu⟩⟩⟩
       have DZ:=mu.from hle (by simpa using aR) bW iu
       rw[<-e] at DZ
       exact DZ
      by_cases ai:k<s.length\/k=0
      · exact body _ _ _ _ (by rw[if_pos ai])
      · exact body _ _ _ _ (by rw[if_neg ai])
  · rw[show kO k (some s)=false by simp[kO,hle],Cg hle]
    have fin:∀b o c,v=.slice b o s.length c->∃w an,C (m+1) (.fn 50) [.ptr p 0,.int .u64 (Int.ofNat k)] h=.ret (.aL [w,.bool false]) an/\di p h.n h an/\cC an p none/\((w=.aA/\([]:List UInt8)=[]/\(some s=none\/false=false))\/ow an p w []):=by
     rintro b o c rfl
     exact⟨.aA,_,dn (intr:=hB) (n:=m) (args:=[.ptr p 0,.int .u64 (Int.ofNat k)]) Tryz.func50 (by kernel_rfl) rfl (by kernel_rfl) (Yz _ _ _ _ _ _ _ _ _ _ _ (ar aB rfl) (rl _ (by omega) h) (du (by omega)) (lT rfl rfl) (lT rfl rfl)) (.inl rfl) (by kernel_rfl),v3,⟨by simpa using ab,dF rfl⟩,.inl ⟨rfl,rfl,.inr rfl⟩⟩
    rcases aP with⟨rfl,b,o,rfl⟩|⟨b,pre,rfl,aR,bW,eu⟩
    · exact fin b o .dead rfl
    · exact fin b pre.length (.a5 1) rfl
theorem ZF(m:Nat)(s:List UInt8)(h:aa)(hs:s.length<=1000000):∃p an,C (m+1) (.fn 22) [.str s] h=.ret (.ptr p 0) an/\Ext h.n h an/\h.n<=p/\cC an p (some s):=by
 have g0:ec Tryz.prog 9 98 (.str s) h=.val (.slice h.n 0 s.length (.a5 1)) (h.push (.cells (cK s) 5 .a5 0 0)):=by simp only[ec,mn,oo,rk]
 refine⟨h.n+1,_,dn (intr:=hB) (n:=m) (args:=[.str s]) Tryz.func22 (by kernel_rfl) rfl (by kernel_rfl) (Yy _ _ _ _ _ _ _ _ (g0)) (.inl rfl) (by kernel_rfl),SG,by omega,⟨by simp,hs,_,eB (by simp),.inr ⟨h.n,[],rfl,by simp;omega,by omega,?_⟩⟩⟩
 exact hj (by simp) (eB rfl)
theorem Cs(m p:Nat)(st:cf)(h:aa)(al:cC h p st):C (m+1) (.fn 26) [.ptr p 0] h=.ret (.bool (!st.isNone)) h:=by
 cases st with
 |none=>obtain⟨ab,ae⟩:=al;exact dn (intr:=hB) (n:=m) (args:=[.ptr p 0]) Tryz.func26 (by kernel_rfl) rfl (by kernel_rfl) (tD _ _ _ _ (jH rfl)) (.inl rfl) (by kernel_rfl)
 |some s=>obtain⟨ab,ae,v,aB,aP⟩:=al;exact dn (intr:=hB) (n:=m) (args:=[.ptr p 0]) Tryz.func26 (by kernel_rfl) rfl (by kernel_rfl) (tD _ _ _ _ (jH rfl)) (.inl rfl) (by kernel_rfl)
theorem MN(m p:Nat)(st:cf)(h:aa)(al:cC h p st):C (m+2) (.fn 28) [.ptr p 0] h=.ret (.bool (jg st)) h:=by
 have ax:=Cs m p st h al
 cases st with
 |none=>exact dn (intr:=hB) (n:=m+1) (args:=[.ptr p 0]) Tryz.func28 (by kernel_rfl) rfl (by kernel_rfl) (YG _ _ _ _ _ (ax) rfl) (.inl rfl) (by kernel_rfl)
 |some s=>
  obtain⟨ab,ae,v,aB,aP⟩:=al
  have e:jg (some s)=ba (Int.ofNat s.length) (Int.ofNat 0):=by
   cases s with
   |nil=>rfl
   |cons a l=>show false=_;rw[jX (by simp)]
  rw[e]
  rcases aP with⟨rfl,b,o,rfl⟩|⟨b,pre,rfl,aR,bW,eu⟩
  · exact dn (intr:=hB) (n:=m+1) (args:=[.ptr p 0]) Tryz.func28 (by kernel_rfl) rfl (by kernel_rfl) (MH _ _ _ _ _ _ _ _ _ (ax) rfl (jH rfl)) (.inl rfl) (by kernel_rfl)
  · exact dn (intr:=hB) (n:=m+1) (args:=[.ptr p 0]) Tryz.func28 (by kernel_rfl) rfl (by kernel_rfl) (MH _ _ _ _ _ _ _ _ _ (ax) rfl (jH rfl)) (.inl rfl) (by kernel_rfl)
end Go.Proofs.df
namespace Go.Proofs.df
open Go aC Go.Proofs Go.Proofs.eN
set_option maxRecDepth 100000
set_option maxHeartbeats 1000000
def gh:Nat->Nat×Nat×Nat×Nat
 |0=>(0,240,0,0)
 |1=>(240,2287,241,1)
 |2=>(2288,67823,249,2)
 |k=>(0,256^k-1,247+k,k)
def iN:Nat->Nat
 |0=>0
 |1=>241
 |2=>249
 |k=>247+k
theorem MO(i:Nat)(h:3<=i):gh i=(0,256^i-1,247+i,i):=by
 match i,h with
 |k+3,_=>rfl
theorem ZG(i:Nat)(h:3<=i):iN i=247+i:=by
 match i,h with
 |k+3,_=>rfl
theorem MP:∀k,(gh k).2.2.1=iN k
 |0=>rfl
 |1=>rfl
 |2=>rfl
 |_+3=>rfl
def k_(b:Nat):Nat:=if b<=240 then 0 else if b<=248 then 1 else b-247
theorem Gq(a:Nat):∀t:List UInt8,gS a t=a*256^t.length+gS 0 t
 |[]=>by simp[gS]
 |c::t=>by
  rw[gS,Gq (a*256+c.toNat) t,gS,Gq (0*256+c.toNat) t,List.length_cons,Nat.pow_succ]
  simp only[Nat.zero_mul,Nat.zero_add,Nat.add_mul]
  rw[Nat.mul_assoc,Nat.mul_comm 256,Nat.add_assoc]
theorem ZH(b:Nat)(ag:b<256):iN (k_ b)<=b/\(gh (k_ b)).2.2.2=dV b/\(gh (k_ b)).1<=2288/\(∀u:List UInt8,u.length=dV b->gS (b-iN (k_ b)) u+(gh (k_ b)).1=hM b u)/\(b-iN (k_ b)+1)*256^dV b<=18446744073709551616:=by
 unfold k_ dV
 by_cases ab:b<=240
 · simp only[if_pos ab]
   refine⟨Nat.zero_le _,rfl,by simp[gh],λu hu=>?_,?_⟩
   · have:u=[]:=List.eq_nil_of_length_eq_zero hu
     subst this
     simp[gS,hM,ab,iN,gh]
   · simp[iN];omega
 · by_cases ae:b<=248
   · simp only[if_neg ab,if_pos ae]
     refine⟨by simp[iN];omega,rfl,by simp[gh],λu hu=>?_,?_⟩
     · rw[Gq,hu]
       simp only[hM,if_neg ab,if_pos ae,iN,gh];omega
     · simp only[iN];omega
   · by_cases aB:b=249
     · subst aB
       refine⟨by decide,rfl,by decide,λu hu=>?_,by decide⟩
       show gS 0 u+2288=2288+gS 0 u
       omega
     · simp only[if_neg ab,if_neg ae,if_neg aB]
       have ax:3<=b-247:=by omega
       have aU:256^(b-247)<=256^8:=Nat.pow_le_pow_right (by omega) (by omega)
       rw[MO _ ax,ZG _ ax]
       have e:b-(247+(b-247))=0:=by omega
       rw[e]
       refine⟨by omega,rfl,by simp,λu hu=>?_,by omega⟩
       simp only[hM,if_neg ab,if_neg ae,if_neg aB];rfl
theorem MQ(b k:Nat)(ag:b<256)(ax:k<9)(ab:iN k<=b)(ae:k<8->b<iN (k+1)):k=k_ b:=by
 unfold k_
 have:k=0\/k=1\/k=2\/k=3\/k=4\/k=5\/k=6\/k=7\/k=8:=by omega
 rcases this with rfl|rfl|rfl|rfl|rfl|rfl|rfl|rfl|rfl<;>simp only[iN] at ab ae<;>(try have ae:=ae (by omega))<;>(repeat' split)<;>omega
section
variable (m l:Nat) (I:Nat->aa->Prop) (Q:aa->Prop)
 (bu:∀k x,k<9->I k x->(∃x',C m (.ca l) [.agg (fH (gh k))] x=.ret (.bool true) x'/\I (k+1) x')\/(∃x',C m (.ca l) [.agg (fH (gh k))] x=.ret (.bool false) x'/\Q x'))
include bu
theorem MR:∀(k i:Nat) (x:aa),9-i=k->3<=i->i<=9->I i x->
  ∃e x',(e=.ret\/e=.exit 0)/\ev Tryz.prog Tryz.f89 none (C m) [1,1,0] (k+1) ⟨[(0,.ca l),(2,.int .i64 (Int.ofNat i))],[],.none,x⟩ e ⟨[],[],.none,x'⟩/\(I 9 x'\/Q x')
 |k,i,x,ax,aB,gz,ad=>by
  by_cases gl:i<=8
  · have hs:=My i aB gl
    have aU:0<256^i:=Nat.pow_pos (by omega)
    have kx:=Mu (247+i) x
    rw[Nat.mod_eq_of_lt (by omega)] at kx
    have ju:=yx .u64 (i:=18446744073709551615) (j:=8*(8-i)) (by show 8*(8-i)<=64;omega)
    rw[hs] at ju
    have bj:=bu i x (by omega) ad
    rw[MO i aB] at bj
    rcases bj with⟨x',c1,c2⟩|⟨x',c1,c2⟩
    · obtain⟨k,rfl⟩:∃j,k=j+1:=⟨k-1,by omega⟩
      obtain⟨e,bM,he,bK,bQ⟩:=MR k (i+1) x' (by omega) (by omega) (by omega) c2
      exact⟨e,bM,he,.step (Mt (C m) l i x _ _ _ _ _ true x' _ (iE gl) (nu gl (by omega)) (uc (by omega)) ju (kF (by omega)) kx c1 rfl (kF (by omega))) bK,bQ⟩
    · exact⟨.ret,x',.inl rfl,.exit (cD.post (Ms (C m) l i x _ _ _ _ _ false x' (iE gl) (nu gl (by omega)) (uc (by omega)) ju (kF (by omega)) kx c1 rfl) trivial) (by simp),.inr c2⟩
  · obtain rfl:i=9:=by omega
    exact⟨.exit 0,x,.inr rfl,.exit (cD.post (Yd (C m) l 9 x (iF gl)) trivial) (by simp),.inl ad⟩
theorem ZI(x:aa)(ad:I 0 x):∃x',C (m+1) (.fn 89) [.ca l] x=.ret (.aL []) x'/\(I 9 x'\/Q x'):=by
 have fin:∀{e:bA} {Γ:Env} {x':aa},(e=.ret\/e=.nrm)->aw Tryz.prog Tryz.f89 none (C m) [] ⟨[(0,.ca l)],[],.none,x⟩ e ⟨Γ,[],.none,x'⟩->C (m+1) (.fn 89) [.ca l] x=.ret (.aL []) x':=λhe al=>
  dn (intr:=hB) (n:=m) (args:=[.ca l]) Tryz.func89 (by kernel_rfl) rfl (by kernel_rfl) al he (by kernel_rfl)
 rcases bu 0 x (by omega) ad with⟨bw,c1,i1⟩|⟨bw,c1,aY⟩
 · rcases bu 1 bw (by omega) i1 with⟨bM,c2,i2⟩|⟨bM,c2,aR⟩
   · rcases bu 2 bM (by omega) i2 with⟨dT,c3,i3⟩|⟨dT,c3,bW⟩
     · obtain⟨e,kJ,he,bK,bQ⟩:=MR m l I Q bu 6 3 dT rfl (by omega) (by omega) i3
       have s1:=Mr (C m) l .nrm x x true bw true bM true dT c1 rfl c2 rfl c3 rfl
       have gr:=ev.run (p:=[1,1,0]) (by kernel_rfl) bK (by omega)
       refine⟨kJ,?_,bQ⟩
       rcases he with rfl|rfl
       · exact fin (.inl rfl) (aw.seq (p:=[]) (by kernel_rfl) s1 (aw.seq (p:=[1]) (by kernel_rfl) (Ge (C m) l dT) (aw.o5 (p:=[1,1]) (id:=0) (by kernel_rfl) gr (by simp))))
       · exact fin (.inr rfl) (aw.seq (p:=[]) (by kernel_rfl) s1 (aw.seq (p:=[1]) (by kernel_rfl) (Ge (C m) l dT) (aw.block (p:=[1,1]) (id:=0) (by kernel_rfl) gr)))
     · exact⟨dT,fin (.inl rfl) (aw.fW (p:=[]) (by kernel_rfl) (Mq (C m) l .nrm x x true bw true bM false dT c1 rfl c2 rfl c3 rfl) (by simp)),.inr bW⟩
   · exact⟨bM,fin (.inl rfl) (aw.fW (p:=[]) (by kernel_rfl) (Mp (C m) l .nrm x x true bw false bM c1 rfl c2 rfl) (by simp)),.inr aR⟩
 · exact⟨bw,fin (.inl rfl) (aw.fW (p:=[]) (by kernel_rfl) (Mo (C m) l .nrm x x false bw c1 rfl) (by simp)),.inr aY⟩
end
noncomputable def qv:Code:=sub (fO Tryz.f51) [1,1,1,1,0,1,0,0]
noncomputable def rm:Code:=sub (fO Tryz.f51) [1,1,1,1,0,1,0,1]
def Gr:Nat->List J
 |0=>[.int .u64 (Int.ofNat 0),.int .u64 (Int.ofNat 0),.int .u8 (Int.ofNat 0),.int .i64 (Int.ofNat 0)]
 |k+1=>fH (gh k)
structure Ct(B N iC hQ:Nat)(j0:cE)(h:aa)(r:a0)(k:Nat)(x:aa):Prop where
 row:x.get N=some (.cells [.slice iC hQ 1 j0] 98 .own 0 0)
 out:x.get (N+1)=some (.cells (Gr k) 120 .own 0 0)
 j8:x.get (N+2)=some (.defrd (some []))
 pe:x.get (N+3)=some (.loop .ready none (dt Tryz.f51) r [20] qv rm (N+2))
 ext:Ext N h x
 o2:N+4<=x.n
 all:∀j,j<k->iN j<=B
structure MS(B N iC hQ:Nat)(j0:cE)(h:aa)(r:a0)(x:aa):Prop where
 row:x.get N=some (.cells [.slice iC hQ 1 j0] 98 .own 0 0)
 out:∃k,k<8/\iN k<=B/\B<iN (k+1)/\x.get (N+1)=some (.cells (fH (gh k)) 120 .own 0 0)
 j8:x.get (N+2)=some (.defrd (some []))
 pe:x.get (N+3)=some (.loop .done (some (.exit 0)) (dt Tryz.f51) r [20] qv rm (N+2))
 ext:Ext N h x
 o2:N+4<=x.n
theorem ZJ(k:Nat):∃a b c d,Gr k=[a,b,c,d]:=by
 cases k with
 |zero=>exact⟨_,_,_,_,rfl⟩
 |succ k=>exact⟨_,_,_,_,rfl⟩
theorem ZK(m B N iC hQ:Nat)(j0:cE)(h:aa)(r:a0)(hm:aC.Mod r [(5,.ptr N 0),(6,.ptr (N+1) 0)])(iG:∀x:aa,Ext N h x->av x iC (hQ+0*1)=some (.int .u8 (Int.ofNat B)))(k:Nat)(x:aa)(ax:k<9)(hi:Ct B N iC hQ j0 h r k x):
  (∃x',C (m+1) (.ca (N+3)) [.agg (fH (gh k))] x=.ret (.bool true) x'/\Ct B N iC hQ j0 h r (k+1) x')\/(∃x',C (m+1) (.ca (N+3)) [.agg (fH (gh k))] x=.ret (.bool false) x'/\MS B N iC hQ j0 h r x'):=by
 obtain⟨Gh,tg,Gg,uV,p4,tO,gm⟩:=hi
 have bu:C (m+1) (.ca (N+3)) [.agg (fH (gh k))] x=oI Tryz.prog (C m) (N+3) [.agg (fH (gh k))] x:=rfl
 obtain⟨dG,eJ,h8,lx,MT⟩:=ZJ k
 let bw:=(x.push (.cells [.int .u64 (Int.ofNat 0),.int .u64 (Int.ofNat 0),.int .u8 (Int.ofNat 0),.int .i64 (Int.ofNat 0)] 120 .own 0 0)).set x.n (some (.cells (fH (gh k)) 120 .own 0 0))
 have s1:=wW (c1:=.int .u64 (Int.ofNat (gh k).1)) (c2:=.int .u64 (Int.ofNat (gh k).2.1)) (c3:=.int .u8 (Int.ofNat (gh k).2.2.1)) (c4:=.int .i64 (Int.ofNat (gh k).2.2.2)) rfl rfl rfl rfl (by rw[aa.e6,if_pos rfl]:(x.push (.cells [.int .u64 (Int.ofNat 0),.int .u64 (Int.ofNat 0),.int .u8 (Int.ofNat 0),.int .i64 (Int.ofNat 0)] 120 .own 0 0)).get x.n=_)
 have dH:∀j,j<x.n->bw.get j=x.get j:=λj aV=>by simp only[bw];rw[aa.bV,if_neg (by omega),aa.e6,if_neg (by omega)]
 have has:cD Tryz.prog (dt Tryz.f51) (some (N+3)) (C m) qv ⟨put 20 (.agg (fH (gh k))) [(5,.ptr N 0),(6,.ptr (N+1) 0)],[],.none,x⟩ .nrm ⟨[(5,.ptr N 0),(6,.ptr (N+1) 0),(7,.ptr x.n 0)],[],.none,bw⟩:=
  cD.pre (st1:=⟨put 20 (.agg (fH (gh k))) [(5,.ptr N 0),(6,.ptr (N+1) 0)],[],.none,x⟩) (Zd (C m) (N+3) N (N+1) (fH (gh k)) x bw ⟨rfl,s1,rfl⟩) ⟨rfl,rfl,rfl,trivial⟩ rfl rfl rfl
 have bK:bw.get (N+3)=some (.loop .ready none (dt Tryz.f51) r [20] qv rm (N+2)):=(dH _ (by omega)).trans uV
 let bM:=bw.set (N+3) (some (.loop .busy none (dt Tryz.f51) r [20] qv rm (N+2)))
 have gc:bM.get x.n=some (.cells (fH (gh k)) 120 .own 0 0):=by simp only[bM,bw];rw[aa.bV,if_neg (by omega),aa.bV,if_pos rfl]
 have iu:bM.get (N+1)=some (.cells [dG,eJ,h8,lx] 120 .own 0 0):=by simp only[bM];rw[aa.bV,if_neg (by omega),dH _ (by omega),<-MT];exact tg
 have jF:bM.get N=some (.cells [.slice iC hQ 1 j0] 98 .own 0 0):=by simp only[bM];rw[aa.bV,if_neg (by omega),dH _ (by omega)];exact Gh
 have gd:bM.get (N+2)=some (.defrd (some [])):=by simp only[bM];rw[aa.bV,if_neg (by omega),dH _ (by omega)];exact Gg
 have MU:bM.get (N+3)=some (.loop .busy none (dt Tryz.f51) r [20] qv rm (N+2)):=by simp only[bM];rw[aa.bV,if_pos rfl]
 have ex:Ext N h bM:=(((p4.trans (Nat.le_refl _) (Ext.push (by omega) _)).trans (Nat.le_refl _) (Ext.set (by omega) _)).trans (Nat.le_refl _) (Ext.set (by omega) _))
 have vr:bM.n=x.n+1:=rfl
 have hf:av (bM.room 6) x.n (0+2)=some (.int .u8 (Int.ofNat (iN k))):=by rw[<-MP];exact ar (eH gc) rfl
 have al:av (bM.room 6) N 0=some (.slice iC hQ 1 j0):=ar (eH jF) rfl
 have ag:av (bM.room 6) iC (hQ+0*1)=some (.int .u8 (Int.ofNat B)):=iG _ (Ext.hW ex)
 by_cases cB:B<iN k
 · right
   have MV:k≠0:=λe=>by subst e;simp[iN] at cB
   have cr:=Ze (C m) (N+3) N (N+1) x.n iC hQ 1 j0 bM (iN k) B hf al (Nat.le_refl _) ag (du cB)
   have uW:=By uV hm has bK (cD.pre (st1:=⟨[(5,.ptr N 0),(6,.ptr (N+1) 0),(7,.ptr x.n 0)],[],.none,bM⟩) cr ⟨rfl,rfl,rfl,trivial⟩ rfl rfl rfl) (eH MU)
   obtain⟨j,rfl⟩:∃j,k=j+1:=⟨k-1,by omega⟩
   refine⟨_,bu.trans uW,⟨?_,⟨j,by omega,gm j (by omega),cB,?_⟩,?_,?_,(Ext.hW ex).trans (Nat.le_refl _) (Ext.set (by omega) _),by simp[vr];omega⟩⟩
   · rw[aa.bV,if_neg (by omega)];exact eH jF
   · rw[aa.bV,if_neg (by omega),show fH (gh j)=Gr (j+1) from rfl,MT];exact eH iu
   · rw[aa.bV,if_neg (by omega)];exact eH gd
   · rw[aa.bV,if_pos rfl]
 · left
   have s2:=wW (c1:=.int .u64 (Int.ofNat (gh k).1)) (c2:=.int .u64 (Int.ofNat (gh k).2.1)) (c3:=.int .u8 (Int.ofNat (gh k).2.2.1)) (c4:=.int .i64 (Int.ofNat (gh k).2.2.2)) rfl rfl rfl rfl (eH (k:=6) iu)
   have cr:=Zf (C m) (N+3) N (N+1) x.n iC hQ 1 j0 bM (iN k) B (gh k).1 (gh k).2.1 (gh k).2.2.1 (gh k).2.2.2 _ hf al (Nat.le_refl _) ag (dY cB) (zn rfl (eH gc)) s2
   have jy:((bM.room 6).set (N+1) (some (.cells (fH (gh k)) 120 .own 0 0))).get (N+3)=some (.loop .busy none (dt Tryz.f51) r [20] qv rm (N+2)):=by rw[aa.bV,if_neg (by omega)];exact eH MU
   have uW:=By uV hm has bK (cD.pre (st1:=⟨[(5,.ptr N 0),(6,.ptr (N+1) 0),(7,.ptr x.n 0)],[],.none,bM⟩) cr ⟨rfl,rfl,rfl,trivial⟩ rfl rfl rfl) jy
   refine⟨_,bu.trans uW,⟨?_,?_,?_,?_,((Ext.hW ex).trans (Nat.le_refl _) (Ext.set (by omega) _)).trans (Nat.le_refl _) (Ext.set (by omega) _),by simp[vr];omega,λj aV=>?_⟩⟩
   · rw[aa.bV,if_neg (by omega),aa.bV,if_neg (by omega)];exact eH jF
   · rw[aa.bV,if_neg (by omega),aa.bV,if_pos rfl];rfl
   · rw[aa.bV,if_neg (by omega),aa.bV,if_neg (by omega)];exact eH gd
   · rw[aa.bV,if_pos rfl]
   · by_cases e:j=k
     · subst e;omega
     · exact gm j (by omega)
theorem MW(call:aE->List J->aa->ao)(a b w:J)(c o:Nat)(aH:cE)(u:List UInt8)(K:Nat)(eg:K*256^u.length<=18446744073709551616)(hu:u.length<=8)(d:List bU)(h:aa)(aD:∀i (hi:i<u.length),av h c (o+i*1)=some (.int .u8 (Int.ofNat (u[i]).toNat))):∀(q i n:Nat),u.length-i=q->i<=u.length->n<K*256^i->
  ev Tryz.prog Tryz.f51 none call [1,1,1,1,1,1,1,1,0,1,0] (q+1) ⟨[(2,.int .u64 (Int.ofNat n)),(5,a),(6,b),(8,w),(45,.slice c o u.length aH),(46,.int .i64 (Int.ofNat u.length)),(47,.int .i64 (Int.ofNat i))],d,.none,h⟩ (.exit 2) ⟨[(2,.int .u64 (Int.ofNat (gS n (u.drop i)))),(5,a),(6,b),(8,w)],d,.none,h⟩
 |0,i,n,aS,hi,aM=>by
  have aj:u.drop i=[]:=List.drop_eq_nil_of_le (by omega)
  rw[aj]
  exact .exit (cD.post (Zm _ _ _ _ _ _ _ _ _ _ _ _ (dY (by omega))) ⟨rfl,rfl,rfl,rfl,trivial⟩) (by simp)
 |q+1,i,n,aS,hi,aM=>by
  have fM:i<u.length:=by omega
  have ai:=(u[i]).toNat_lt
  have kL:K*256^(i+1)=K*256^i*256:=by rw[Nat.pow_succ,Nat.mul_assoc]
  have ag:n*256+(u[i]).toNat<K*256^(i+1):=by omega
  have hle:K*256^(i+1)<=K*256^u.length:=Nat.mul_le_mul_left _ (Nat.pow_le_pow_right (by omega) (by omega))
  rw[List.drop_eq_getElem_cons fM,gS]
  exact .step (Zl _ _ _ _ _ _ _ _ _ _ _ _ _ _ _ _ _ (du (by omega)) (by show(_:Nat)<=_;omega) (aD i fM) (Zo (by omega)) (Gl _ (by omega) h) (Zp (by omega) (by omega)) (kF (by omega))) (MW call a b w c o aH u K eg hu d h aD q (i+1) _ (by omega) (by omega) ag)
theorem ZL{i j:Nat}(aV:j<=i)(h:i<256):arith BinOp.sub IntKind.u8 (Int.ofNat i) (Int.ofNat j)=some (J.int IntKind.u8 (Int.ofNat (i-j))):=by
 have h:=wrap_u8 (i-j)
 rw[Nat.mod_eq_of_lt (by omega)] at h
 have e:Int.ofNat i-Int.ofNat j=((i-j:Nat):Int):=by
  have aF:Int.ofNat i=(i:Int):=rfl
  have aG:Int.ofNat j=(j:Int):=rfl
  rw[aF,aG];omega
 simp only[arith,e,h];rfl
def la:cf->Nat×List UInt8×Bool
 |some (b::t)=>if t.length<dV b.toNat then(0,[],false) else(hM b.toNat (t.take (dV b.toNat)),b::t.take (dV b.toNat),true)
 |_=>(0,[],false)
def nJ:cf->cf
 |some (b::t)=>if t.length<dV b.toNat then none else some (t.drop (dV b.toNat))
 |_=>none
end Go.Proofs.df
namespace Go.Proofs.df
open Go aC Go.Proofs Go.Proofs.eN
set_option maxRecDepth 100000
set_option maxHeartbeats 1000000
theorem MX{P:Program}{call:aE->List J->aa->ao}{fn:Func}{r:a0}{D:Nat}{q:bH}{y:aa}{v:J}(gd:y.get D=some (.defrd (some [])))(hv:pG P (dt fn) fn r (y.set D (some (.defrd none)))=some v):kT P call fn (.ok .ret r [.collected D] q y)=.ret v (y.set D (some (.defrd none))):=by
 simp only[kT,kb,gd,List.nil_append,hv]
theorem cC.set{h:aa}{p D:Nat}{st:cf}{o:Option cJ}{x:Option (List bU)}(al:cC h p st)(MY:h.get D=some (.defrd x)):cC (h.set D o) p st:=by
 have ne:∀{b:Nat} {cs:List J} {el lo up:Nat} {k:eE},h.get b=some (.cells cs el k lo up)->¬b=D:=λag e=>by subst e;rw[ag] at MY;cases MY
 cases st with
 |none=>obtain⟨ab,ae⟩:=al;exact⟨by simpa using ab,et (ne ae) ae⟩
 |some s=>
  obtain⟨ab,ae,v,aB,aP⟩:=al
  refine⟨by simpa using ab,ae,v,et (ne aB) aB,?_⟩
  rcases aP with aP|⟨b,pre,aY,aR,bW,eu⟩
  · exact .inl aP
  · exact .inr ⟨b,pre,aY,by simpa using aR,bW,et (ne eu) eu⟩
theorem ow.load{h:aa}{p b o:Nat}{aH:cE}{t:List UInt8}{n:Nat}(ag:ow h p (.slice b o n aH) t):n=t.length/\∀i (hi:i<t.length),av h b (o+i*1)=some (.int .u8 (Int.ofNat (t[i]).toNat)):=by
 obtain⟨pP,o',acI,e,ai⟩:=ag
 cases e
 refine⟨rfl,λi hi=>?_⟩
 rcases ai with⟨rfl,_⟩|⟨_,_,_,pre,rest,el,rfl,au⟩
 · simp at hi
 · exact Zz au hi (by omega)
theorem ZM(m p:Nat)(st:cf)(h:aa)(al:cC h p st):∃an,C (m+4) (.fn 51) [.fn 50 [.ptr p 0] []] h=.ret (.aL [.int .u64 (Int.ofNat (la st).1),.str (la st).2.1,.bool (la st).2.2]) an/\di p h.n h an/\cC an p (nJ st):=by
 obtain⟨w,g,c1,bw,h1,uX⟩:=Gp (m+2) p 1 st h al (by omega)
 have acJ:p<g.n:=h1.lt
 have acK:p<h.n:=al.lt
 obtain⟨G,eS⟩:∃G,G=(g.push (.cells [.aA] 98 .own 0 0)).set g.n (some (.cells [w] 98 .own 0 0)):=⟨_,rfl⟩
 have Gs:Ext g.n g G:=by rw[eS];exact Ext.fP (Nat.le_refl _) (Ext.k0 (Nat.le_refl _) (Ext.refl _ _))
 have nK:G.n=g.n+1:=by rw[eS];rfl
 have s1:aw Tryz.prog Tryz.f51 none (C (m+3)) [1,0] ⟨[(0,.fn 50 [.ptr p 0] [])],[],.none,h⟩ .nrm ⟨[(0,.fn 50 [.ptr p 0] []),(4,.bool (kO 1 st)),(5,.ptr g.n 0)],[],.none,G⟩:=by
  rw[eS]
  rcases uX with⟨rfl,_⟩|⟨b,o,aH,rfl,_⟩
  · exact(Y9 _ _ _ _ _ _ (c1) (lT rfl rfl))
  · exact(Y8 _ _ _ _ _ _ _ _ _ _ (c1) (lT rfl rfl))
 have fail:la st=(0,[],false)->nJ st=none->kO 1 st=false->(fm 1 st).2=none->∃an,C (m+4) (.fn 51) [.fn 50 [.ptr p 0] []] h=.ret (.aL [.int .u64 (Int.ofNat (la st).1),.str (la st).2.1,.bool (la st).2.2]) an/\di p h.n h an/\cC an p (nJ st):=by
  intro aF aG bJ dh
  rw[aF,aG]
  rw[bJ] at s1
  rw[dh] at h1
  exact⟨G,dn (intr:=hB) (n:=m+3) (args:=[.fn 50 [.ptr p 0] []]) Tryz.func51 (by kernel_rfl) rfl (by kernel_rfl) (aw.seq (p:=[]) (by kernel_rfl) (MI (C (m+3)) _ h) (aw.seq (p:=[1]) (by kernel_rfl) s1 (aw.fW (p:=[1,1]) (by kernel_rfl) (Y_ (C (m+3)) _ (.ptr g.n 0) false G rfl) (by simp)))) (.inl rfl) (by kernel_rfl),bw.trans bw.n (Gs.mg p),h1.mono Gs (Nat.le_refl _)⟩
 cases st with
 |none=>exact fail rfl rfl rfl rfl
 |some s=>
  cases s with
  |nil=>exact fail rfl rfl rfl rfl
  |cons B t=>
   have ag:=B.toNat_lt
   have kV:fm 1 (some (B::t))=([B],some t):=uR (by simp)
   have ZN:kO 1 (some (B::t))=true:=by simp[kO]
   rw[kV] at h1 uX
   have h1:cC g p (some t):=h1
   have uX:(w=.aA/\[B]=[]/\((some (B::t):cf)=none\/kO 1 (some (B::t))=false))\/ow g p w [B]:=uX
   rw[ZN] at s1
   rcases uX with⟨_,az,_⟩|zo
   · cases az
   · have Gt:=zo
     obtain⟨iC,hQ,j0,rfl,ai⟩:=zo
     have iG:∀x:aa,Ext g.n g x->av x iC (hQ+0*1)=some (.int .u8 (Int.ofNat B.toNat)):=λx e=>((Gt.Cr (e.mg p) (Nat.le_refl _)).load).2 0 (by simp)
     obtain⟨bx,bI,cP,dK,iw⟩:=ZH B.toNat (by omega)
     have bj:=Mn B.toNat (by omega)
     have s2:=Za (C (m+3)) (.fn 50 [.ptr p 0] []) (.ptr g.n 0) true G rfl
     let H0:=(G.push (.cells [.int .u64 (Int.ofNat 0),.int .u64 (Int.ofNat 0),.int .u8 (Int.ofNat 0),.int .i64 (Int.ofNat 0)] 120 .own 0 0)).set G.n (some (.cells [.int .u64 (Int.ofNat 0),.int .u64 (Int.ofNat 0),.int .u8 (Int.ofNat 0),.int .i64 (Int.ofNat 0)] 120 .own 0 0))
     have k8:H0.n=g.n+2:=by simp[H0,nK]
     have ck:aw Tryz.prog Tryz.f51 none (C (m+3)) [1,1,1,0] ⟨[(0,.fn 50 [.ptr p 0] []),(5,.ptr g.n 0)],[],.none,G⟩ .nrm ⟨[(0,.fn 50 [.ptr p 0] []),(5,.ptr g.n 0),(6,.ptr G.n 0)],[],.none,H0⟩:=(Zb _ _ _ _ _ (lT rfl rfl))
     obtain⟨V,qY⟩:∃V,V=J.aL [.int .u64 (Int.ofNat (la (some (B::t))).1),.str (la (some (B::t))).2.1,.bool (la (some (B::t))).2.2]:=⟨_,rfl⟩
     have wf:WF Tryz.prog Tryz.f51 none (C (m+3)) [] (λe r d q an=>∃hI,kT Tryz.prog (C (m+3)) Tryz.f51 (.ok e r d q an)=.ret V hI/\di p h.n h hI/\cC hI p (nJ (some (B::t)))) (nT 0 [.fn 50 [.ptr p 0] []] .leaf) [] .none h:=by
      refine WF.seq (p:=[]) (by kernel_rfl) (W.of (MI (C (m+3)) _ h) (t_ [.fn 50 [.ptr p 0] []]) λbq c9=>.inl ⟨rfl,?_⟩)
      refine WF.seq (p:=[1]) (by kernel_rfl) (W.of s1 c9 λa9 jr=>.inl ⟨rfl,?_⟩)
      refine WF.seq (p:=[1,1]) (by kernel_rfl) (W.of s2 jr λee wC=>.inl ⟨rfl,?_⟩)
      refine WF.seq (p:=[1,1,1]) (by kernel_rfl) (W.of (st:=⟨[(0,.fn 50 [.ptr p 0] []),(5,.ptr g.n 0)],[],.none,G⟩) ck (wC.sub ⟨rfl,rfl,trivial⟩) λht Fs=>.inl ⟨rfl,?_⟩)
      refine WF.seq (p:=[1,1,1,1]) (by kernel_rfl) ?_
      refine WF.seq (p:=[1,1,1,1,0]) (by kernel_rfl) (W.of (Zc (C (m+3)) _ _ _ H0 _ H0 (MB (m+2) H0)) Fs λhY zp=>.inl ⟨rfl,?_⟩)
      refine WF.block (p:=[1,1,1,1,0,1]) (id:=0) (by kernel_rfl) ?_
      refine WF.range (p:=[1,1,1,1,0,1,0]) (t:=19) (ps:=[20]) (by kernel_rfl) (by kernel_rfl) (hf:=rfl) (hm:=zp) ?_
      let sR:=(H0.push (.defrd (some []))).push (.loop .ready none (dt Tryz.f51) hY [20] qv rm (g.n+2))
      rw[nK] at zp
      have ZO:aC.Mod hY [(5,.ptr g.n 0),(6,.ptr (g.n+1) 0)]:=zp.sub ⟨rfl,rfl,trivial⟩
      have i0:Ct B.toNat g.n iC hQ j0 g hY 0 sR:=by
       refine⟨?_,?_,?_,?_,?_,by simp only[sR,aa.e7,k8];omega,λj aV=>by omega⟩
       · simp only[sR,H0];exact hj (by simp only[aa.fR,aa.e7,nK];omega) (hj (by simp only[aa.fR,aa.e7,nK];omega) (et (by simp only[aa.fR,aa.e7,nK];omega) (hj (by simp only[aa.fR,aa.e7,nK];omega) (by rw[eS];exact dF rfl))))
       · simp only[sR,H0];exact hj (by simp only[aa.fR,aa.e7,nK];omega) (hj (by simp only[aa.fR,aa.e7,nK];omega) (by rw[<-nK];exact dF rfl))
       · simp only[sR];exact hj (by simp[k8]) (eB (by rw[k8]))
       · simp only[sR];exact eB (by simp[k8])
       · simp only[sR,H0];exact Ext.k0 (by simp only[aa.fR,aa.e7,nK];omega) (Ext.k0 (by simp only[aa.fR,aa.e7,nK];omega) (Ext.fP (by simp only[aa.fR,aa.e7,nK];omega) (Ext.k0 (by simp only[aa.fR,aa.e7,nK];omega) Gs)))
      obtain⟨x,ff,fN⟩:=ZI (m+2) (g.n+3) (Ct B.toNat g.n iC hQ j0 g hY) (MS B.toNat g.n iC hQ j0 g hY) (λk x ax ad=>ZK (m+1) B.toNat g.n iC hQ j0 g hY ZO iG k x ax ad) sR i0
      have cont:∀y:aa,y.get g.n=some (.cells [.slice iC hQ 1 j0] 98 .own 0 0)->y.get (g.n+1)=some (.cells (fH (gh (k_ B.toNat))) 120 .own 0 0)->y.get (g.n+2)=some (.defrd (some []))->Ext g.n g y->g.n+4<=y.n->
        WF Tryz.prog Tryz.f51 none (C (m+3)) [1,1,1,1,1] (λe r d q an=>∃hI,kT Tryz.prog (C (m+3)) Tryz.f51 (.ok e r d q an)=.ret V hI/\di p h.n h hI/\cC hI p (nJ (some (B::t)))) hY [.collected (g.n+2)] .none y:=by
       intro y ZP j_ ZQ zq acL
       obtain⟨b3,eK,c2,bM,a9,MZ⟩:=Gp (m+2) p (dV B.toNat) (some t) y (h1.mono zq (Nat.le_refl _)) (by omega)
       have M0:eK.get g.n=some (.cells [.slice iC hQ 1 j0] 98 .own 0 0):=(bM.get g.n (by omega) (by omega)).trans ZP
       have M1:eK.get (g.n+1)=some (.cells (fH (gh (k_ B.toNat))) 120 .own 0 0):=(bM.get (g.n+1) (by omega) (by omega)).trans j_
       have Gu:eK.get (g.n+2)=some (.defrd (some [])):=(bM.get (g.n+2) (by omega) (by omega)).trans ZQ
       have uM:di p h.n h eK:=(bw.trans bw.n (zq.mg p)).trans (Nat.le_trans bw.n zq.n) bM
       have Cu:di p g.n g eK:=(zq.mg p).trans zq.n bM
       have ZR:av y (g.n+1) (0+3)=some (.int .i64 (Int.ofNat (dV B.toNat))):=by rw[<-bI];exact ar j_ rfl
       refine WF.seq (p:=[1,1,1,1,1]) (by kernel_rfl) (W.of (Zg (C (m+3)) p g.n (g.n+1) b3 (kO (dV B.toNat) (some t)) [.collected (g.n+2)] y eK _ _ ZR (rl _ (by omega) y) c2) (zp.sub ⟨rfl,rfl,rfl,trivial⟩) λwZ nL=>.inl ⟨rfl,?_⟩)
       have lk:h.n<=g.n+2:=by have:=bw.n;omega
       by_cases hlen:t.length<dV B.toNat
       · have aF:la (some (B::t))=(0,[],false):=by simp only[la,if_pos hlen]
         have aG:nJ (some (B::t))=none:=by simp only[nJ,if_pos hlen]
         rw[aF] at qY
         rw[show kO (dV B.toNat) (some t)=false by simp[kO];omega] at nL
         rw[Cg (by omega)] at a9
         refine WF.seq (p:=[1,1,1,1,1,1]) (by kernel_rfl) (W.of (st:=⟨[(4,.bool false),(5,.ptr g.n 0),(6,.ptr (g.n+1) 0),(8,b3)],[.collected (g.n+2)],.none,eK⟩) (Zh (C (m+3)) (.ptr g.n 0) (.ptr (g.n+1) 0) b3 false [.collected (g.n+2)] eK rfl) nL λuY Gv=>.inr ⟨by simp,?_⟩)
         refine⟨eK.set (g.n+2) (some (.defrd none)),MX Gu (ua Gv (by rw[qY];kernel_rfl)),di.fP lk uM,?_⟩
         rw[aG]
         exact a9.set Gu
       · obtain⟨u,hu⟩:∃u,u=t.take (dV B.toNat):=⟨_,rfl⟩
         have oP:u.length=dV B.toNat:=by rw[hu,List.length_take];omega
         have aF:la (some (B::t))=(hM B.toNat u,B::u,true):=by simp only[la,if_neg hlen,<-hu]
         have aG:nJ (some (B::t))=some (t.drop (dV B.toNat)):=by simp only[nJ,if_neg hlen]
         rw[aF] at qY
         rw[show kO (dV B.toNat) (some t)=true by simp[kO];omega] at nL
         rw[uR (by omega),<-hu] at MZ
         rw[uR (by omega)] at a9
         have Gw:ow eK p b3 u:=by
          rcases MZ with⟨_,_,ab|ab⟩|ab
          · cases ab
          · simp[kO] at ab;omega
          · exact ab
         refine WF.seq (p:=[1,1,1,1,1,1]) (by kernel_rfl) (W.of (st:=⟨[(4,.bool true),(5,.ptr g.n 0),(6,.ptr (g.n+1) 0),(8,b3)],[.collected (g.n+2)],.none,eK⟩) (Zi (C (m+3)) (.ptr g.n 0) (.ptr (g.n+1) 0) b3 true [.collected (g.n+2)] eK rfl) nL λuY Gv=>.inl ⟨rfl,?_⟩)
         have room:∀k,Ext eK.n eK (eK.room k):=λk=>Ext.hW (Ext.refl _ _)
         have ZS:av (eK.room 8) iC (hQ+0*1)=some (.int .u8 (Int.ofNat B.toNat)):=((Gt.Cr (Cu.trans Cu.n ((room 8).mg p)) (Nat.le_refl _)).load).2 0 (by simp)
         have ZT:av (eK.room 8) (g.n+1) (0+2)=some (.int .u8 (Int.ofNat (iN (k_ B.toNat)))):=by rw[<-MP];exact ar (eH M1) rfl
         have ZU:av (eK.room 8) g.n 0=some (.slice iC hQ 1 j0):=ar (eH M0) rfl
         refine WF.seq (p:=[1,1,1,1,1,1,1]) (by kernel_rfl) (W.of (st:=⟨[(5,.ptr g.n 0),(6,.ptr (g.n+1) 0),(8,b3)],[.collected (g.n+2)],.none,eK⟩) (Zj (C (m+3)) g.n (g.n+1) b3 [.collected (g.n+2)] eK _ _ _ _ _ _ _ _ ZU (Nat.le_refl _) ZS ZT (ZL bx (by omega)) (Gl _ (by omega) _)) (Gv.sub ⟨rfl,rfl,rfl,trivial⟩) λpq ZV=>.inl ⟨rfl,?_⟩)
         have ZW:=Gw
         obtain⟨zr,dR,dj,rfl,_⟩:=ZW
         refine WF.seq (p:=[1,1,1,1,1,1,1,1]) (by kernel_rfl) ?_
         refine WF.seq (p:=[1,1,1,1,1,1,1,1,0]) (by kernel_rfl) (W.of (Zk (C (m+3)) (.ptr g.n 0) (.ptr (g.n+1) 0) _ zr dR u.length dj [.collected (g.n+2)] (eK.room 8)) ZV λM3 ZX=>.inl ⟨rfl,?_⟩)
         have gr:=MW (C (m+3)) (.ptr g.n 0) (.ptr (g.n+1) 0) (.slice zr dR u.length dj) zr dR dj u (B.toNat-iN (k_ B.toNat)+1) (by rw[oP];exact iw) (by omega) [.collected (g.n+2)] (eK.room 8) (λi hi=>(Gw.load).2 i hi) u.length 0 (B.toNat-iN (k_ B.toNat)) rfl (by omega) (by simp)
         have uZ:=aw.block (id:=2) (p:=[1,1,1,1,1,1,1,1,0,1]) (by kernel_rfl) (ev.run (p:=[1,1,1,1,1,1,1,1,0,1,0]) (by kernel_rfl) gr (by omega))
         refine W.of uZ ZX λM4 M5=>.inl ⟨rfl,?_⟩
         rw[List.drop_zero] at M5
         have aJ:=zk B.toNat u (by omega) oP
         have ZY:=dK u oP
         have Gx:ec Tryz.prog 98 9 (.slice iC hQ [B].length j0) ((eK.room 8).room 12)=.val (.str [B]) ((eK.room 8).room 12):=(Gt.Cr (Cu.trans Cu.n ((Ext.hW (room 8)).mg p)) (Nat.le_refl _)).conv
         have Gy:ec Tryz.prog 98 9 (.slice zr dR u.length dj) ((eK.room 8).room 12)=.val (.str u) ((eK.room 8).room 12):=(Gw.Cr ((Ext.hW (room 8)).mg p) (Nat.le_refl _)).conv
         have fin:=Zn (C (m+3)) g.n (g.n+1) (gS (B.toNat-iN (k_ B.toNat)) u) (gh (k_ B.toNat)).1 zr dR u.length iC hQ 1 dj j0 [B] u [.collected (g.n+2)] (eK.room 8) _ _ (ar (eH (eH M1)) rfl) (ue (by omega)) (ar (eH (eH M0)) rfl) Gx Gy (gx (by simp;omega))
         refine W.of fin M5 λM6 ZZ=>?_
         have M7:((eK.room 8).room 12).get (g.n+2)=some (.defrd (some [])):=eH (eH Gu)
         refine⟨((eK.room 8).room 12).set (g.n+2) (some (.defrd none)),MX M7 (ua ZZ (by rw[qY,<-ZY];kernel_rfl)),di.fP lk (uM.trans uM.n ((Ext.hW (room 8)).mg p)),?_⟩
         rw[aG]
         exact(a9.mono (Ext.hW (room 8)) (Nat.le_refl _)).set M7
      have M8:∀{y:aa} {o:Option cJ},Ext g.n g y->Ext g.n g (y.set (g.n+3) o):=λe=>Ext.fP (by omega) e
      rcases fN with fN|fN
      · obtain⟨aY,aR,bW,eu,iD,Gz,rn⟩:=fN
        have gl:=rn 8 (by omega)
        have gi:8=k_ B.toNat:=MQ B.toNat 8 (by omega) (by omega) gl (λh=>by omega)
        have hl:jO (g.n+3) hY [.collected (g.n+2)] .none (.ret (.aL []) x)=.ok .nrm hY [.collected (g.n+2)] .none (x.set (g.n+3) (some (.loop .exhausted none (dt Tryz.f51) hY [20] qv rm (g.n+2)))):=by
         simp only[jO,eu]
        have bJ:H0.n+1=g.n+3:=by rw[k8]
        rw[k8]
        refine⟨.nrm,_,(congrArg (jO (g.n+3) hY [.collected (g.n+2)] .none) ff).trans hl,.inr ⟨by simp,.inl ⟨rfl,?_⟩⟩⟩
        refine cont _ (et (by omega) aY) (et (by omega) ?_) (et (by omega) bW) (M8 iD) (by simpa using Gz)
        rw[<-gi];exact aR
      · obtain⟨aY,⟨k,acM,Z0,Z1,aR⟩,bW,eu,iD,Gz⟩:=fN
        have gi:k=k_ B.toNat:=MQ B.toNat k (by omega) (by omega) Z0 (λ_=>Z1)
        have hl:jO (g.n+3) hY [.collected (g.n+2)] .none (.ret (.aL []) x)=.ok (.exit 0) hY [.collected (g.n+2)] .none (x.set (g.n+3) (some (.loop .exhausted (some (.exit 0)) (dt Tryz.f51) hY [20] qv rm (g.n+2)))):=by
         simp only[jO,eu]
        rw[k8]
        refine⟨.exit 0,_,(congrArg (jO (g.n+3) hY [.collected (g.n+2)] .none) ff).trans hl,.inl ⟨rfl,.inl ⟨rfl,?_⟩⟩⟩
        refine cont _ (et (by omega) aY) (et (by omega) ?_) (et (by omega) bW) (M8 iD) (by simpa using Gz)
        rw[<-gi];exact aR
     obtain⟨e,r,d,q,an,bR,hI,b3,jU⟩:=wf
     rw[<-qY]
     exact⟨hI,EN (intr:=hB) (n:=m+3) (args:=[.fn 50 [.ptr p 0] []]) Tryz.func51 (by kernel_rfl) rfl (by kernel_rfl) ⟨e,r,d,q,an,bR,b3⟩,jU⟩
end Go.Proofs.df
namespace Go.Proofs.df
open Go aC Go.Proofs Go.Proofs.eN
set_option maxRecDepth 100000
set_option maxHeartbeats 1000000
theorem Z2{a b:List UInt8}(h:¬a=b):cF a b=false:=by
 cases aS:cF a b with
 |false=>rfl
 |true=>rw[oR] at aS;exact absurd (by simpa using aS) h
theorem Cv(m p:Nat)(st:cf)(h:aa)(al:cC h p st):∃an,C (m+5) (.fn 24) [.ptr p 0] h=.ret (.int .u64 (Int.ofNat (aI st).1)) an/\di p h.n h an/\cC an p (aI st).2:=by
 obtain⟨g,c,x,r⟩:=ZM m p st h al
 have fin:∀{Γ:Env} {an:aa} {v:J},aw Tryz.prog Tryz.f24 none (C (m+4)) [] ⟨[(0,.ptr p 0)],[],.none,h⟩ .ret ⟨Γ,[],.none,an⟩->kE Tryz.prog (dt Tryz.f24) Tryz.f24 Γ an=some v->C (m+5) (.fn 24) [.ptr p 0] h=.ret v an:=λad hv=>
  dn (intr:=hB) (n:=m+4) (args:=[.ptr p 0]) Tryz.func24 (by kernel_rfl) rfl (by kernel_rfl) ad (.inl rfl) hv
 have bad:la st=(0,[],false)->nJ st=none->aI st=(0,none)->∃an,C (m+5) (.fn 24) [.ptr p 0] h=.ret (.int .u64 (Int.ofNat (aI st).1)) an/\di p h.n h an/\cC an p (aI st).2:=λaF aG bJ=>by
  rw[aF] at c
  rw[aG] at r
  rw[bJ]
  exact⟨g,fin (YB _ _ (0) ([]) (true) _ ((oJ 0)) _ _ _ _ (c) rfl) (by kernel_rfl),x,r⟩
 cases st with
 |none=>exact bad rfl rfl rfl
 |some s=>
  cases s with
  |nil=>exact bad rfl rfl rfl
  |cons b t=>
   have ag:=b.toNat_lt
   by_cases hlen:t.length<dV b.toNat
   · exact bad (by simp only[la,if_pos hlen]) (by simp only[nJ,if_pos hlen]) (zl (by simp only[rdNum,if_pos hlen]))
   · obtain⟨u,hu⟩:∃u,u=t.take (dV b.toNat):=⟨_,rfl⟩
     have oP:u.length=dV b.toNat:=by rw[hu,List.length_take];omega
     have aJ:=zk b.toNat u (by omega) oP
     rw[show la (some (b::t))=(hM b.toNat u,b::u,true) by simp only[la,if_neg hlen,<-hu]] at c
     rw[show nJ (some (b::t))=some (t.drop (dV b.toNat)) by simp only[nJ,if_neg hlen]] at r
     obtain⟨ak,c2,bM⟩:=Yt m (hM b.toNat u) [] g aJ (by simp)
     rw[List.nil_append] at c2
     have a9:=r.mono bM (Nat.le_refl _)
     have M9:di p h.n h ak:=x.trans x.n (bM.mg p)
     by_cases heq:e5 (hM b.toNat u)=b::u
     · rw[show aI (some (b::t))=(hM b.toNat u,some (t.drop (dV b.toNat))) from Gb (by simp only[rdNum,if_neg hlen,<-hu,if_pos heq])]
       exact⟨ak,fin (YD _ _ (0) ([]) (true) _ ((oJ 0)) _ _ _ _ _ _ (c) (rfl) (c2) ((by rw[heq,uf];rfl))) (by kernel_rfl),M9,a9⟩
     · rw[show aI (some (b::t))=(0,none) from zl (by simp only[rdNum,if_neg hlen,<-hu,if_neg heq])]
       obtain⟨ab,ae,v,aB,aP⟩:=a9
       exact⟨_,fin (YC _ _ (0) ([]) (true) _ ((oJ 0)) _ _ _ _ _ _ _ _ (c) (rfl) (c2) ((by rw[Z2 heq];rfl)) (lT rfl rfl) (lT rfl rfl)) (by kernel_rfl),di.yz (di.yz M9),by simpa using ab,dF rfl⟩
theorem Cw(m p:Nat)(st:cf)(h:aa)(al:cC h p st):∃an,C (m+6) (.fn 23) [.ptr p 0] h=.ret (.str (ch st).1) an/\di p h.n h an/\cC an p (ch st).2:=by
 obtain⟨g,c,x,r⟩:=Cv m p st h al
 obtain⟨w,ak,c2,bM,a9,uX⟩:=Gp (m+4) p (aI st).1 (aI st).2 g r (zm st)
 refine⟨ak,?_,x.trans x.n bM,a9⟩
 rcases uX with⟨rfl,e,_⟩|zo
 · rw[show(ch st).1=[] from e]
   exact dn (intr:=hB) (n:=m+5) (args:=[.ptr p 0]) Tryz.func23 (by kernel_rfl) rfl (by kernel_rfl) (YF _ _ _ ([]) _ _ _ _ (c) (c2)) (.inl rfl) (by kernel_rfl)
 · have g0:=zo.conv
   obtain⟨b,o,aH,rfl,_⟩:=zo
   exact dn (intr:=hB) (n:=m+5) (args:=[.ptr p 0]) Tryz.func23 (by kernel_rfl) rfl (by kernel_rfl) (YE _ _ _ _ _ _ _ _ _ _ _ _ (c) (c2) (g0)) (.inl rfl) (by kernel_rfl)
end Go.Proofs.df
