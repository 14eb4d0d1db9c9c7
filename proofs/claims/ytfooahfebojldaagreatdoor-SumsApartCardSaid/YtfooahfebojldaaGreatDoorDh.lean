/-
  PROVED HERE: contracts of functions (Dh). No condition beside each statement's own.
-/
import Derived.Test.YtfooahfebojldaaGreatDoorSxa
import Derived.Test.YtfooahfebojldaaGreatDoorDg
import Derived.Test.YtfooahfebojldaaGreatDoorProg
set_option linter.unusedVariables false
set_option linter.unusedSimpArgs false
namespace Go.Proofs.dV
open Go aw
def hk:Nat->Nat->List UInt8->List UInt8
 |_,0,acc=>acc
 |n,k+1,acc=>hk (n/256) k (UInt8.ofNat (n %256)::acc)
theorem mq:∀(k n:Nat) (acc:List UInt8),(hk n k acc).length=k+acc.length
 |0,n,acc=>by simp[hk]
 |k+1,n,acc=>by rw[hk,mq k];simp;omega
def iZ(n:Nat):Nat->Nat->Nat
 |0,m=>m
 |k+1,m=>if n<256^m then m else iZ n k (m+1)
theorem zM(n:Nat):∀(k m:Nat),m<=iZ n k m/\iZ n k m<=m+k
 |0,m=>by simp[iZ]
 |k+1,m=>by
  have:=zM n k (m+1)
  simp only[iZ];split<;>omega
theorem zN(n:Nat):∀(k m:Nat),n<256^(m+k)->n<256^(iZ n k m)
 |0,m,h=>by simpa[iZ] using h
 |k+1,m,h=>by
  simp only[iZ]
  split
  · assumption
  · exact zN n k (m+1) (by have e:m+1+k=m+(k+1):=by omega
                           rw[e];exact h)
def jO(n:Nat):Nat:=iZ n 5 3
def b_(n:Nat):List UInt8:=
 if n<=240 then hk n 1 [] else if n<=2287 then hk (241+(n-240)/256) 1 []++hk ((n-240) %256) 1 []
 else if n<=67823 then hk 249 1 []++hk (n-2288) 2 [] else hk (247+jO n) 1 []++hk n (jO n) []
def fR(n:Nat):Nat×Nat×Nat×Nat:=
 if n<=240 then(0,240,0,0) else if n<=2287 then(240,2287,241,1) else if n<=67823 then(2288,67823,249,2)
 else(0,256^jO n-1,247+jO n,jO n)
def oq(n:Nat):List UInt8:=UInt8.ofNat (((fR n).2.2.1+(n-(fR n).1)/256^(fR n).2.2.2) %256)::hk (n-(fR n).1) (fR n).2.2.2 []
theorem TB(n:Nat)(h:n<18446744073709551616):oq n=b_ n:=by
 unfold oq b_ fR
 by_cases aa:n<=240
 · simp only[if_pos aa,hk,Nat.sub_zero,Nat.pow_zero,Nat.div_one,Nat.zero_add]
 · by_cases ad:n<=2287
   · simp only[if_neg aa,if_pos ad,hk,Nat.pow_one,List.singleton_append,List.cons_append,List.nil_append]
     rw[Nat.mod_mod]
   · by_cases ar:n<=67823
     · have e:(n-2288)/256^2=0:=Nat.div_eq_of_lt (by omega)
       simp only[if_neg aa,if_neg ad,if_pos ar,e,Nat.add_zero]
       rfl
     · have hs:n<256^jO n:=zN n 5 3 (by simpa using h)
       have e:n/256^jO n=0:=Nat.div_eq_of_lt hs
       simp only[if_neg aa,if_neg ad,if_neg ar,Nat.sub_zero,e,Nat.add_zero]
       rfl
theorem TC(n:Nat)(h:n<18446744073709551616):(fR n).1<=n/\(fR n).2.2.2<=8/\n<=(fR n).2.1:=by
 unfold fR
 by_cases aa:n<=240
 · simp[aa]
 · by_cases ad:n<=2287
   · simp only[if_neg aa,if_pos ad];omega
   · by_cases ar:n<=67823
     · simp only[if_neg aa,if_neg ad,if_pos ar];omega
     · have hs:n<256^jO n:=zN n 5 3 (by simpa using h)
       have:=zM n 5 3
       simp only[if_neg aa,if_neg ad,if_neg ar]
       unfold jO at hs⊢
       omega
end Go.Proofs.dV
namespace Go.Proofs.dV
open Go aw
def jP(b:Nat):Nat:=if b<=240 then 0 else if b<=248 then 1 else if b=249 then 2 else b-247
def kk:Nat->List UInt8->Nat
 |a,[]=>a
 |a,c::t=>kk (a*256+c.toNat) t
def pA(b:Nat)(t:List UInt8):Nat:=if b<=240 then b else if b<=248 then 240+256*(b-241)+kk 0 t else if b=249 then 2288+kk 0 t else kk 0 t
def rdNum:List UInt8->Option (Nat×List UInt8)
 |[]=>none
 |b::t=>if t.length<jP b.toNat then none else if b_ (pA b.toNat (t.take (jP b.toNat)))=b::t.take (jP b.toNat) then some (pA b.toNat (t.take (jP b.toNat)),t.drop (jP b.toNat)) else none
theorem zO:∀(k n a:Nat) (acc:List UInt8),kk a (hk n k acc)=kk (a*256^k+n %256^k) acc
 |0,n,a,acc=>by simp[hk,Nat.mod_one]
 |k+1,n,a,acc=>by
  rw[hk,zO k (n/256) a,kk]
  have e:(UInt8.ofNat (n %256)).toNat=n %256:=by simp
  have ax:n %256^(k+1)=n %256+256*(n/256 %256^k):=by rw[Nat.pow_succ,Nat.mul_comm (256^k) 256,Nat.mod_mul]
  have bp:a*256^(k+1)=a*256^k*256:=by rw[Nat.pow_succ,Nat.mul_assoc]
  rw[e,ax,bp]
  generalize a*256^k=x
  generalize n/256 %256^k=y
  have ds:(x+y)*256+n %256=x*256+(n %256+256*y):=by omega
  rw[ds]
theorem Jv:∀(t:List UInt8) (a:Nat),kk a t<(a+1)*256^t.length
 |[],a=>by simp[kk]
 |c::t,a=>by
  have h:=Jv t (a*256+c.toNat)
  have ag:=c.toNat_lt
  have ad:(a*256+c.toNat+1)*256^t.length<=((a+1)*256)*256^t.length:=Nat.mul_le_mul_right _ (by omega)
  rw[kk,List.length_cons,Nat.pow_succ,Nat.mul_comm (256^t.length) 256,<-Nat.mul_assoc]
  omega
theorem TD(t:List UInt8):kk 0 t<256^t.length:=by have:=Jv t 0;simpa using this
theorem TE(b:Nat)(t:List UInt8)(h:b<256)(aQ:t.length=jP b):pA b t<18446744073709551616:=by
 have an:=TD t
 rw[aQ] at an
 unfold pA
 unfold jP at an
 by_cases aa:b<=240
 · rw[if_pos aa];omega
 · by_cases ad:b<=248
   · rw[if_neg aa,if_pos ad] at*;omega
   · by_cases ar:b=249
     · rw[if_neg aa,if_neg ad,if_pos ar] at*;omega
     · rw[if_neg aa,if_neg ad,if_neg ar] at*
       have:256^(b-247)<=256^8:=Nat.pow_le_pow_right (by omega) (by omega)
       omega
theorem TF(n:Nat)(h:n<18446744073709551616):∃b t,b_ n=b::t/\t.length=jP b.toNat/\pA b.toNat t=n:=by
 have ha:∀k:Nat,(UInt8.ofNat (k %256)).toNat=k %256:=λk=>by simp
 unfold b_
 by_cases aa:n<=240
 · rw[if_pos aa]
   refine⟨UInt8.ofNat (n %256),[],rfl,?_,?_⟩
   · rw[ha,Nat.mod_eq_of_lt (by omega)];simp[jP,aa]
   · rw[ha,Nat.mod_eq_of_lt (by omega)];simp[pA,aa]
 · by_cases ad:n<=2287
   · rw[if_neg aa,if_pos ad]
     have af:(241+(n-240)/256) %256=241+(n-240)/256:=Nat.mod_eq_of_lt (by omega)
     refine⟨UInt8.ofNat ((241+(n-240)/256) %256),hk ((n-240) %256) 1 [],rfl,?_,?_⟩
     · rw[ha,af,mq]
       unfold jP;rw[if_neg (by omega),if_pos (by omega)];rfl
     · rw[ha,af]
       unfold pA;rw[if_neg (by omega),if_pos (by omega),zO,kk,Nat.pow_one];omega
   · by_cases ar:n<=67823
     · rw[if_neg aa,if_neg ad,if_pos ar]
       refine⟨UInt8.ofNat (249 %256),hk (n-2288) 2 [],rfl,?_,?_⟩
       · rw[ha,mq];rfl
       · rw[ha]
         show 2288+kk 0 (hk (n-2288) 2 [])=n
         rw[zO,kk,Nat.mod_eq_of_lt (by omega)];omega
     · rw[if_neg aa,if_neg ad,if_neg ar]
       have hs:n<256^jO n:=zN n 5 3 (by simpa using h)
       have aT:=zM n 5 3
       have XQ:3<=jO n/\jO n<=8:=aT
       refine⟨UInt8.ofNat ((247+jO n) %256),hk n (jO n) [],rfl,?_,?_⟩
       · rw[ha,Nat.mod_eq_of_lt (by omega),mq]
         unfold jP;rw[if_neg (by omega),if_neg (by omega),if_neg (by omega)];simp
       · rw[ha,Nat.mod_eq_of_lt (by omega)]
         unfold pA;rw[if_neg (by omega),if_neg (by omega),if_neg (by omega),zO,kk,Nat.mod_eq_of_lt hs];omega
theorem TG(n:Nat)(r:List UInt8)(h:n<18446744073709551616):rdNum (b_ n++r)=some (n,r):=by
 obtain⟨b,t,aa,ad,ar⟩:=TF n h
 have aC:(t++r).take (jP b.toNat)=t:=by rw[<-ad,List.take_left]
 have ax:(t++r).drop (jP b.toNat)=r:=by rw[<-ad,List.drop_left]
 rw[aa,List.cons_append]
 simp only[rdNum]
 rw[if_neg (by rw[List.length_append];omega),aC,ax,ar,if_pos aa]
theorem TH{s r:List UInt8}{n:Nat}(h:rdNum s=some (n,r)):s=b_ n++r/\n<18446744073709551616:=by
 match s with
 |[]=>cases h
 |b::t=>
  simp only[rdNum] at h
  split at h
  · cases h
  · rename_i an
    split at h
    · rename_i he
      have af:=b.toNat_lt
      have aB:=TE b.toNat (t.take (jP b.toNat)) (by omega) (by rw[List.length_take];omega)
      obtain⟨rfl,rfl⟩:pA b.toNat (t.take (jP b.toNat))=n/\t.drop (jP b.toNat)=r:=by simpa using h
      exact⟨by rw[he,List.cons_append,List.take_append_drop],aB⟩
    · cases h
abbrev ea:=Option (List UInt8)
def dC:ea->Nat×ea
 |none=>(0,none)
 |some s=>match rdNum s with
  |none=>(0,none)
  |some (n,r)=>(n,some r)
def fS(n:Nat):ea->List UInt8×ea
 |none=>([],none)
 |some s=>if n<=s.length then(s.take n,some (s.drop n)) else([],none)
def eM(st:ea):List UInt8×ea:=fS (dC st).1 (dC st).2
def left:ea->List UInt8
 |none=>[]
 |some s=>s
theorem TI{s:List UInt8}(h:rdNum s=none):dC (some s)=(0,none):=by simp only[dC,h]
theorem TJ{s r:List UInt8}{n:Nat}(h:rdNum s=some (n,r)):dC (some s)=(n,some r):=by simp only[dC,h]
theorem TK(s:List UInt8):dC (some s)=(0,none)\/∃n r,dC (some s)=(n,some r)/\s=b_ n++r/\n<18446744073709551616:=by
 cases h:rdNum s with
 |none=>exact .inl (TI h)
 |some x=>obtain⟨n,r⟩:=x;exact .inr ⟨n,r,TJ h,TH h⟩
theorem DL{n:Nat}{s:List UInt8}(h:n<=s.length):fS n (some s)=(s.take n,some (s.drop n)):=by simp only[fS,if_pos h]
theorem Jw{n:Nat}{s:List UInt8}(h:¬n<=s.length):fS n (some s)=([],none):=by simp only[fS,if_neg h]
theorem ih(n:Nat)(r:List UInt8)(h:n<18446744073709551616):dC (some (b_ n++r))=(n,some r):=by simp[dC,TG n r h]
theorem Jx{st:ea}{r:List UInt8}(h:(dC st).2=some r):st=some (b_ (dC st).1++r):=by
 cases st with
 |none=>cases h
 |some s=>
  rcases TK s with e|⟨n,r',e,aa,_⟩
  · rw[e] at h;cases h
  · rw[e] at h⊢
    cases h
    rw[aa]
end Go.Proofs.dV
namespace Go.Proofs.cT
open Go aw Go.Proofs Go.Proofs.dV
set_option maxRecDepth 100000
theorem ae(call:aP->List I->J->av)(n z:Nat)(s:List UInt8)(h ad:J)
  (H1:aV Tryz.prog Tryz.f67 none call [1,1,0,1,0] (ao.mk [(6,.int .i64 (.ofNat 0)),(5,.str []),(4,.str []),(0,.int .u64 (.ofNat n)),(1,.int .i64 (.ofNat z))] [] .none h) (.exit 0) (ao.mk [(5,.str s)] [] .none ad)):
  aV Tryz.prog Tryz.f67 none call [] (ao.mk [(0,.int .u64 (.ofNat n)),(1,.int .i64 (.ofNat z))] [] .none h) (.ret)
   (ao.mk [(4,.str s)] [] .none ad):=
 bY [4] (hs:=[Hint.loop (bu.exit 0) (ao.mk [(5,I.str s)] [] bt.none ad)]) (by kernel_rfl)<| .cons H1<| .nil
theorem dP(call:aP->List I->J->av)(n cg to i_ z b m:Nat)(s:List UInt8)(h al au a7 b8 bj:J)(de d_ fT gy iF km DM zP:Nat)(dU:J)(c_ gX:List UInt8)
  (H1:call (.fn 73) [.int .u64 (.ofNat n)] h=av.ret (.agg [.int .u64 (.ofNat cg),.int .u64 (.ofNat to),.int .u8 (.ofNat i_),.int .i64 (.ofNat z)]) al)
  (bl:aw.storeCells (J.push al (.cells [.int .u64 (.ofNat 0),.int .u64 (.ofNat 0),.int .u8 (.ofNat 0),.int .i64 (.ofNat 0)] 120 .own 0 0)) (J.n al) 0 [.int .u64 (.ofNat cg),.int .u64 (.ofNat to),.int .u8 (.ofNat i_),.int .i64 (.ofNat z)]=some bj)
  (cz:ay bj (J.n al) (0+0)=some (.int .u64 (.ofNat de)))
  (cv:arith .sub .u64 (.ofNat n) (.ofNat de)=some (.int .u64 (.ofNat d_)))
  (dR:ay bj (J.n al) (0+3)=some (.int .i64 (.ofNat fT)))
  (gV:arith .add .i64 (.ofNat 1) (.ofNat fT)=some (.int .i64 (.ofNat gy)))
  (na:tK Tryz.prog bj 98 (I.int IntKind.i64 (Int.ofNat gy)) (I.int IntKind.i64 (Int.ofNat gy))=some (I.slice b 0 (z+1) (cf.exact (z+1)),a7))
  (w8:ay a7 (J.n al) (0+3)=some (.int .i64 (.ofNat iF)))
  (DN:aV Tryz.prog Tryz.f52 none call [1,1,1,1,0,1,0] (ao.mk [(7,.int .i64 (.ofNat iF)),(6,.slice b 0 (z+1) (.exact (z+1))),(1,.int .u64 (.ofNat d_)),(5,.ptr (J.n al) 0),(4,.str []),(0,.str s)] [] .none a7) (.exit 0) (ao.mk [(0,.str s),(1,.int .u64 (.ofNat m)),(5,.ptr (J.n al) 0),(6,.slice b 0 (z+1) (.exact (z+1)))] [] .none b8))
  (TL:ay b8 (J.n al) (0+2)=some (.int .u8 (.ofNat km)))
  (TM:fp Tryz.prog 65 5 (I.int IntKind.u64 (Int.ofNat m)) b8=gg.val (I.int IntKind.u8 (Int.ofNat DM)) b8)
  (TN:arith .add .u8 (.ofNat km) (.ofNat DM)=some (.int .u8 (.ofNat zP)))
  (TO:Nat.le 1 (z+1))
  (TP:aw.storeCells b8 b (0+0*1) [.int .u8 (.ofNat zP)]=some dU)
  (TQ:fp Tryz.prog 98 9 (I.slice b 0 (z+1) (cf.exact (z+1))) dU=gg.val (I.str c_) dU)
  (TR:oA .add s c_=some (.str gX)):
  aV Tryz.prog Tryz.f52 none call [] (ao.mk [(0,.str s),(1,.int .u64 (.ofNat n))] [] .none h) (.ret)
   (ao.mk [(4,.str gX)] [] .none dU):=
 bY [4] (hs:=[Hint.c (I.agg [I.int IntKind.u64 (Int.ofNat cg),I.int IntKind.u64 (Int.ofNat to),I.int IntKind.u8 (Int.ofNat i_),I.int IntKind.i64 (Int.ofNat z)]) al,Hint.hT (I.aK []) bj,Hint.v (I.int IntKind.u64 (Int.ofNat de)),Hint.v (I.int IntKind.u64 (Int.ofNat d_)),Hint.v (I.int IntKind.i64 (Int.ofNat fT)),Hint.v (I.int IntKind.i64 (Int.ofNat gy)),Hint.hT (I.slice b 0 (z+1) (cf.exact (z+1))) a7,Hint.v (I.int IntKind.i64 (Int.ofNat iF)),Hint.loop (bu.exit 0) (ao.mk [(0,I.str s),(1,I.int IntKind.u64 (Int.ofNat m)),(5,I.ptr (J.n al) 0),(6,I.slice b 0 (z+1) (cf.exact (z+1)))] [] bt.none b8),Hint.v (I.int IntKind.u8 (Int.ofNat km)),Hint.v (I.int IntKind.u8 (Int.ofNat DM)),Hint.v (I.int IntKind.u8 (Int.ofNat zP)),Hint.v (I.ptr b (0+0*1)),Hint.hT (I.aK []) dU,Hint.v (I.str c_),Hint.v (I.str gX)]) (by kernel_rfl)<| .cons H1<| .cons (⟨by kernel_rfl,bl,rfl⟩:some 4=some 4/\aw.storeCells (J.push al (ca.cells [I.int IntKind.u64 (Int.ofNat 0),I.int IntKind.u64 (Int.ofNat 0),I.int IntKind.u8 (Int.ofNat 0),I.int IntKind.i64 (Int.ofNat 0)] 120 fB.own 0 0)) (J.n al) 0 [I.int IntKind.u64 (Int.ofNat cg),I.int IntKind.u64 (Int.ofNat to),I.int IntKind.u8 (Int.ofNat i_),I.int IntKind.i64 (Int.ofNat z)]=some bj/\I.aK []=I.aK [])<| .cons cz<| .cons cv<| .cons dR<| .cons gV<| .cons na<| .cons w8<| .cons DN<| .cons TL<| .cons TM<| .cons TN<| .cons (⟨TO,rfl⟩:Nat.le 1 (z+1)/\I.ptr b (0+0*1)=I.ptr b (0+0*1))<| .cons (⟨by kernel_rfl,TP,rfl⟩:some 1=some 1/\aw.storeCells b8 b (0+0*1) [I.int IntKind.u8 (Int.ofNat zP)]=some dU/\I.aK []=I.aK [])<| .cons TQ<| .cons TR<| .nil
theorem TS(call:aP->List I->J->av)(n i z b:Nat)(s:List UInt8)(h:J)(p:I)(de:Nat)(bj:J)(d_ fT:Nat)
  (H1:et (.ofNat 0) (.ofNat i)=true)
  (bl:fp Tryz.prog 65 5 (I.int IntKind.u64 (Int.ofNat n)) h=gg.val (I.int IntKind.u8 (Int.ofNat de)) h)
  (cz:Nat.le (Nat.succ i) (z+1))
  (cv:aw.storeCells h b (0+i*1) [.int .u8 (.ofNat de)]=some bj)
  (dR:nx .shr .u64 (.ofNat n) (.ofNat 8)=some (.int .u64 (.ofNat d_)))
  (gV:arith .sub .i64 (.ofNat i) (.ofNat 1)=some (.int .i64 (.ofNat fT))):
  aV Tryz.prog Tryz.f52 none call [1,1,1,1,0,1,0,0] (ao.mk [(0,.str s),(1,.int .u64 (.ofNat n)),(5,p),(6,.slice b 0 (z+1) (.exact (z+1))),(7,.int .i64 (.ofNat i))] [] .none h) (.nrm)
   (ao.mk [(0,.str s),(1,.int .u64 (.ofNat d_)),(5,p),(6,.slice b 0 (z+1) (.exact (z+1))),(7,.int .i64 (.ofNat fT))] [] .none bj):=
 bY [0,1,5,6,7] (hs:=[.b true,.v (.int .u8 (.ofNat de)),.v (.ptr b (0+i*1)),.hT (.aK []) bj,.v (.int .u64 (.ofNat d_)),.v (.int .i64 (.ofNat fT))]) (by kernel_rfl)<| .cons H1<| .cons bl<| .cons (⟨cz,rfl⟩:Nat.le (Nat.succ i) (z+1)/\I.ptr b (0+i*1)=I.ptr b (0+i*1))<| .cons (⟨by kernel_rfl,cv,rfl⟩:some 1=some 1/\aw.storeCells h b (0+i*1) [I.int IntKind.u8 (Int.ofNat de)]=some bj/\I.aK []=I.aK [])<| .cons dR<| .cons gV<| .nil
theorem TT(call:aP->List I->J->av)(n i z b:Nat)(s:List UInt8)(h:J)(p:I)
  (H1:et (.ofNat 0) (.ofNat i)=false):
  aV Tryz.prog Tryz.f52 none call [1,1,1,1,0,1,0,0] (ao.mk [(0,.str s),(1,.int .u64 (.ofNat n)),(5,p),(6,.slice b 0 (z+1) (.exact (z+1))),(7,.int .i64 (.ofNat i))] [] .none h) (.exit 0)
   (ao.mk [(0,.str s),(1,.int .u64 (.ofNat n)),(5,p),(6,.slice b 0 (z+1) (.exact (z+1))),(7,.int .i64 (.ofNat i))] [] .none h):=
 bY [0,1,5,6,7] (hs:=[.b false]) (by kernel_rfl)<| .cons H1<| .nil
theorem ux(call:aP->List I->J->av)(s t:List UInt8)(h:J)(de:Nat)(c_:List UInt8)(bj:J)(gX:List UInt8)
  (H1:fp Tryz.prog 3 65 (I.int IntKind.i64 (Int.ofNat (List.length t))) h=gg.val (I.int IntKind.u64 (Int.ofNat de)) h)
  (bl:call (.fn 52) [.str s,.int .u64 (.ofNat de)] h=av.ret (.str c_) bj)
  (cz:oA .add c_ t=some (.str gX)):
  aV Tryz.prog Tryz.f64 none call [] (ao.mk [(0,.str s),(1,.str t)] [] .none h) (.ret)
   (ao.mk [(4,.str gX)] [] .none bj):=
 bY [4] (hs:=[.v (.int .u64 (.ofNat de)),.c (.str c_) bj,.v (.str gX)]) (by kernel_rfl)<| .cons H1<| .cons bl<| .cons cz<| .nil
theorem TU(call:aP->List I->J->av)(h:J):
  aV Tryz.prog Tryz.f72 none call [] (ao.mk [] [] .none h) (.ret)
   (ao.mk [(0,.fn 89 [] [])] [] .none h):=
 bY [0] (hs:=[]) (by kernel_rfl)<| .nil
theorem TV(call:aP->List I->J->av)(l:Nat)(e:bu)(h ad:J)(cd:Bool)(bj:J)
  (H1:call (.bQ l) [.agg [.int .u64 (.ofNat 0),.int .u64 (.ofNat 240),.int .u8 (.ofNat 0),.int .i64 (.ofNat 0)]] h=av.ret (.bool cd) bj)
  (bl:(!cd)=true):
  aV Tryz.prog Tryz.f89 none call [0] (ao.mk [(0,.bQ l)] [] .none h) (.ret)
   (ao.mk [(0,.bQ l)] [] .none bj):=
 bY [0] (hs:=[.c (.bool cd) bj,.b true,.b true,.b true,.b true,.b true,.b true,.b true,.b true,.b true,.b true,.b true]) (by kernel_rfl)<| .cons H1<| .cons bl<| .cons bl<| .cons bl<| .cons bl<| .cons bl<| .cons (by kernel_rfl:true=true)<| .cons (by kernel_rfl:true=true)<| .cons (by kernel_rfl:true=true)<| .cons (by kernel_rfl:true=true)<| .cons (by kernel_rfl:true=true)<| .cons (by kernel_rfl:true=true)<| .nil
theorem TW(call:aP->List I->J->av)(l:Nat)(e:bu)(h ad:J)(cd:Bool)(bj:J)(ig:Bool)(dU:J)
  (H1:call (.bQ l) [.agg [.int .u64 (.ofNat 0),.int .u64 (.ofNat 240),.int .u8 (.ofNat 0),.int .i64 (.ofNat 0)]] h=av.ret (.bool cd) bj)
  (bl:(!cd)=false)
  (cz:call (.bQ l) [.agg [.int .u64 (.ofNat 240),.int .u64 (.ofNat 2287),.int .u8 (.ofNat 241),.int .i64 (.ofNat 1)]] bj=av.ret (.bool ig) dU)
  (cv:(!ig)=true):
  aV Tryz.prog Tryz.f89 none call [0] (ao.mk [(0,.bQ l)] [] .none h) (.ret)
   (ao.mk [(0,.bQ l)] [] .none dU):=
 bY [0] (hs:=[.c (.bool cd) bj,.b false,.b false,.b false,.c (.bool ig) dU,.b false,.b false,.b true,.b true,.b true,.b true,.b true,.b true]) (by kernel_rfl)<| .cons H1<| .cons bl<| .cons bl<| .cons bl<| .cons cz<| .cons bl<| .cons bl<| .cons cv<| .cons cv<| .cons cv<| .cons cv<| .cons cv<| .cons (by kernel_rfl:true=true)<| .nil
theorem TX(call:aP->List I->J->av)(l:Nat)(e:bu)(h ad:J)(cd:Bool)(bj:J)(ig:Bool)(dU:J)(sY:Bool)(jM:J)
  (H1:call (.bQ l) [.agg [.int .u64 (.ofNat 0),.int .u64 (.ofNat 240),.int .u8 (.ofNat 0),.int .i64 (.ofNat 0)]] h=av.ret (.bool cd) bj)
  (bl:(!cd)=false)
  (cz:call (.bQ l) [.agg [.int .u64 (.ofNat 240),.int .u64 (.ofNat 2287),.int .u8 (.ofNat 241),.int .i64 (.ofNat 1)]] bj=av.ret (.bool ig) dU)
  (cv:(!ig)=false)
  (dR:call (.bQ l) [.agg [.int .u64 (.ofNat 2288),.int .u64 (.ofNat 67823),.int .u8 (.ofNat 249),.int .i64 (.ofNat 2)]] dU=av.ret (.bool sY) jM)
  (gV:(!sY)=true):
  aV Tryz.prog Tryz.f89 none call [0] (ao.mk [(0,.bQ l)] [] .none h) (.ret)
   (ao.mk [(0,.bQ l)] [] .none jM):=
 bY [0] (hs:=[.c (.bool cd) bj,.b false,.b false,.b false,.c (.bool ig) dU,.b false,.b false,.b false,.b false,.b false,.c (.bool sY) jM,.b false,.b false,.b true]) (by kernel_rfl)<| .cons H1<| .cons bl<| .cons bl<| .cons bl<| .cons cz<| .cons bl<| .cons bl<| .cons cv<| .cons cv<| .cons cv<| .cons dR<| .cons cv<| .cons cv<| .cons gV<| .nil
theorem TY(call:aP->List I->J->av)(l:Nat)(e:bu)(h ad:J)(cd:Bool)(bj:J)(ig:Bool)(dU:J)(sY:Bool)(jM:J)
  (H1:call (.bQ l) [.agg [.int .u64 (.ofNat 0),.int .u64 (.ofNat 240),.int .u8 (.ofNat 0),.int .i64 (.ofNat 0)]] h=av.ret (.bool cd) bj)
  (bl:(!cd)=false)
  (cz:call (.bQ l) [.agg [.int .u64 (.ofNat 240),.int .u64 (.ofNat 2287),.int .u8 (.ofNat 241),.int .i64 (.ofNat 1)]] bj=av.ret (.bool ig) dU)
  (cv:(!ig)=false)
  (dR:call (.bQ l) [.agg [.int .u64 (.ofNat 2288),.int .u64 (.ofNat 67823),.int .u8 (.ofNat 249),.int .i64 (.ofNat 2)]] dU=av.ret (.bool sY) jM)
  (gV:(!sY)=false):
  aV Tryz.prog Tryz.f89 none call [0] (ao.mk [(0,.bQ l)] [] .none h) (.nrm)
   (ao.mk [(0,.bQ l)] [] .none jM):=
 bY [0] (hs:=[.c (.bool cd) bj,.b false,.b false,.b false,.c (.bool ig) dU,.b false,.b false,.b false,.b false,.b false,.c (.bool sY) jM,.b false,.b false,.b false]) (by kernel_rfl)<| .cons H1<| .cons bl<| .cons bl<| .cons bl<| .cons cz<| .cons bl<| .cons bl<| .cons cv<| .cons cv<| .cons cv<| .cons dR<| .cons cv<| .cons cv<| .cons gV<| .nil
theorem TZ(call:aP->List I->J->av)(l:Nat)(h:J):
  aV Tryz.prog Tryz.f89 none call [1,0] (ao.mk [(0,.bQ l)] [] .none h) (.nrm)
   (ao.mk [(0,.bQ l),(2,.int .i64 (.ofNat 3))] [] .none h):=
 bY [0,2] (hs:=[]) (by kernel_rfl)<| .nil
theorem T0(call:aP->List I->J->av)(l i:Nat)(h:J)(de d_ fT gy iF:Nat)(cd:Bool)(bj:J)
  (H1:fh (.ofNat i) (.ofNat 8)=true)
  (bl:arith .sub .i64 (.ofNat 8) (.ofNat i)=some (.int .i64 (.ofNat de)))
  (cz:arith .mul .i64 (.ofNat 8) (.ofNat de)=some (.int .i64 (.ofNat d_)))
  (cv:nx .shr .u64 (.ofNat 18446744073709551615) (.ofNat d_)=some (.int .u64 (.ofNat fT)))
  (dR:arith .add .i64 (.ofNat 247) (.ofNat i)=some (.int .i64 (.ofNat gy)))
  (gV:fp Tryz.prog 3 5 (I.int IntKind.i64 (Int.ofNat gy)) h=gg.val (I.int IntKind.u8 (Int.ofNat iF)) h)
  (na:call (.bQ l) [.agg [.int .u64 (.ofNat 0),.int .u64 (.ofNat fT),.int .u8 (.ofNat iF),.int .i64 (.ofNat i)]] h=av.ret (.bool cd) bj)
  (w8:(!cd)=true):
  aV Tryz.prog Tryz.f89 none call [1,1,0,0] (ao.mk [(0,.bQ l),(2,.int .i64 (.ofNat i))] [] .none h) (.ret)
   (ao.mk [(0,.bQ l),(2,.int .i64 (.ofNat i))] [] .none bj):=
 bY [0,2] (hs:=[.b true,.v (.int .i64 (.ofNat de)),.v (.int .i64 (.ofNat d_)),.v (.int .u64 (.ofNat fT)),.v (.int .i64 (.ofNat gy)),.v (.int .u8 (.ofNat iF)),.c (.bool cd) bj,.b true]) (by kernel_rfl)<| .cons H1<| .cons bl<| .cons cz<| .cons cv<| .cons dR<| .cons gV<| .cons na<| .cons w8<| .nil
theorem T1(call:aP->List I->J->av)(l i:Nat)(h:J)(de d_ fT gy iF:Nat)(cd:Bool)(bj:J)(km:Nat)
  (H1:fh (.ofNat i) (.ofNat 8)=true)
  (bl:arith .sub .i64 (.ofNat 8) (.ofNat i)=some (.int .i64 (.ofNat de)))
  (cz:arith .mul .i64 (.ofNat 8) (.ofNat de)=some (.int .i64 (.ofNat d_)))
  (cv:nx .shr .u64 (.ofNat 18446744073709551615) (.ofNat d_)=some (.int .u64 (.ofNat fT)))
  (dR:arith .add .i64 (.ofNat 247) (.ofNat i)=some (.int .i64 (.ofNat gy)))
  (gV:fp Tryz.prog 3 5 (I.int IntKind.i64 (Int.ofNat gy)) h=gg.val (I.int IntKind.u8 (Int.ofNat iF)) h)
  (na:call (.bQ l) [.agg [.int .u64 (.ofNat 0),.int .u64 (.ofNat fT),.int .u8 (.ofNat iF),.int .i64 (.ofNat i)]] h=av.ret (.bool cd) bj)
  (w8:(!cd)=false)
  (DN:arith .add .i64 (.ofNat i) (.ofNat 1)=some (.int .i64 (.ofNat km))):
  aV Tryz.prog Tryz.f89 none call [1,1,0,0] (ao.mk [(0,.bQ l),(2,.int .i64 (.ofNat i))] [] .none h) (.nrm)
   (ao.mk [(0,.bQ l),(2,.int .i64 (.ofNat km))] [] .none bj):=
 bY [0,2] (hs:=[.b true,.v (.int .i64 (.ofNat de)),.v (.int .i64 (.ofNat d_)),.v (.int .u64 (.ofNat fT)),.v (.int .i64 (.ofNat gy)),.v (.int .u8 (.ofNat iF)),.c (.bool cd) bj,.b false,.v (.int .i64 (.ofNat km))]) (by kernel_rfl)<| .cons H1<| .cons bl<| .cons cz<| .cons cv<| .cons dR<| .cons gV<| .cons na<| .cons w8<| .cons DN<| .nil
theorem T2(call:aP->List I->J->av)(n:Nat)(h:J):
  aV Tryz.prog Tryz.f73 none call [0] (ao.mk [(0,.int .u64 (.ofNat n))] [] .none h) (.nrm)
   (ao.mk [(1,.ptr (J.n h) 0),(2,.ptr (J.n (J.push h (.cells [.int .u64 (.ofNat n)] 65 .own 0 0))) 0)] [] .none (J.push (J.push h (.cells [.int .u64 (.ofNat n)] 65 .own 0 0)) (.cells [.int .u64 (.ofNat 0),.int .u64 (.ofNat 0),.int .u8 (.ofNat 0),.int .i64 (.ofNat 0)] 120 .own 0 0))):=
 bY [1,2] (hs:=[]) (by kernel_rfl)<| .nil
theorem T3(call:aP->List I->J->av)(a b:Nat)(h:J)(DO:I)(bj:J)
  (H1:call (.fn 72) [] h=av.ret DO bj):
  aV Tryz.prog Tryz.f73 none call [1,0,0] (ao.mk [(1,.ptr a 0),(2,.ptr b 0)] [] .none h) (.nrm)
   (ao.mk [(1,.ptr a 0),(2,.ptr b 0),(4,DO)] [] .none bj):=
 bY [1,2,4] (hs:=[.c DO bj]) (by kernel_rfl)<| .cons H1<| .nil
theorem T4(call:aP->List I->J->av)(l a b:Nat)(x:List I)(h bj:J)
  (H1:some 4=some (List.length x)/\aw.storeCells (J.push h (ca.cells [I.int IntKind.u64 (Int.ofNat 0),I.int IntKind.u64 (Int.ofNat 0),I.int IntKind.u8 (Int.ofNat 0),I.int IntKind.i64 (Int.ofNat 0)] 120 fB.own 0 0)) (J.n h) 0 x=some bj/\I.aK []=I.aK []):
  aV Tryz.prog Tryz.f73 (some l) call [1,0,1,0,0] (ao.mk [(5,.agg x),(1,.ptr a 0),(2,.ptr b 0)] [] .none h) (.nrm)
   (ao.mk [(1,.ptr a 0),(2,.ptr b 0),(3,.ptr (J.n h) 0)] [] .none bj):=
 bY [1,2,3] (hs:=[.hT (.aK []) bj]) (by kernel_rfl)<| .cons H1<| .nil
theorem T5(call:aP->List I->J->av)(l a b c:Nat)(h:J)(de d_ fT gy:Nat)(bj:J)(iF km:Nat)
  (H1:aw.loadCells h c 0 4=some [.int .u64 (.ofNat de),.int .u64 (.ofNat d_),.int .u8 (.ofNat fT),.int .i64 (.ofNat gy)])
  (bl:aw.storeCells h b 0 [.int .u64 (.ofNat de),.int .u64 (.ofNat d_),.int .u8 (.ofNat fT),.int .i64 (.ofNat gy)]=some bj)
  (cz:ay bj a 0=some (.int .u64 (.ofNat iF)))
  (cv:ay bj c (0+1)=some (.int .u64 (.ofNat km)))
  (dR:fh (.ofNat iF) (.ofNat km)=true):
  aV Tryz.prog Tryz.f73 (some l) call [1,0,1,0,1] (ao.mk [(1,.ptr a 0),(2,.ptr b 0),(3,.ptr c 0)] [] .none h) (.exit 0)
   (ao.mk [] [] .none bj):=
 bY [] (hs:=[.v (.agg [.int .u64 (.ofNat de),.int .u64 (.ofNat d_),.int .u8 (.ofNat fT),.int .i64 (.ofNat gy)]),.hT (.aK []) bj,.v (.int .u64 (.ofNat iF)),.v (.int .u64 (.ofNat km)),.b true]) (by kernel_rfl)<| .cons H1<| .cons (⟨by kernel_rfl,bl,rfl⟩:some 4=some 4/\aw.storeCells h b 0 [I.int IntKind.u64 (Int.ofNat de),I.int IntKind.u64 (Int.ofNat d_),I.int IntKind.u8 (Int.ofNat fT),I.int IntKind.i64 (Int.ofNat gy)]=some bj/\I.aK []=I.aK [])<| .cons cz<| .cons cv<| .cons dR<| .nil
theorem T6(call:aP->List I->J->av)(l a b c:Nat)(h:J)(de d_ fT gy:Nat)(bj:J)(iF km:Nat)
  (H1:aw.loadCells h c 0 4=some [.int .u64 (.ofNat de),.int .u64 (.ofNat d_),.int .u8 (.ofNat fT),.int .i64 (.ofNat gy)])
  (bl:aw.storeCells h b 0 [.int .u64 (.ofNat de),.int .u64 (.ofNat d_),.int .u8 (.ofNat fT),.int .i64 (.ofNat gy)]=some bj)
  (cz:ay bj a 0=some (.int .u64 (.ofNat iF)))
  (cv:ay bj c (0+1)=some (.int .u64 (.ofNat km)))
  (dR:fh (.ofNat iF) (.ofNat km)=false):
  aV Tryz.prog Tryz.f73 (some l) call [1,0,1,0,1] (ao.mk [(1,.ptr a 0),(2,.ptr b 0),(3,.ptr c 0)] [] .none h) (.nrm)
   (ao.mk [] [] .none bj):=
 bY [] (hs:=[.v (.agg [.int .u64 (.ofNat de),.int .u64 (.ofNat d_),.int .u8 (.ofNat fT),.int .i64 (.ofNat gy)]),.hT (.aK []) bj,.v (.int .u64 (.ofNat iF)),.v (.int .u64 (.ofNat km)),.b false]) (by kernel_rfl)<| .cons H1<| .cons (⟨by kernel_rfl,bl,rfl⟩:some 4=some 4/\aw.storeCells h b 0 [I.int IntKind.u64 (Int.ofNat de),I.int IntKind.u64 (Int.ofNat d_),I.int IntKind.u8 (Int.ofNat fT),I.int IntKind.i64 (Int.ofNat gy)]=some bj/\I.aK []=I.aK [])<| .cons cz<| .cons cv<| .cons dR<| .nil
theorem T7(call:aP->List I->J->av)(b:Nat)(d:List bA)(h:J)(de d_ fT gy:Nat)(bj:J)
  (H1:aw.loadCells h b 0 4=some [.int .u64 (.ofNat de),.int .u64 (.ofNat d_),.int .u8 (.ofNat fT),.int .i64 (.ofNat gy)])
  (bl:aw.storeCells h b 0 [.int .u64 (.ofNat de),.int .u64 (.ofNat d_),.int .u8 (.ofNat fT),.int .i64 (.ofNat gy)]=some bj):
  aV Tryz.prog Tryz.f73 none call [1,1] (ao.mk [(2,.ptr b 0)] d .none h) (.ret)
   (ao.mk [(2,.ptr b 0)] d .none bj):=
 bY [2] (hs:=[.v (.agg [.int .u64 (.ofNat de),.int .u64 (.ofNat d_),.int .u8 (.ofNat fT),.int .i64 (.ofNat gy)]),.hT (.aK []) bj]) (by kernel_rfl)<| .cons H1<| .cons (⟨by kernel_rfl,bl,rfl⟩:some 4=some 4/\aw.storeCells h b 0 [I.int IntKind.u64 (Int.ofNat de),I.int IntKind.u64 (Int.ofNat d_),I.int IntKind.u8 (Int.ofNat fT),I.int IntKind.i64 (Int.ofNat gy)]=some bj/\I.aK []=I.aK [])<| .nil
noncomputable abbrev w9:Nat->List I->J->Option (I×J):=Go.Proofs.b0.bW
noncomputable abbrev C(n:Nat):aP->List I->J->av:=Go.Proofs.b0.Y n
theorem Jy:Tryz.prog.underlying 65=some (.int .u64):=by kernel_rfl
theorem w_:Tryz.prog.underlying 5=some (.int .u8):=by kernel_rfl
theorem DP:Tryz.prog.underlying 3=some (.int .i64):=by kernel_rfl
theorem Jz:Tryz.prog.underlying 98=some (.slice 5):=by kernel_rfl
theorem wR:Tryz.prog.underlying 9=some .string:=by kernel_rfl
theorem JA(n:Nat)(h:J):fp Tryz.prog 65 5 (.int .u64 (Int.ofNat n)) h=.val (.int .u8 (Int.ofNat (n %256))) h:=y7 Jy w_ (wrap_u8 n)
theorem T8(n:Nat)(h:J):fp Tryz.prog 3 5 (.int .i64 (Int.ofNat n)) h=.val (.int .u8 (Int.ofNat (n %256))) h:=y7 DP w_ (wrap_u8 n)
theorem JB(n:Nat)(aG:n<9223372036854775808)(h:J):fp Tryz.prog 3 65 (.int .i64 (Int.ofNat n)) h=.val (.int .u64 (Int.ofNat n)) h:=y7 DP Jy (Cm n (by omega))
theorem T9(n:Nat):(UInt8.ofNat n).toNat=n %256:=by simp
theorem pB(n:Nat):(b_ n).length<=9:=by
 have:=zM n 5 3
 unfold b_
 split
 · rw[mq];simp
 · split
   · rw[List.length_append,mq,mq];simp
   · split
     · rw[List.length_append,mq,mq];simp
     · rw[List.length_append,mq,mq];unfold jO;simp;omega
def cS(t:List UInt8):List UInt8:=b_ t.length++t
end Go.Proofs.cT
namespace Go.Proofs.cT
open Go aw Go.Proofs Go.Proofs.dV
set_option maxRecDepth 100000
def gz(s:Nat×Nat×Nat×Nat):List I:=[.int .u64 (Int.ofNat s.1),.int .u64 (Int.ofNat s.2.1),.int .u8 (Int.ofNat s.2.2.1),.int .i64 (Int.ofNat s.2.2.2)]
theorem T_(i:Nat)(aa:3<=i)(ad:i<=8):18446744073709551615/2^(8*(8-i))=256^i-1:=by
 have:i=3\/i=4\/i=5\/i=6\/i=7\/i=8:=by omega
 rcases this with rfl|rfl|rfl|rfl|rfl|rfl<;>rfl
section
variable (m l n:Nat) (lq:J->Prop) (Q:Nat×Nat×Nat×Nat->J->Prop)
 (aU:∀s x,lq x->(n<=s.2.1->∃c5,C m (.bQ l) [.agg (gz s)] x=.ret (.bool false) c5/\Q s c5)/\(¬n<=s.2.1->∃c5,C m (.bQ l) [.agg (gz s)] x=.ret (.bool true) c5/\lq c5))
include aU
theorem JC(aG:n<18446744073709551616):∀(k i:Nat) (x:J),8-i=k->3<=i->i<=8->lq x->
  ∃c5,fw Tryz.prog Tryz.f89 none (C m) [1,1,0] (k+1) ⟨[(0,.bQ l),(2,.int .i64 (Int.ofNat i))],[],.none,x⟩ .ret ⟨[],[],.none,c5⟩/\Q (0,256^iZ n k i-1,247+iZ n k i,iZ n k i) c5
 |k,i,x,aq,ar,iQ,ab=>by
  have hs:=T_ i ar iQ
  have a6:0<256^i:=Nat.pow_pos (by omega)
  have jX:=T8 (247+i) x
  rw[Nat.mod_eq_of_lt (by omega)] at jX
  have hS:=Hs .u64 (i:=18446744073709551615) (j:=8*(8-i)) (by show 8*(8-i)<=64;omega)
  rw[hs] at hS
  obtain⟨fl,eE⟩:=aU (0,256^i-1,247+i,i) x ab
  by_cases hle:n<=256^i-1
  · obtain⟨c5,c1,c2⟩:=fl hle
    refine⟨c5,.exit (cW.post (T0 (C m) l i x _ _ _ _ _ false c5 (o6 iQ) (tS iQ (by omega)) (Cl (by omega)) hS (wm (by omega)) jX c1 rfl) trivial) (by simp),?_⟩
    have:iZ n k i=i:=by
     cases k with
     |zero=>rfl
     |succ k=>simp only[iZ];rw[if_pos (by omega)]
    rw[this];exact c2
  · obtain⟨c5,c1,c2⟩:=eE hle
    cases k with
    |zero=>
     have:i=8:=by omega
     subst this
     exact absurd (by omega:n<=256^8-1) hle
    |succ k=>
     obtain⟨bz,bq,bT⟩:=JC aG k (i+1) c5 (by omega) (by omega) (by omega) c2
     refine⟨bz,.step (T1 (C m) l i x _ _ _ _ _ true c5 _ (o6 iQ) (tS iQ (by omega)) (Cl (by omega)) hS (wm (by omega)) jX c1 rfl (wm (by omega))) bq,?_⟩
     simp only[iZ];rw[if_neg (by omega)];exact bT
theorem Ua(aG:n<18446744073709551616)(x:J)(ab:lq x):∃c5,C (m+1) (.fn 89) [.bQ l] x=.ret (.aK []) c5/\Q (fR n) c5:=by
 have fin:∀{Γ:Env} {c5:J},aV Tryz.prog Tryz.f89 none (C m) [] ⟨[(0,.bQ l)],[],.none,x⟩ .ret ⟨Γ,[],.none,c5⟩->C (m+1) (.fn 89) [.bQ l] x=.ret (.aK []) c5:=λai=>
  eY (intr:=w9) (n:=m) (args:=[.bQ l]) Tryz.func89 (by kernel_rfl) rfl (by kernel_rfl) ai (.inl rfl) (by kernel_rfl)
 obtain⟨cY,dr⟩:=aU (0,240,0,0) x ab
 by_cases aa:n<=240
 · obtain⟨bb,c1,aR⟩:=cY aa
   have:fR n=(0,240,0,0):=by simp[fR,aa]
   rw[this]
   exact⟨bb,fin (aV.iT (p:=[]) (by kernel_rfl) (TV (C m) l .nrm x x false bb c1 rfl) (by simp)),aR⟩
 · obtain⟨bb,c1,i1⟩:=dr aa
   obtain⟨a4,a_⟩:=aU (240,2287,241,1) bb i1
   by_cases ad:n<=2287
   · obtain⟨bz,c2,a3⟩:=a4 ad
     have:fR n=(240,2287,241,1):=by simp[fR,aa,ad]
     rw[this]
     exact⟨bz,fin (aV.iT (p:=[]) (by kernel_rfl) (TW (C m) l .nrm x x true bb false bz c1 rfl c2 rfl) (by simp)),a3⟩
   · obtain⟨bz,c2,i2⟩:=a_ ad
     obtain⟨d1,d2⟩:=aU (2288,67823,249,2) bz i2
     by_cases ar:n<=67823
     · obtain⟨cP,c3,ck⟩:=d1 ar
       have:fR n=(2288,67823,249,2):=by simp[fR,aa,ad,ar]
       rw[this]
       exact⟨cP,fin (aV.iT (p:=[]) (by kernel_rfl) (TX (C m) l .nrm x x true bb true bz false cP c1 rfl c2 rfl c3 rfl) (by simp)),ck⟩
     · obtain⟨cP,c3,i3⟩:=d2 ar
       obtain⟨iB,bq,bT⟩:=JC m l n lq Q aU aG 5 3 cP rfl (by omega) (by omega) i3
       have loop:=aV.tQ (p:=[1,1]) (id:=0) (by kernel_rfl) (fw.run (p:=[1,1,0]) (by kernel_rfl) bq (by omega)) (by simp)
       have:fR n=(0,256^iZ n 5 3-1,247+iZ n 5 3,iZ n 5 3):=by simp[fR,aa,ad,ar,jO]
       rw[this]
       exact⟨iB,fin (aV.seq (p:=[]) (by kernel_rfl) (TY (C m) l .nrm x x true bb true bz true cP c1 rfl c2 rfl c3 rfl) (aV.seq (p:=[1]) (by kernel_rfl) (TZ (C m) l cP) loop)),bT⟩
end
noncomputable def mr:Code:=sub (fm Tryz.f73) [1,0,1,0,0]
noncomputable def nj:Code:=sub (fm Tryz.f73) [1,0,1,0,1]
structure zQ(n N:Nat)(h:J)(r:aL)(x:J):Prop where
 num:x.get N=some (.cells [.int .u64 (Int.ofNat n)] 65 .own 0 0)
 out:∃a b c d,x.get (N+1)=some (.cells [a,b,c,d] 120 .own 0 0)
 iI:x.get (N+2)=some (.defrd (some []))
 pn:x.get (N+3)=some (.loop .ready none (dx Tryz.f73) r [5] mr nj (N+2))
 ext:Ext N h x
 rS:N+4<=x.n
structure JD(N:Nat)(h:J)(r:aL)(s:Nat×Nat×Nat×Nat)(x:J):Prop where
 out:x.get (N+1)=some (.cells (gz s) 120 .own 0 0)
 iI:x.get (N+2)=some (.defrd (some []))
 pn:x.get (N+3)=some (.loop .done (some (.exit 0)) (dx Tryz.f73) r [5] mr nj (N+2))
 ext:Ext N h x
theorem zR{h:J}{b t:Nat}{x:List I}(ab:x.length=4)(aj:h.get b=some (.cells x t .own 0 0)):aw.loadCells h b 0 4=some x:=by
 have:=y1 (xs:=x) (rest:=[]) (by simpa using aj)
 rwa [ab] at this
theorem zS{h:J}{b t:Nat}{cY dr h2 m5 c1 c2 c3 c4:I}(aa:c1.bC=true)(ad:c2.bC=true)(ar:c3.bC=true)(aM:c4.bC=true)(aj:h.get b=some (.cells [cY,dr,h2,m5] t .own 0 0)):aw.storeCells h b 0 [c1,c2,c3,c4]=some (h.set b (some (.cells [c1,c2,c3,c4] t .own 0 0))):=by
 have hw:im .own 0 0 0 [c1,c2,c3,c4].length=true:=rfl
 simp only[aw.storeCells,aj,hw,eB,aa,ad,ar,aM]
theorem Ub(m n N:Nat)(h:J)(r:aL)(hm:aw.Mod r [(1,.ptr N 0),(2,.ptr (N+1) 0)])(s:Nat×Nat×Nat×Nat)(x:J)(ae:zQ n N h r x):
  (n<=s.2.1->∃c5,C (m+1) (.bQ (N+3)) [.agg (gz s)] x=.ret (.bool false) c5/\JD N h r s c5)/\(¬n<=s.2.1->∃c5,C (m+1) (.bQ (N+3)) [.agg (gz s)] x=.ret (.bool true) c5/\zQ n N h r c5):=by
 obtain⟨vS,⟨a,b,c,d,ve⟩,Uc,DQ,qm,BD⟩:=ae
 have aU:C (m+1) (.bQ (N+3)) [.agg (gz s)] x=nD Tryz.prog (C m) (N+3) [.agg (gz s)] x:=rfl
 let bb:=(x.push (.cells [.int .u64 (Int.ofNat 0),.int .u64 (Int.ofNat 0),.int .u8 (Int.ofNat 0),.int .i64 (Int.ofNat 0)] 120 .own 0 0)).set x.n (some (.cells (gz s) 120 .own 0 0))
 have s1:=zS (c1:=.int .u64 (Int.ofNat s.1)) (c2:=.int .u64 (Int.ofNat s.2.1)) (c3:=.int .u8 (Int.ofNat s.2.2.1)) (c4:=.int .i64 (Int.ofNat s.2.2.2)) rfl rfl rfl rfl (by rw[J.ec,if_pos rfl]:(x.push (.cells [.int .u64 (Int.ofNat 0),.int .u64 (Int.ofNat 0),.int .u8 (Int.ofNat 0),.int .i64 (Int.ofNat 0)] 120 .own 0 0)).get x.n=_)
 have c0:∀j,j<x.n->bb.get j=x.get j:=λj aD=>by simp only[bb];rw[J.bL,if_neg (by omega),J.ec,if_neg (by omega)]
 have has:cW Tryz.prog (dx Tryz.f73) (some (N+3)) (C m) mr ⟨put 5 (.agg (gz s)) [(1,.ptr N 0),(2,.ptr (N+1) 0)],[],.none,x⟩ .nrm ⟨[(1,.ptr N 0),(2,.ptr (N+1) 0),(3,.ptr x.n 0)],[],.none,bb⟩:=
  cW.pre (st1:=⟨put 5 (.agg (gz s)) [(1,.ptr N 0),(2,.ptr (N+1) 0)],[],.none,x⟩) (T4 (C m) (N+3) N (N+1) (gz s) x bb ⟨rfl,s1,rfl⟩) ⟨rfl,rfl,rfl,trivial⟩ rfl rfl rfl
 have bq:bb.get (N+3)=some (.loop .ready none (dx Tryz.f73) r [5] mr nj (N+2)):=(c0 _ (by omega)).trans DQ
 let bz:=bb.set (N+3) (some (.loop .busy none (dx Tryz.f73) r [5] mr nj (N+2)))
 have gc:bz.get x.n=some (.cells (gz s) 120 .own 0 0):=by simp only[bz,bb];rw[J.bL,if_neg (by omega),J.bL,if_pos rfl]
 have p9:bz.get (N+1)=some (.cells [a,b,c,d] 120 .own 0 0):=by simp only[bz];rw[J.bL,if_neg (by omega),c0 _ (by omega)];exact ve
 have s2:=zS (c1:=.int .u64 (Int.ofNat s.1)) (c2:=.int .u64 (Int.ofNat s.2.1)) (c3:=.int .u8 (Int.ofNat s.2.2.1)) (c4:=.int .i64 (Int.ofNat s.2.2.2)) rfl rfl rfl rfl p9
 let cP:=bz.set (N+1) (some (.cells (gz s) 120 .own 0 0))
 have j1:cP.get N=some (.cells [.int .u64 (Int.ofNat n)] 65 .own 0 0):=by simp only[cP,bz];rw[J.bL,if_neg (by omega),J.bL,if_neg (by omega),c0 _ (by omega)];exact vS
 have zT:cP.get x.n=some (.cells (gz s) 120 .own 0 0):=by simp only[cP];rw[J.bL,if_neg (by omega)];exact gc
 have yv:ay cP x.n (0+1)=some (.int .u64 (Int.ofNat s.2.1)):=by simp only[ay,zT];rfl
 have aq:cP.get (N+3)=some (.loop .busy none (dx Tryz.f73) r [5] mr nj (N+2)):=by simp only[cP,bz];rw[J.bL,if_neg (by omega),J.bL,if_pos rfl]
 have ex:Ext N h cP:=((((qm.trans (Nat.le_refl _) (Ext.push (by omega) _)).trans (Nat.le_refl _) (Ext.set (by omega) _)).trans (Nat.le_refl _) (Ext.set (by omega) _)).trans (Nat.le_refl _) (Ext.set (by omega) _))
 have gd:cP.get (N+2)=some (.defrd (some [])):=by simp only[cP,bz];rw[J.bL,if_neg (by omega),J.bL,if_neg (by omega),c0 _ (by omega)];exact Uc
 have go:cP.get (N+1)=some (.cells (gz s) 120 .own 0 0):=by simp only[cP];rw[J.bL,if_pos rfl]
 have Ud:cP.n=x.n+1:=rfl
 refine⟨λhle=>?_,λhle=>?_⟩
 · have af:=T5 (C m) (N+3) N (N+1) x.n bz s.1 s.2.1 s.2.2.1 s.2.2.2 cP n s.2.1 (zR rfl gc) s2 (kO j1) yv (o6 hle)
   have DR:=Ht DQ hm has bq (cW.pre (st1:=⟨[(1,.ptr N 0),(2,.ptr (N+1) 0),(3,.ptr x.n 0)],[],.none,bz⟩) af ⟨rfl,rfl,rfl,trivial⟩ rfl rfl rfl) aq
   refine⟨_,aU.trans DR,⟨?_,?_,?_,ex.trans (Nat.le_refl _) (Ext.set (by omega) _)⟩⟩
   · rw[J.bL,if_neg (by omega)];exact go
   · rw[J.bL,if_neg (by omega)];exact gd
   · rw[J.bL,if_pos rfl]
 · have af:=T6 (C m) (N+3) N (N+1) x.n bz s.1 s.2.1 s.2.2.1 s.2.2.2 cP n s.2.1 (zR rfl gc) s2 (kO j1) yv (y6 hle)
   have DR:=Ht DQ hm has bq (cW.pre (st1:=⟨[(1,.ptr N 0),(2,.ptr (N+1) 0),(3,.ptr x.n 0)],[],.none,bz⟩) af ⟨rfl,rfl,rfl,trivial⟩ rfl rfl rfl) aq
   refine⟨_,aU.trans DR,⟨?_,⟨.int .u64 (Int.ofNat s.1),.int .u64 (Int.ofNat s.2.1),.int .u8 (Int.ofNat s.2.2.1),.int .i64 (Int.ofNat s.2.2.2),?_⟩,?_,?_,ex.trans (Nat.le_refl _) (Ext.set (by omega) _),by simp[Ud];omega⟩⟩
   · rw[J.bL,if_neg (by omega)];exact j1
   · rw[J.bL,if_neg (by omega)];exact go
   · rw[J.bL,if_neg (by omega)];exact gd
   · rw[J.bL,if_pos rfl]
theorem Ue(n:Nat)(h:J):C (n+1) (.fn 72) [] h=.ret (.fn 89 [] []) h:=
 eY (intr:=w9) (n:=n) (args:=[]) Tryz.func72 (by kernel_rfl) rfl (by kernel_rfl) (TU (C n) h) (.inl rfl) (by kernel_rfl)
theorem Uf(m n:Nat)(h:J)(aG:n<18446744073709551616):∃ak,C (m+3) (.fn 73) [.int .u64 (Int.ofNat n)] h=.ret (.agg (gz (fR n))) ak/\Ext h.n h ak:=by
 let aa:=(h.push (.cells [.int .u64 (Int.ofNat n)] 65 .own 0 0)).push (.cells [.int .u64 (Int.ofNat 0),.int .u64 (Int.ofNat 0),.int .u8 (Int.ofNat 0),.int .i64 (Int.ofNat 0)] 120 .own 0 0)
 have w:WF Tryz.prog Tryz.f73 none (C (m+2)) [] (λe r d q ak=>∃ib,k9 Tryz.prog (C (m+2)) Tryz.f73 (.ok e r d q ak)=.ret (.agg (gz (fR n))) ib/\Ext h.n h ib) (mG 0 [.int .u64 (Int.ofNat n)] .leaf) [] .none h:=by
  refine WF.seq (p:=[]) (by kernel_rfl) (W.of (T2 (C (m+2)) n h) (yY [.int .u64 (Int.ofNat n)]) λr1 cm=>.inl ⟨rfl,?_⟩)
  refine WF.seq (p:=[1]) (by kernel_rfl) ?_
  refine WF.seq (p:=[1,0]) (by kernel_rfl) (W.of (T3 (C (m+2)) h.n (h.n+1) aa _ aa (Ue (m+1) aa)) cm λr2 fY=>.inl ⟨rfl,?_⟩)
  refine WF.block (p:=[1,0,1]) (id:=0) (by kernel_rfl) ?_
  refine WF.range (p:=[1,0,1,0]) (t:=4) (ps:=[5]) (by kernel_rfl) (by kernel_rfl) (hf:=rfl) (hm:=fY) ?_
  let hG:=(aa.push (.defrd (some []))).push (.loop .ready none (dx Tryz.f73) r2 [5] mr nj (h.n+2))
  have i0:zQ n h.n h r2 hG:=by
   refine⟨?_,⟨.int .u64 (Int.ofNat 0),.int .u64 (Int.ofNat 0),.int .u8 (Int.ofNat 0),.int .i64 (Int.ofNat 0),?_⟩,?_,?_,?_,?_⟩
   · simp only[hG,aa,J.ec,J.lT];grind
   · simp only[hG,aa,J.ec,J.lT];rw[if_neg (by omega),if_neg (by omega)];simp
   · simp only[hG,aa,J.ec,J.lT];grind
   · simp only[hG,aa,J.ec,J.lT];grind
   · exact(((Ext.push (Nat.le_refl _) _).trans (Nat.le_refl _) (Ext.push (by simp) _)).trans (Nat.le_refl _) (Ext.push (by simp[aa];omega) _)).trans (Nat.le_refl _) (Ext.push (by simp[aa];omega) _)
   · simp[hG,aa]
  have JE:aw.Mod r2 [(1,.ptr h.n 0),(2,.ptr (h.n+1) 0)]:=fY.sub ⟨rfl,rfl,trivial⟩
  obtain⟨x,c7,fu⟩:=Ua (m+1) (h.n+3) n (zQ n h.n h r2) (JD h.n h r2) (λs x ab=>Ub m n h.n h r2 JE s x ab) aG hG i0
  have wQ:jV (h.n+3) r2 [.collected (h.n+2)] .none (.ret (.aK []) x)=.ok (.exit 0) r2 [.collected (h.n+2)] .none (x.set (h.n+3) (some (.loop .exhausted (some (.exit 0)) (dx Tryz.f73) r2 [5] mr nj (h.n+2)))):=by
   simp only[jV,fu.pn]
  refine⟨.exit 0,_,(congrArg (jV (h.n+3) r2 [.collected (h.n+2)] .none) c7).trans wQ,.inl ⟨rfl,.inl ⟨rfl,?_⟩⟩⟩
  have go:(x.set (h.n+3) (some (.loop .exhausted (some (.exit 0)) (dx Tryz.f73) r2 [5] mr nj (h.n+2)))).get (h.n+1)=some (.cells (gz (fR n)) 120 .own 0 0):=by rw[J.bL,if_neg (by omega)];exact fu.out
  have gd:(x.set (h.n+3) (some (.loop .exhausted (some (.exit 0)) (dx Tryz.f73) r2 [5] mr nj (h.n+2)))).get (h.n+2)=some (.defrd (some [])):=by rw[J.bL,if_neg (by omega)];exact fu.iI
  have ex:Ext h.n h (x.set (h.n+3) (some (.loop .exhausted (some (.exit 0)) (dx Tryz.f73) r2 [5] mr nj (h.n+2)))):=fu.ext.trans (Nat.le_refl _) (Ext.set (by omega) _)
  generalize x.set (h.n+3) (some (.loop .exhausted (some (.exit 0)) (dx Tryz.f73) r2 [5] mr nj (h.n+2)))=y at go gd ex
  have b5:=zS (c1:=.int .u64 (Int.ofNat (fR n).1)) (c2:=.int .u64 (Int.ofNat (fR n).2.1)) (c3:=.int .u8 (Int.ofNat (fR n).2.2.1)) (c4:=.int .i64 (Int.ofNat (fR n).2.2.2)) rfl rfl rfl rfl go
  refine W.of (T7 (C (m+2)) (h.n+1) [.collected (h.n+2)] y _ _ _ _ _ (zR rfl go) b5) (JE.sub ⟨rfl,trivial⟩) λeU uA=>?_
  let fl:=(y.set (h.n+1) (some (.cells (gz (fR n)) 120 .own 0 0)))
  have Ug:fl.get (h.n+2)=some (.defrd (some [])):=by simp only[fl];rw[J.bL,if_neg (by omega)];exact gd
  have Uh:(fl.set (h.n+2) (some (.defrd none))).get (h.n+1)=some (.cells (gz (fR n)) 120 .own 0 0):=by simp only[fl];rw[J.bL,if_neg (by omega),J.bL,if_pos rfl]
  have hR:oH Tryz.prog (dx Tryz.f73) Tryz.f73 eU (fl.set (h.n+2) (some (.defrd none)))=some (.agg (gz (fR n))):=by
   refine Cf uA ?_
   have aC:Tryz.f73.results.toList=[.cell 2 120]:=by kernel_rfl
   have ax:Nat.testBit (dx Tryz.f73) 2=true:=by kernel_rfl
   have bp:k6 Tryz.prog 120=some true:=by kernel_rfl
   have ds:cV Tryz.prog 120=some 4:=by kernel_rfl
   have hh:eX 2 [(2,I.ptr (h.n+1) 0)]=some (.ptr (h.n+1) 0):=rfl
   simp only[m1,aC,lR,n0,ax,bp,ds,hh,zR rfl Uh]
  refine⟨fl.set (h.n+2) (some (.defrd none)),?_,(ex.trans (Nat.le_refl _) (Ext.set (by omega) _)).trans (Nat.le_refl _) (Ext.set (by omega) _)⟩
  show k9 Tryz.prog (C (m+2)) Tryz.f73 (.ok .ret eU [.collected (h.n+2)] .none fl)=_
  simp only[k9,iO,Ug,List.nil_append,hR]
 obtain⟨e,r,d,q,ak,dp,ib,cC,vL⟩:=w
 exact⟨ib,Hn (intr:=w9) (n:=m+2) (args:=[.int .u64 (Int.ofNat n)]) Tryz.func73 (by kernel_rfl) rfl (by kernel_rfl) ⟨e,r,d,q,ak,dp,cC⟩,vL⟩
end Go.Proofs.cT
namespace Go.Proofs.cT
open Go aw Go.Proofs Go.Proofs.dV
set_option maxRecDepth 100000
abbrev qZ:I:=.int .u8 (Int.ofNat 0)
theorem JF(n:Nat)(acc:List UInt8):(I.int .u8 (Int.ofNat (n %256)))::cD acc=cD (UInt8.ofNat (n %256)::acc):=by
 simp only[cD,T9,Nat.mod_mod]
theorem JG(call:aP->List I->J->av)(s:List UInt8)(z b:Nat)(p:I):∀(i m:Nat) (acc:List UInt8) (x:J),i<=z->z<=8->x.get b=some (.cells (List.replicate (i+1) qZ++cD acc) 5 .own 0 0)->
  ∃c5,fw Tryz.prog Tryz.f52 none call [1,1,1,1,0,1,0] (i+1) ⟨[(0,.str s),(1,.int .u64 (Int.ofNat m)),(5,p),(6,.slice b 0 (z+1) (.exact (z+1))),(7,.int .i64 (Int.ofNat i))],[],.none,x⟩ (.exit 0) ⟨[(0,.str s),(1,.int .u64 (Int.ofNat (m/256^i))),(5,p),(6,.slice b 0 (z+1) (.exact (z+1)))],[],.none,c5⟩/\
   c5.get b=some (.cells (qZ::cD (hk m i acc)) 5 .own 0 0)/\ep b x.n x c5
 |0,m,acc,x,ae,aT,aj=>by
  refine⟨x,.exit (cW.post (TT _ _ _ _ _ _ _ _ (o4 (by omega))) ⟨rfl,by simp[eX],rfl,rfl,trivial⟩) (by simp),aj,ep.refl _ _ _⟩
 |i+1,m,acc,x,ae,aT,aj=>by
  have e:List.replicate (i+1+1) qZ++cD acc=List.replicate (i+1) qZ++qZ::cD acc:=by rw[List.replicate_succ',List.append_assoc];rfl
  rw[e] at aj
  have st:=Hv (.inl rfl) aj (off:=0+(i+1)*1) (x:=.int .u8 (Int.ofNat (m %256))) (by simp) rfl
  rw[JF] at st
  have b1:=Hs .u64 (i:=m) (j:=8) (by decide)
  obtain⟨c5,bq,bT,eI⟩:=JG call s z b p i (m/2^8) (UInt8.ofNat (m %256)::acc) (x.set b (some (.cells (List.replicate (i+1) qZ++cD (UInt8.ofNat (m %256)::acc)) 5 .own 0 0))) (by omega) aT (by rw[J.bL,if_pos rfl])
  have em:m/2^8/256^i=m/256^(i+1):=by rw[show(2:Nat)^8=256 from rfl,Nat.div_div_eq_div_mul,Nat.pow_succ,Nat.mul_comm]
  rw[em] at bq
  refine⟨c5,.step ?_ bq,bT,(ep.set _).trans (Nat.le_refl _) eI⟩
  exact(TS _ _ _ _ _ _ _ _ _ _ _ _ (kM (by omega)) (JA m x) (by show(_:Nat)<=_;omega) (st) (b1) (tS (by omega) (by omega)))
theorem JH(m n:Nat)(s:List UInt8)(h:J)(aG:n<18446744073709551616)(hs:s.length<=1000000000):∃ak,C (m+4) (.fn 52) [.str s,.int .u64 (Int.ofNat n)] h=.ret (.str (s++b_ n)) ak/\Ext h.n h ak:=by
 obtain⟨al,c1,bb⟩:=Uf m n h aG
 obtain⟨xY,aT,_⟩:=TC n aG
 have kn:=TB n aG
 have hlen:=pB n
 rw[<-kn] at hlen⊢
 generalize Ui:fR n=sZ at c1 xY aT
 obtain⟨cg,to,i_,z⟩:=sZ
 simp only at xY aT
 let au:=(al.push (.cells [.int .u64 (Int.ofNat 0),.int .u64 (Int.ofNat 0),.int .u8 (Int.ofNat 0),.int .i64 (Int.ofNat 0)] 120 .own 0 0)).set al.n (some (.cells (gz (cg,to,i_,z)) 120 .own 0 0))
 have s2:=zS (c1:=.int .u64 (Int.ofNat cg)) (c2:=.int .u64 (Int.ofNat to)) (c3:=.int .u8 (Int.ofNat i_)) (c4:=.int .i64 (Int.ofNat z)) rfl rfl rfl rfl (by rw[J.ec,if_pos rfl]:(al.push (.cells [.int .u64 (Int.ofNat 0),.int .u64 (Int.ofNat 0),.int .u8 (Int.ofNat 0),.int .i64 (Int.ofNat 0)] 120 .own 0 0)).get al.n=_)
 have xa:au.get al.n=some (.cells (gz (cg,to,i_,z)) 120 .own 0 0):=by simp only[au];rw[J.bL,if_pos rfl]
 have bw:au.n=al.n+1:=rfl
 let a7:=au.push (.cells (List.replicate (z+1) qZ) 5 .own 0 0)
 have JI:a7.get al.n=some (.cells (gz (cg,to,i_,z)) 120 .own 0 0):=by simp only[a7];rw[J.ec,if_neg (by omega)];exact xa
 have Uj:a7.get au.n=some (.cells (List.replicate (z+1) qZ++cD []) 5 .own 0 0):=by simp only[a7];rw[J.ec,if_pos rfl];simp[cD]
 have mk:tK Tryz.prog au 98 (.int .i64 (Int.ofNat (1+z))) (.int .i64 (Int.ofNat (1+z)))=some (.slice au.n 0 (z+1) (.exact (z+1)),a7):=by
  rw[Nat.add_comm 1 z]
  exact Pp (i:=((Tryz.prog.info? 5).getD default)) Jz (by kernel_rfl) (by kernel_rfl) (by kernel_rfl) (by kernel_rfl) (by omega) (by omega)
 obtain⟨b8,bq,bT,eI⟩:=JG (C (m+3)) s z au.n (.ptr al.n 0) z (n-cg) [] a7 (Nat.le_refl _) aT Uj
 have loop:=fw.run (p:=[1,1,1,1,0,1,0]) (by kernel_rfl) bq (by omega)
 have Uk:b8.get al.n=some (.cells (gz (cg,to,i_,z)) 120 .own 0 0):=(eI.get _ (by simp[a7,bw];omega) (by omega)).trans JI
 have aC:(i_+(n-cg)/256^z %256) %256=(i_+(n-cg)/256^z) %256:=by omega
 have p8:cD (oq n)=.int .u8 (Int.ofNat ((i_+(n-cg)/256^z) %256))::cD (hk (n-cg) z []):=by
  rw[JF];simp only[oq,Ui]
 have sR:(oq n).length=z+1:=by
  have:=congrArg List.length p8
  simp only[o5,List.length_cons,mq] at this
  simpa using this
 let db:=b8.set au.n (some (.cells (cD (oq n)) 5 .own 0 0))
 have Ul:aw.storeCells b8 au.n (0+0*1) [.int .u8 (Int.ofNat ((i_+(n-cg)/256^z %256) %256))]=some db:=by
  have:=Hv (l:=[]) (k:=.own) (.inl rfl) bT (off:=0+0*1) (x:=.int .u8 (Int.ofNat ((i_+(n-cg)/256^z %256) %256))) (by simp) rfl
  rw[this];simp only[db,p8,aC,List.nil_append]
 have Um:db.get au.n=some (.cells (cD (oq n)++[]) 5 .own 0 0):=by simp only[db];rw[J.bL,if_pos rfl];simp
 have p7:=Po (P:=Tryz.prog) (a:=98) (b:=9) (cap:=.exact (oq n).length) Jz w_ wR (.inl rfl) Um
 rw[sR] at p7
 refine⟨db,?_,?_⟩
 · exact eY (intr:=w9) (n:=m+3) (args:=[.str s,.int .u64 (Int.ofNat n)]) Tryz.func52 (by kernel_rfl) rfl (by kernel_rfl)
    (dP (C (m+3)) n cg to i_ z au.n ((n-cg)/256^z) s h al au a7 b8 au cg (n-cg) z (1+z) z i_ ((n-cg)/256^z %256) ((i_+(n-cg)/256^z %256) %256) db (oq n) (s++oq n)
     c1 s2 (by simp only[ay,xa];rfl) (Hr (by omega) aG) (by simp only[ay,xa];rfl) (wm (by omega)) mk (by simp only[ay,JI];rfl) (cW.pre loop ⟨rfl,rfl,rfl,rfl,rfl,trivial⟩ rfl rfl rfl)
     (by simp only[ay,Uk];rfl) (JA _ b8) Pn (by show 1<=z+1;omega) Ul p7 (y2 (by omega))) (.inl rfl) (by kernel_rfl)
 · have cY:Ext h.n h au:=(bb.trans (Nat.le_refl _) (Ext.push bb.n _)).trans (Nat.le_refl _) (Ext.set bb.n _)
   have af:h.n<=au.n:=by have:=bb.n;omega
   have dr:Ext h.n h a7:=cY.trans (Nat.le_refl _) (Ext.push af _)
   exact(dr.trans (Nat.le_refl _) ((eI.le (by have:=dr.n;omega)).Pr af)).trans (Nat.le_refl _) (Ext.set af _)
theorem xb(t:List UInt8):(cS t).length<=9+t.length:=by
 have:=pB t.length
 unfold cS;rw[List.length_append];omega
theorem Un(m:Nat)(s t:List UInt8)(h:J)(hs:s.length<=100000000)(aQ:t.length<=100000000):∃ak,C (m+5) (.fn 64) [.str s,.str t] h=.ret (.str (s++cS t)) ak/\Ext h.n h ak:=by
 obtain⟨g,c1,bb⟩:=JH m t.length s h (by omega) (by omega)
 have an:=pB t.length
 refine⟨g,?_,bb⟩
 rw[cS,<-List.append_assoc]
 exact eY (intr:=w9) (n:=m+4) (args:=[.str s,.str t]) Tryz.func64 (by kernel_rfl) rfl (by kernel_rfl) (ux (C (m+4)) s t h _ _ g _ (JB _ (by omega) h) c1 (y2 (by simp;omega))) (.inl rfl) (by kernel_rfl)
end Go.Proofs.cT
namespace Go.Proofs.cT
open Go aw Go.Proofs Go.Proofs.dV
set_option maxRecDepth 100000
set_option maxHeartbeats 1000000
theorem vN(call:aP->List I->J->av)(p:Nat)(h:J)(cd:Bool)
  (H1:ay h p (0+1)=some (.bool cd)):
  aV Tryz.prog Tryz.f26 none call [] (ao.mk [(0,.ptr p 0)] [] .none h) (.ret)
   (ao.mk [(2,.bool !cd)] [] .none h):=
 bY [2] (hs:=[.v (.bool !false),.b true,.b true,.b true,.b true,.v (.bool cd),.b true,.b true]) (by kernel_rfl)<| .cons (by kernel_rfl:dX Tryz.prog h BinOp.neq 60 (Operand.tmp 3) (Operand.const (Value.pointer none)) (I.ptr p 0) I.bd=some (I.bool !false))<| .cons (by kernel_rfl:(!false)=true)<| .cons (by kernel_rfl:(!false)=true)<| .cons (by kernel_rfl:(!false)=true)<| .cons (by kernel_rfl:(!false)=true)<| .cons H1<| .cons (by kernel_rfl:(!false)=true)<| .cons (by kernel_rfl:(!false)=true)<| .nil
theorem sO:∀s:List UInt8,bR s []=s.isEmpty
 |[]=>rfl
 |_::_=>rfl
def nk(h:J)(p:Nat)(st:ea):Prop:=p<h.n/\(left st).length<=1000000/\h.get p=some (.cells [.str (left st),.bool st.isNone] 73 .own 0 0)
def lK:ea->Bool
 |none=>false
 |some s=>s.isEmpty
end Go.Proofs.cT
namespace Go.Proofs.cT
open Go aw Go.Proofs Go.Proofs.dV
set_option maxRecDepth 100000
set_option maxHeartbeats 1000000
def mu(h:J)(p:Nat)(v:I)(s:List UInt8):Prop:=
 (s=[]/\∃b o,v=.slice b o 0 .dead)\/∃b pre,v=.slice b pre.length s.length (.aN 1)/\b<h.n/\b<p/\h.get b=some (.cells (cD (pre++s)) 5 .aN 0 0)
def nm(h:J)(p:Nat):ea->Prop
 |none=>p<h.n/\h.get p=some (.cells [.a0,.bool true] 100 .own 0 0)
 |some s=>p<h.n/\s.length<=1000000/\∃v,h.get p=some (.cells [v,.bool false] 100 .own 0 0)/\mu h p v s
end Go.Proofs.cT
namespace Go.Proofs.cT
open Go aw Go.Proofs Go.Proofs.dV
set_option maxRecDepth 100000
set_option maxHeartbeats 1000000
def JJ:Nat->Nat×Nat×Nat×Nat
 |0=>(0,240,0,0)
 |1=>(240,2287,241,1)
 |2=>(2288,67823,249,2)
 |k=>(0,256^k-1,247+k,k)
section
variable (m l:Nat) (lq:Nat->J->Prop) (Q:J->Prop)
 (aU:∀k x,k<9->lq k x->(∃c5,C m (.bQ l) [.agg (gz (JJ k))] x=.ret (.bool true) c5/\lq (k+1) c5)\/(∃c5,C m (.bQ l) [.agg (gz (JJ k))] x=.ret (.bool false) c5/\Q c5))
include aU
end
end Go.Proofs.cT
namespace Go.Proofs.cT
open Go aw Go.Proofs Go.Proofs.dV
set_option maxRecDepth 100000
set_option maxHeartbeats 1000000
end Go.Proofs.cT
namespace Go.Proofs.cT
open Go aw Go.Proofs Go.Proofs.dV
set_option maxRecDepth 100000
set_option maxHeartbeats 1000000
end Go.Proofs.cT
