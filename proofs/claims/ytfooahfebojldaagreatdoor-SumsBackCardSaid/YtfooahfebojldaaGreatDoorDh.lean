/-
  PROVED HERE: contracts of functions (Dh). No condition beside each statement's own.
-/
import Derived.Test.YtfooahfebojldaaGreatDoorSxa
import Derived.Test.YtfooahfebojldaaGreatDoorDg
import Derived.Test.YtfooahfebojldaaGreatDoorProg
set_option linter.unusedVariables false
set_option linter.unusedSimpArgs false
namespace Go.Proofs.ed
open Go ay
def iI:Nat->Nat->List UInt8->List UInt8
 |_,0,acc=>acc
 |n,k+1,acc=>iI (n/256) k (UInt8.ofNat (n %256)::acc)
theorem nQ:∀(k n:Nat) (acc:List UInt8),(iI n k acc).length=k+acc.length
 |0,n,acc=>by simp[iI]
 |k+1,n,acc=>by rw[iI,nQ k];simp;omega
def ks(n:Nat):Nat->Nat->Nat
 |0,m=>m
 |k+1,m=>if n<256^m then m else ks n k (m+1)
theorem Cy(n:Nat):∀(k m:Nat),m<=ks n k m/\ks n k m<=m+k
 |0,m=>by simp[ks]
 |k+1,m=>by
  have:=Cy n k (m+1)
  simp only[ks];split<;>omega
theorem Cz(n:Nat):∀(k m:Nat),n<256^(m+k)->n<256^(ks n k m)
 |0,m,h=>by simpa[ks] using h
 |k+1,m,h=>by
  simp only[ks]
  split
  · assumption
  · exact Cz n k (m+1) (by have e:m+1+k=m+(k+1):=by omega
                           rw[e];exact h)
def k9(n:Nat):Nat:=ks n 5 3
def cM(n:Nat):List UInt8:=
 if n<=240 then iI n 1 [] else if n<=2287 then iI (241+(n-240)/256) 1 []++iI ((n-240) %256) 1 []
 else if n<=67823 then iI 249 1 []++iI (n-2288) 2 [] else iI (247+k9 n) 1 []++iI n (k9 n) []
def g8(n:Nat):Nat×Nat×Nat×Nat:=
 if n<=240 then(0,240,0,0) else if n<=2287 then(240,2287,241,1) else if n<=67823 then(2288,67823,249,2)
 else(0,256^k9 n-1,247+k9 n,k9 n)
def p1(n:Nat):List UInt8:=UInt8.ofNat (((g8 n).2.2.1+(n-(g8 n).1)/256^(g8 n).2.2.2) %256)::iI (n-(g8 n).1) (g8 n).2.2.2 []
theorem YN(n:Nat)(h:n<18446744073709551616):p1 n=cM n:=by
 unfold p1 cM g8
 by_cases ab:n<=240
 · simp only[if_pos ab,iI,Nat.sub_zero,Nat.pow_zero,Nat.div_one,Nat.zero_add]
 · by_cases ae:n<=2287
   · simp only[if_neg ab,if_pos ae,iI,Nat.pow_one,List.singleton_append,List.cons_append,List.nil_append]
     rw[Nat.mod_mod]
   · by_cases av:n<=67823
     · have e:(n-2288)/256^2=0:=Nat.div_eq_of_lt (by omega)
       simp only[if_neg ab,if_neg ae,if_pos av,e,Nat.add_zero]
       rfl
     · have hs:n<256^k9 n:=Cz n 5 3 (by simpa using h)
       have e:n/256^k9 n=0:=Nat.div_eq_of_lt hs
       simp only[if_neg ab,if_neg ae,if_neg av,Nat.sub_zero,e,Nat.add_zero]
       rfl
theorem YO(n:Nat)(h:n<18446744073709551616):(g8 n).1<=n/\(g8 n).2.2.2<=8/\n<=(g8 n).2.1:=by
 unfold g8
 by_cases ab:n<=240
 · simp[ab]
 · by_cases ae:n<=2287
   · simp only[if_neg ab,if_pos ae];omega
   · by_cases av:n<=67823
     · simp only[if_neg ab,if_neg ae,if_pos av];omega
     · have hs:n<256^k9 n:=Cz n 5 3 (by simpa using h)
       have:=Cy n 5 3
       simp only[if_neg ab,if_neg ae,if_neg av]
       unfold k9 at hs⊢
       omega
end Go.Proofs.ed
namespace Go.Proofs.ed
open Go ay
def fp(b:Nat):Nat:=if b<=240 then 0 else if b<=248 then 1 else if b=249 then 2 else b-247
def hN:Nat->List UInt8->Nat
 |a,[]=>a
 |a,c::t=>hN (a*256+c.toNat) t
def j5(b:Nat)(t:List UInt8):Nat:=if b<=240 then b else if b<=248 then 240+256*(b-241)+hN 0 t else if b=249 then 2288+hN 0 t else hN 0 t
def rdNum:List UInt8->Option (Nat×List UInt8)
 |[]=>none
 |b::t=>if t.length<fp b.toNat then none else if cM (j5 b.toNat (t.take (fp b.toNat)))=b::t.take (fp b.toNat) then some (j5 b.toNat (t.take (fp b.toNat)),t.drop (fp b.toNat)) else none
theorem CA:∀(k n a:Nat) (acc:List UInt8),hN a (iI n k acc)=hN (a*256^k+n %256^k) acc
 |0,n,a,acc=>by simp[iI,Nat.mod_one]
 |k+1,n,a,acc=>by
  rw[iI,CA k (n/256) a,hN]
  have e:(UInt8.ofNat (n %256)).toNat=n %256:=by simp
  have aC:n %256^(k+1)=n %256+256*(n/256 %256^k):=by rw[Nat.pow_succ,Nat.mul_comm (256^k) 256,Nat.mod_mul]
  have bu:a*256^(k+1)=a*256^k*256:=by rw[Nat.pow_succ,Nat.mul_assoc]
  rw[e,aC,bu]
  generalize a*256^k=x
  generalize n/256 %256^k=y
  have cX:(x+y)*256+n %256=x*256+(n %256+256*y):=by omega
  rw[cX]
theorem Nl:∀(t:List UInt8) (a:Nat),hN a t<(a+1)*256^t.length
 |[],a=>by simp[hN]
 |c::t,a=>by
  have h:=Nl t (a*256+c.toNat)
  have ah:=c.toNat_lt
  have ae:(a*256+c.toNat+1)*256^t.length<=((a+1)*256)*256^t.length:=Nat.mul_le_mul_right _ (by omega)
  rw[hN,List.length_cons,Nat.pow_succ,Nat.mul_comm (256^t.length) 256,<-Nat.mul_assoc]
  omega
theorem YP(b:Nat)(h:b<256):fp b<=8:=by unfold fp;split<;>(try split)<;>(try split)<;>omega
theorem YQ(t:List UInt8):hN 0 t<256^t.length:=by have:=Nl t 0;simpa using this
theorem GZ(b:Nat)(t:List UInt8)(h:b<256)(a2:t.length=fp b):j5 b t<18446744073709551616:=by
 have aw:=YQ t
 rw[a2] at aw
 unfold j5
 unfold fp at aw
 by_cases ab:b<=240
 · rw[if_pos ab];omega
 · by_cases ae:b<=248
   · rw[if_neg ab,if_pos ae] at*;omega
   · by_cases av:b=249
     · rw[if_neg ab,if_neg ae,if_pos av] at*;omega
     · rw[if_neg ab,if_neg ae,if_neg av] at*
       have:256^(b-247)<=256^8:=Nat.pow_le_pow_right (by omega) (by omega)
       omega
theorem Nm(n:Nat)(h:n<18446744073709551616):∃b t,cM n=b::t/\t.length=fp b.toNat/\j5 b.toNat t=n:=by
 have ix:∀k:Nat,(UInt8.ofNat (k %256)).toNat=k %256:=λk=>by simp
 unfold cM
 by_cases ab:n<=240
 · rw[if_pos ab]
   refine⟨UInt8.ofNat (n %256),[],rfl,?_,?_⟩
   · rw[ix,Nat.mod_eq_of_lt (by omega)];simp[fp,ab]
   · rw[ix,Nat.mod_eq_of_lt (by omega)];simp[j5,ab]
 · by_cases ae:n<=2287
   · rw[if_neg ab,if_pos ae]
     have ag:(241+(n-240)/256) %256=241+(n-240)/256:=Nat.mod_eq_of_lt (by omega)
     refine⟨UInt8.ofNat ((241+(n-240)/256) %256),iI ((n-240) %256) 1 [],rfl,?_,?_⟩
     · rw[ix,ag,nQ]
       unfold fp;rw[if_neg (by omega),if_pos (by omega)];rfl
     · rw[ix,ag]
       unfold j5;rw[if_neg (by omega),if_pos (by omega),CA,hN,Nat.pow_one];omega
   · by_cases av:n<=67823
     · rw[if_neg ab,if_neg ae,if_pos av]
       refine⟨UInt8.ofNat (249 %256),iI (n-2288) 2 [],rfl,?_,?_⟩
       · rw[ix,nQ];rfl
       · rw[ix]
         show 2288+hN 0 (iI (n-2288) 2 [])=n
         rw[CA,hN,Nat.mod_eq_of_lt (by omega)];omega
     · rw[if_neg ab,if_neg ae,if_neg av]
       have hs:n<256^k9 n:=Cz n 5 3 (by simpa using h)
       have a0:=Cy n 5 3
       have adr:3<=k9 n/\k9 n<=8:=a0
       refine⟨UInt8.ofNat ((247+k9 n) %256),iI n (k9 n) [],rfl,?_,?_⟩
       · rw[ix,Nat.mod_eq_of_lt (by omega),nQ]
         unfold fp;rw[if_neg (by omega),if_neg (by omega),if_neg (by omega)];simp
       · rw[ix,Nat.mod_eq_of_lt (by omega)]
         unfold j5;rw[if_neg (by omega),if_neg (by omega),if_neg (by omega),CA,hN,Nat.mod_eq_of_lt hs];omega
theorem YR(n:Nat)(r:List UInt8)(h:n<18446744073709551616):rdNum (cM n++r)=some (n,r):=by
 obtain⟨b,t,ab,ae,av⟩:=Nm n h
 have aE:(t++r).take (fp b.toNat)=t:=by rw[<-ae,List.take_left]
 have aC:(t++r).drop (fp b.toNat)=r:=by rw[<-ae,List.drop_left]
 rw[ab,List.cons_append]
 simp only[rdNum]
 rw[if_neg (by rw[List.length_append];omega),aE,aC,av,if_pos ab]
theorem YS{s r:List UInt8}{n:Nat}(h:rdNum s=some (n,r)):s=cM n++r/\n<18446744073709551616:=by
 match s with
 |[]=>cases h
 |b::t=>
  simp only[rdNum] at h
  split at h
  · cases h
  · rename_i aw
    split at h
    · rename_i he
      have ag:=b.toNat_lt
      have aH:=GZ b.toNat (t.take (fp b.toNat)) (by omega) (by rw[List.length_take];omega)
      obtain⟨rfl,rfl⟩:j5 b.toNat (t.take (fp b.toNat))=n/\t.drop (fp b.toNat)=r:=by simpa using h
      exact⟨by rw[he,List.cons_append,List.take_append_drop],aH⟩
    · cases h
theorem YT(n:Nat)(h:n<18446744073709551616):0<(cM n).length:=by
 obtain⟨b,t,ab,_,_⟩:=Nm n h
 rw[ab];simp
abbrev cv:=Option (List UInt8)
def a_:cv->Nat×cv
 |none=>(0,none)
 |some s=>match rdNum s with
  |none=>(0,none)
  |some (n,r)=>(n,some r)
def ff(n:Nat):cv->List UInt8×cv
 |none=>([],none)
 |some s=>if n<=s.length then(s.take n,some (s.drop n)) else([],none)
def cH(st:cv):List UInt8×cv:=ff (a_ st).1 (a_ st).2
def left:cv->List UInt8
 |none=>[]
 |some s=>s
theorem G0{s:List UInt8}(h:rdNum s=none):a_ (some s)=(0,none):=by simp only[a_,h]
theorem Nn{s r:List UInt8}{n:Nat}(h:rdNum s=some (n,r)):a_ (some s)=(n,some r):=by simp only[a_,h]
theorem CB(s:List UInt8):a_ (some s)=(0,none)\/∃n r,a_ (some s)=(n,some r)/\s=cM n++r/\n<18446744073709551616:=by
 cases h:rdNum s with
 |none=>exact .inl (G0 h)
 |some x=>obtain⟨n,r⟩:=x;exact .inr ⟨n,r,Nn h,YS h⟩
theorem G1(st:cv):(left (a_ st).2).length<=(left st).length:=by
 cases st with
 |none=>exact Nat.le_refl _
 |some s=>
  rcases CB s with e|⟨n,r,e,ab,_⟩
  · rw[e];exact Nat.zero_le _
  · rw[e];show r.length<=s.length;rw[ab,List.length_append];omega
theorem No(st:cv):(a_ st).1<18446744073709551616:=by
 cases st with
 |none=>show 0<_;omega
 |some s=>
  rcases CB s with e|⟨n,r,e,_,ae⟩
  · rw[e];show 0<_;omega
  · rw[e];exact ae
theorem YU(s:List UInt8):(left (a_ (some s)).2).length<s.length\/(a_ (some s)).2=none:=by
 rcases CB s with e|⟨n,r,e,ab,ae⟩
 · rw[e];exact .inr rfl
 · rw[e]
   have:=YT n ae
   refine .inl ?_
   show r.length<s.length
   rw[ab,List.length_append];omega
theorem q2{n:Nat}{s:List UInt8}(h:n<=s.length):ff n (some s)=(s.take n,some (s.drop n)):=by simp only[ff,if_pos h]
theorem wP{n:Nat}{s:List UInt8}(h:¬n<=s.length):ff n (some s)=([],none):=by simp only[ff,if_neg h]
theorem YV(n:Nat)(st:cv):(left (ff n st).2).length<=(left st).length/\(ff n st).1.length<=(left st).length:=by
 cases st with
 |none=>exact⟨Nat.le_refl _,Nat.le_refl _⟩
 |some s=>
  by_cases h:n<=s.length
  · rw[q2 h]
    exact⟨by show(s.drop n).length<=s.length;rw[List.length_drop];omega,by show(s.take n).length<=s.length;rw[List.length_take];omega⟩
  · rw[wP h];exact⟨Nat.zero_le _,Nat.zero_le _⟩
theorem Np(st:cv):(left (cH st).2).length<=(left st).length/\(cH st).1.length<=(left st).length:=by
 have ab:=G1 st
 have ae:=YV (a_ st).1 (a_ st).2
 exact⟨by unfold cH;omega,by unfold cH;omega⟩
theorem p2(n:Nat)(r:List UInt8)(h:n<18446744073709551616):a_ (some (cM n++r))=(n,some r):=by simp[a_,YR n r h]
theorem q3{st:cv}{r:List UInt8}(h:(a_ st).2=some r):st=some (cM (a_ st).1++r):=by
 cases st with
 |none=>cases h
 |some s=>
  rcases CB s with e|⟨n,r',e,ab,_⟩
  · rw[e] at h;cases h
  · rw[e] at h⊢
    cases h
    rw[ab]
end Go.Proofs.ed
namespace Go.Proofs.cW
open Go ay Go.Proofs Go.Proofs.ed
set_option maxRecDepth 100000
theorem af(call:aO->List J->aa->ax)(n z:Nat)(s:List UInt8)(h ae:aa)
  (H1:aN Tryz.prog Tryz.f67 none call [1,1,0,1,0] (ar.mk [(6,.int .i64 (.ofNat 0)),(5,.str []),(4,.str []),(0,.int .u64 (.ofNat n)),(1,.int .i64 (.ofNat z))] [] .none h) (.exit 0) (ar.mk [(5,.str s)] [] .none ae)):
  aN Tryz.prog Tryz.f67 none call [] (ar.mk [(0,.int .u64 (.ofNat n)),(1,.int .i64 (.ofNat z))] [] .none h) (.ret)
   (ar.mk [(4,.str s)] [] .none ae):=
 bI [4] (hs:=[Hint.loop (bK.exit 0) (ar.mk [(5,J.str s)] [] bG.none ae)]) (by kernel_rfl)<| .cons H1<| .nil
theorem eI(call:aO->List J->aa->ax)(n b0 to kt z b m:Nat)(s:List UInt8)(h al ak aS bb aX:aa)(bL cm du eC fV hn lK q4:Nat)(dg:aa)(cQ gF:List UInt8)
  (H1:call (.fn 73) [.int .u64 (.ofNat n)] h=ax.ret (.agg [.int .u64 (.ofNat b0),.int .u64 (.ofNat to),.int .u8 (.ofNat kt),.int .i64 (.ofNat z)]) al)
  (a7:ay.storeCells (aa.push al (.cells [.int .u64 (.ofNat 0),.int .u64 (.ofNat 0),.int .u8 (.ofNat 0),.int .i64 (.ofNat 0)] 120 .own 0 0)) (aa.n al) 0 [.int .u64 (.ofNat b0),.int .u64 (.ofNat to),.int .u8 (.ofNat kt),.int .i64 (.ofNat z)]=some aX)
  (b1:aA aX (aa.n al) (0+0)=some (.int .u64 (.ofNat bL)))
  (b8:arith .sub .u64 (.ofNat n) (.ofNat bL)=some (.int .u64 (.ofNat cm)))
  (dv:aA aX (aa.n al) (0+3)=some (.int .i64 (.ofNat du)))
  (fB:arith .add .i64 (.ofNat 1) (.ofNat du)=some (.int .i64 (.ofNat eC)))
  (lG:vR Tryz.prog aX 98 (J.int IntKind.i64 (Int.ofNat eC)) (J.int IntKind.i64 (Int.ofNat eC))=some (J.slice b 0 (z+1) (cj.exact (z+1)),aS))
  (zn:aA aS (aa.n al) (0+3)=some (.int .i64 (.ofNat fV)))
  (G2:aN Tryz.prog Tryz.f52 none call [1,1,1,1,0,1,0] (ar.mk [(7,.int .i64 (.ofNat fV)),(6,.slice b 0 (z+1) (.exact (z+1))),(1,.int .u64 (.ofNat cm)),(5,.ptr (aa.n al) 0),(4,.str []),(0,.str s)] [] .none aS) (.exit 0) (ar.mk [(0,.str s),(1,.int .u64 (.ofNat m)),(5,.ptr (aa.n al) 0),(6,.slice b 0 (z+1) (.exact (z+1)))] [] .none bb))
  (YW:aA bb (aa.n al) (0+2)=some (.int .u8 (.ofNat hn)))
  (YX:ea Tryz.prog 65 5 (J.int IntKind.u64 (Int.ofNat m)) bb=fj.val (J.int IntKind.u8 (Int.ofNat lK)) bb)
  (YY:arith .add .u8 (.ofNat hn) (.ofNat lK)=some (.int .u8 (.ofNat q4)))
  (YZ:Nat.le 1 (z+1))
  (Y0:ay.storeCells bb b (0+0*1) [.int .u8 (.ofNat q4)]=some dg)
  (Y1:ea Tryz.prog 98 9 (J.slice b 0 (z+1) (cj.exact (z+1))) dg=fj.val (J.str cQ) dg)
  (Y2:o5 .add s cQ=some (.str gF)):
  aN Tryz.prog Tryz.f52 none call [] (ar.mk [(0,.str s),(1,.int .u64 (.ofNat n))] [] .none h) (.ret)
   (ar.mk [(4,.str gF)] [] .none dg):=
 bI [4] (hs:=[Hint.c (J.agg [J.int IntKind.u64 (Int.ofNat b0),J.int IntKind.u64 (Int.ofNat to),J.int IntKind.u8 (Int.ofNat kt),J.int IntKind.i64 (Int.ofNat z)]) al,Hint.fS (J.aD []) aX,Hint.v (J.int IntKind.u64 (Int.ofNat bL)),Hint.v (J.int IntKind.u64 (Int.ofNat cm)),Hint.v (J.int IntKind.i64 (Int.ofNat du)),Hint.v (J.int IntKind.i64 (Int.ofNat eC)),Hint.fS (J.slice b 0 (z+1) (cj.exact (z+1))) aS,Hint.v (J.int IntKind.i64 (Int.ofNat fV)),Hint.loop (bK.exit 0) (ar.mk [(0,J.str s),(1,J.int IntKind.u64 (Int.ofNat m)),(5,J.ptr (aa.n al) 0),(6,J.slice b 0 (z+1) (cj.exact (z+1)))] [] bG.none bb),Hint.v (J.int IntKind.u8 (Int.ofNat hn)),Hint.v (J.int IntKind.u8 (Int.ofNat lK)),Hint.v (J.int IntKind.u8 (Int.ofNat q4)),Hint.v (J.ptr b (0+0*1)),Hint.fS (J.aD []) dg,Hint.v (J.str cQ),Hint.v (J.str gF)]) (by kernel_rfl)<| .cons H1<| .cons (⟨by kernel_rfl,a7,rfl⟩:some 4=some 4/\ay.storeCells (aa.push al (b3.cells [J.int IntKind.u64 (Int.ofNat 0),J.int IntKind.u64 (Int.ofNat 0),J.int IntKind.u8 (Int.ofNat 0),J.int IntKind.i64 (Int.ofNat 0)] 120 eZ.own 0 0)) (aa.n al) 0 [J.int IntKind.u64 (Int.ofNat b0),J.int IntKind.u64 (Int.ofNat to),J.int IntKind.u8 (Int.ofNat kt),J.int IntKind.i64 (Int.ofNat z)]=some aX/\J.aD []=J.aD [])<| .cons b1<| .cons b8<| .cons dv<| .cons fB<| .cons lG<| .cons zn<| .cons G2<| .cons YW<| .cons YX<| .cons YY<| .cons (⟨YZ,rfl⟩:Nat.le 1 (z+1)/\J.ptr b (0+0*1)=J.ptr b (0+0*1))<| .cons (⟨by kernel_rfl,Y0,rfl⟩:some 1=some 1/\ay.storeCells bb b (0+0*1) [J.int IntKind.u8 (Int.ofNat q4)]=some dg/\J.aD []=J.aD [])<| .cons Y1<| .cons Y2<| .nil
theorem Y3(call:aO->List J->aa->ax)(n i z b:Nat)(s:List UInt8)(h:aa)(p:J)(bL:Nat)(aX:aa)(cm du:Nat)
  (H1:dZ (.ofNat 0) (.ofNat i)=true)
  (a7:ea Tryz.prog 65 5 (J.int IntKind.u64 (Int.ofNat n)) h=fj.val (J.int IntKind.u8 (Int.ofNat bL)) h)
  (b1:Nat.le (Nat.succ i) (z+1))
  (b8:ay.storeCells h b (0+i*1) [.int .u8 (.ofNat bL)]=some aX)
  (dv:ml .shr .u64 (.ofNat n) (.ofNat 8)=some (.int .u64 (.ofNat cm)))
  (fB:arith .sub .i64 (.ofNat i) (.ofNat 1)=some (.int .i64 (.ofNat du))):
  aN Tryz.prog Tryz.f52 none call [1,1,1,1,0,1,0,0] (ar.mk [(0,.str s),(1,.int .u64 (.ofNat n)),(5,p),(6,.slice b 0 (z+1) (.exact (z+1))),(7,.int .i64 (.ofNat i))] [] .none h) (.nrm)
   (ar.mk [(0,.str s),(1,.int .u64 (.ofNat cm)),(5,p),(6,.slice b 0 (z+1) (.exact (z+1))),(7,.int .i64 (.ofNat du))] [] .none aX):=
 bI [0,1,5,6,7] (hs:=[.b true,.v (.int .u8 (.ofNat bL)),.v (.ptr b (0+i*1)),.fS (.aD []) aX,.v (.int .u64 (.ofNat cm)),.v (.int .i64 (.ofNat du))]) (by kernel_rfl)<| .cons H1<| .cons a7<| .cons (⟨b1,rfl⟩:Nat.le (Nat.succ i) (z+1)/\J.ptr b (0+i*1)=J.ptr b (0+i*1))<| .cons (⟨by kernel_rfl,b8,rfl⟩:some 1=some 1/\ay.storeCells h b (0+i*1) [J.int IntKind.u8 (Int.ofNat bL)]=some aX/\J.aD []=J.aD [])<| .cons dv<| .cons fB<| .nil
theorem Y4(call:aO->List J->aa->ax)(n i z b:Nat)(s:List UInt8)(h:aa)(p:J)
  (H1:dZ (.ofNat 0) (.ofNat i)=false):
  aN Tryz.prog Tryz.f52 none call [1,1,1,1,0,1,0,0] (ar.mk [(0,.str s),(1,.int .u64 (.ofNat n)),(5,p),(6,.slice b 0 (z+1) (.exact (z+1))),(7,.int .i64 (.ofNat i))] [] .none h) (.exit 0)
   (ar.mk [(0,.str s),(1,.int .u64 (.ofNat n)),(5,p),(6,.slice b 0 (z+1) (.exact (z+1))),(7,.int .i64 (.ofNat i))] [] .none h):=
 bI [0,1,5,6,7] (hs:=[.b false]) (by kernel_rfl)<| .cons H1<| .nil
theorem wE(call:aO->List J->aa->ax)(s t:List UInt8)(h:aa)(bL:Nat)(cQ:List UInt8)(aX:aa)(gF:List UInt8)
  (H1:ea Tryz.prog 3 65 (J.int IntKind.i64 (Int.ofNat (List.length t))) h=fj.val (J.int IntKind.u64 (Int.ofNat bL)) h)
  (a7:call (.fn 52) [.str s,.int .u64 (.ofNat bL)] h=ax.ret (.str cQ) aX)
  (b1:o5 .add cQ t=some (.str gF)):
  aN Tryz.prog Tryz.f64 none call [] (ar.mk [(0,.str s),(1,.str t)] [] .none h) (.ret)
   (ar.mk [(4,.str gF)] [] .none aX):=
 bI [4] (hs:=[.v (.int .u64 (.ofNat bL)),.c (.str cQ) aX,.v (.str gF)]) (by kernel_rfl)<| .cons H1<| .cons a7<| .cons b1<| .nil
theorem Y5(call:aO->List J->aa->ax)(h:aa):
  aN Tryz.prog Tryz.f72 none call [] (ar.mk [] [] .none h) (.ret)
   (ar.mk [(0,.fn 89 [] [])] [] .none h):=
 bI [0] (hs:=[]) (by kernel_rfl)<| .nil
theorem Nq(call:aO->List J->aa->ax)(l:Nat)(e:bK)(h ae:aa)(b6:Bool)(aX:aa)
  (H1:call (.bR l) [.agg [.int .u64 (.ofNat 0),.int .u64 (.ofNat 240),.int .u8 (.ofNat 0),.int .i64 (.ofNat 0)]] h=ax.ret (.bool b6) aX)
  (a7:(!b6)=true):
  aN Tryz.prog Tryz.f89 none call [0] (ar.mk [(0,.bR l)] [] .none h) (.ret)
   (ar.mk [(0,.bR l)] [] .none aX):=
 bI [0] (hs:=[.c (.bool b6) aX,.b true,.b true,.b true,.b true,.b true,.b true,.b true,.b true,.b true,.b true,.b true]) (by kernel_rfl)<| .cons H1<| .cons a7<| .cons a7<| .cons a7<| .cons a7<| .cons a7<| .cons (by kernel_rfl:true=true)<| .cons (by kernel_rfl:true=true)<| .cons (by kernel_rfl:true=true)<| .cons (by kernel_rfl:true=true)<| .cons (by kernel_rfl:true=true)<| .cons (by kernel_rfl:true=true)<| .nil
theorem Nr(call:aO->List J->aa->ax)(l:Nat)(e:bK)(h ae:aa)(b6:Bool)(aX:aa)(jL:Bool)(dg:aa)
  (H1:call (.bR l) [.agg [.int .u64 (.ofNat 0),.int .u64 (.ofNat 240),.int .u8 (.ofNat 0),.int .i64 (.ofNat 0)]] h=ax.ret (.bool b6) aX)
  (a7:(!b6)=false)
  (b1:call (.bR l) [.agg [.int .u64 (.ofNat 240),.int .u64 (.ofNat 2287),.int .u8 (.ofNat 241),.int .i64 (.ofNat 1)]] aX=ax.ret (.bool jL) dg)
  (b8:(!jL)=true):
  aN Tryz.prog Tryz.f89 none call [0] (ar.mk [(0,.bR l)] [] .none h) (.ret)
   (ar.mk [(0,.bR l)] [] .none dg):=
 bI [0] (hs:=[.c (.bool b6) aX,.b false,.b false,.b false,.c (.bool jL) dg,.b false,.b false,.b true,.b true,.b true,.b true,.b true,.b true]) (by kernel_rfl)<| .cons H1<| .cons a7<| .cons a7<| .cons a7<| .cons b1<| .cons a7<| .cons a7<| .cons b8<| .cons b8<| .cons b8<| .cons b8<| .cons b8<| .cons (by kernel_rfl:true=true)<| .nil
theorem Ns(call:aO->List J->aa->ax)(l:Nat)(e:bK)(h ae:aa)(b6:Bool)(aX:aa)(jL:Bool)(dg:aa)(uN:Bool)(i_:aa)
  (H1:call (.bR l) [.agg [.int .u64 (.ofNat 0),.int .u64 (.ofNat 240),.int .u8 (.ofNat 0),.int .i64 (.ofNat 0)]] h=ax.ret (.bool b6) aX)
  (a7:(!b6)=false)
  (b1:call (.bR l) [.agg [.int .u64 (.ofNat 240),.int .u64 (.ofNat 2287),.int .u8 (.ofNat 241),.int .i64 (.ofNat 1)]] aX=ax.ret (.bool jL) dg)
  (b8:(!jL)=false)
  (dv:call (.bR l) [.agg [.int .u64 (.ofNat 2288),.int .u64 (.ofNat 67823),.int .u8 (.ofNat 249),.int .i64 (.ofNat 2)]] dg=ax.ret (.bool uN) i_)
  (fB:(!uN)=true):
  aN Tryz.prog Tryz.f89 none call [0] (ar.mk [(0,.bR l)] [] .none h) (.ret)
   (ar.mk [(0,.bR l)] [] .none i_):=
 bI [0] (hs:=[.c (.bool b6) aX,.b false,.b false,.b false,.c (.bool jL) dg,.b false,.b false,.b false,.b false,.b false,.c (.bool uN) i_,.b false,.b false,.b true]) (by kernel_rfl)<| .cons H1<| .cons a7<| .cons a7<| .cons a7<| .cons b1<| .cons a7<| .cons a7<| .cons b8<| .cons b8<| .cons b8<| .cons dv<| .cons b8<| .cons b8<| .cons fB<| .nil
theorem Nt(call:aO->List J->aa->ax)(l:Nat)(e:bK)(h ae:aa)(b6:Bool)(aX:aa)(jL:Bool)(dg:aa)(uN:Bool)(i_:aa)
  (H1:call (.bR l) [.agg [.int .u64 (.ofNat 0),.int .u64 (.ofNat 240),.int .u8 (.ofNat 0),.int .i64 (.ofNat 0)]] h=ax.ret (.bool b6) aX)
  (a7:(!b6)=false)
  (b1:call (.bR l) [.agg [.int .u64 (.ofNat 240),.int .u64 (.ofNat 2287),.int .u8 (.ofNat 241),.int .i64 (.ofNat 1)]] aX=ax.ret (.bool jL) dg)
  (b8:(!jL)=false)
  (dv:call (.bR l) [.agg [.int .u64 (.ofNat 2288),.int .u64 (.ofNat 67823),.int .u8 (.ofNat 249),.int .i64 (.ofNat 2)]] dg=ax.ret (.bool uN) i_)
  (fB:(!uN)=false):
  aN Tryz.prog Tryz.f89 none call [0] (ar.mk [(0,.bR l)] [] .none h) (.nrm)
   (ar.mk [(0,.bR l)] [] .none i_):=
 bI [0] (hs:=[.c (.bool b6) aX,.b false,.b false,.b false,.c (.bool jL) dg,.b false,.b false,.b false,.b false,.b false,.c (.bool uN) i_,.b false,.b false,.b false]) (by kernel_rfl)<| .cons H1<| .cons a7<| .cons a7<| .cons a7<| .cons b1<| .cons a7<| .cons a7<| .cons b8<| .cons b8<| .cons b8<| .cons dv<| .cons b8<| .cons b8<| .cons fB<| .nil
theorem G3(call:aO->List J->aa->ax)(l:Nat)(h:aa):
  aN Tryz.prog Tryz.f89 none call [1,0] (ar.mk [(0,.bR l)] [] .none h) (.nrm)
   (ar.mk [(0,.bR l),(2,.int .i64 (.ofNat 3))] [] .none h):=
 bI [0,2] (hs:=[]) (by kernel_rfl)<| .nil
theorem Nu(call:aO->List J->aa->ax)(l i:Nat)(h:aa)(bL cm du eC fV:Nat)(b6:Bool)(aX:aa)
  (H1:fE (.ofNat i) (.ofNat 8)=true)
  (a7:arith .sub .i64 (.ofNat 8) (.ofNat i)=some (.int .i64 (.ofNat bL)))
  (b1:arith .mul .i64 (.ofNat 8) (.ofNat bL)=some (.int .i64 (.ofNat cm)))
  (b8:ml .shr .u64 (.ofNat 18446744073709551615) (.ofNat cm)=some (.int .u64 (.ofNat du)))
  (dv:arith .add .i64 (.ofNat 247) (.ofNat i)=some (.int .i64 (.ofNat eC)))
  (fB:ea Tryz.prog 3 5 (J.int IntKind.i64 (Int.ofNat eC)) h=fj.val (J.int IntKind.u8 (Int.ofNat fV)) h)
  (lG:call (.bR l) [.agg [.int .u64 (.ofNat 0),.int .u64 (.ofNat du),.int .u8 (.ofNat fV),.int .i64 (.ofNat i)]] h=ax.ret (.bool b6) aX)
  (zn:(!b6)=true):
  aN Tryz.prog Tryz.f89 none call [1,1,0,0] (ar.mk [(0,.bR l),(2,.int .i64 (.ofNat i))] [] .none h) (.ret)
   (ar.mk [(0,.bR l),(2,.int .i64 (.ofNat i))] [] .none aX):=
 bI [0,2] (hs:=[.b true,.v (.int .i64 (.ofNat bL)),.v (.int .i64 (.ofNat cm)),.v (.int .u64 (.ofNat du)),.v (.int .i64 (.ofNat eC)),.v (.int .u8 (.ofNat fV)),.c (.bool b6) aX,.b true]) (by kernel_rfl)<| .cons H1<| .cons a7<| .cons b1<| .cons b8<| .cons dv<| .cons fB<| .cons lG<| .cons zn<| .nil
theorem Nv(call:aO->List J->aa->ax)(l i:Nat)(h:aa)(bL cm du eC fV:Nat)(b6:Bool)(aX:aa)(hn:Nat)
  (H1:fE (.ofNat i) (.ofNat 8)=true)
  (a7:arith .sub .i64 (.ofNat 8) (.ofNat i)=some (.int .i64 (.ofNat bL)))
  (b1:arith .mul .i64 (.ofNat 8) (.ofNat bL)=some (.int .i64 (.ofNat cm)))
  (b8:ml .shr .u64 (.ofNat 18446744073709551615) (.ofNat cm)=some (.int .u64 (.ofNat du)))
  (dv:arith .add .i64 (.ofNat 247) (.ofNat i)=some (.int .i64 (.ofNat eC)))
  (fB:ea Tryz.prog 3 5 (J.int IntKind.i64 (Int.ofNat eC)) h=fj.val (J.int IntKind.u8 (Int.ofNat fV)) h)
  (lG:call (.bR l) [.agg [.int .u64 (.ofNat 0),.int .u64 (.ofNat du),.int .u8 (.ofNat fV),.int .i64 (.ofNat i)]] h=ax.ret (.bool b6) aX)
  (zn:(!b6)=false)
  (G2:arith .add .i64 (.ofNat i) (.ofNat 1)=some (.int .i64 (.ofNat hn))):
  aN Tryz.prog Tryz.f89 none call [1,1,0,0] (ar.mk [(0,.bR l),(2,.int .i64 (.ofNat i))] [] .none h) (.nrm)
   (ar.mk [(0,.bR l),(2,.int .i64 (.ofNat hn))] [] .none aX):=
 bI [0,2] (hs:=[.b true,.v (.int .i64 (.ofNat bL)),.v (.int .i64 (.ofNat cm)),.v (.int .u64 (.ofNat du)),.v (.int .i64 (.ofNat eC)),.v (.int .u8 (.ofNat fV)),.c (.bool b6) aX,.b false,.v (.int .i64 (.ofNat hn))]) (by kernel_rfl)<| .cons H1<| .cons a7<| .cons b1<| .cons b8<| .cons dv<| .cons fB<| .cons lG<| .cons zn<| .cons G2<| .nil
theorem Y6(call:aO->List J->aa->ax)(l i:Nat)(h:aa)
  (H1:fE (.ofNat i) (.ofNat 8)=false):
  aN Tryz.prog Tryz.f89 none call [1,1,0,0] (ar.mk [(0,.bR l),(2,.int .i64 (.ofNat i))] [] .none h) (.exit 0)
   (ar.mk [(0,.bR l),(2,.int .i64 (.ofNat i))] [] .none h):=
 bI [0,2] (hs:=[.b false]) (by kernel_rfl)<| .cons H1<| .nil
theorem Y7(call:aO->List J->aa->ax)(n:Nat)(h:aa):
  aN Tryz.prog Tryz.f73 none call [0] (ar.mk [(0,.int .u64 (.ofNat n))] [] .none h) (.nrm)
   (ar.mk [(1,.ptr (aa.n h) 0),(2,.ptr (aa.n (aa.push h (.cells [.int .u64 (.ofNat n)] 65 .own 0 0))) 0)] [] .none (aa.push (aa.push h (.cells [.int .u64 (.ofNat n)] 65 .own 0 0)) (.cells [.int .u64 (.ofNat 0),.int .u64 (.ofNat 0),.int .u8 (.ofNat 0),.int .i64 (.ofNat 0)] 120 .own 0 0))):=
 bI [1,2] (hs:=[]) (by kernel_rfl)<| .nil
theorem Y8(call:aO->List J->aa->ax)(a b:Nat)(h:aa)(uO:J)(aX:aa)
  (H1:call (.fn 72) [] h=ax.ret uO aX):
  aN Tryz.prog Tryz.f73 none call [1,0,0] (ar.mk [(1,.ptr a 0),(2,.ptr b 0)] [] .none h) (.nrm)
   (ar.mk [(1,.ptr a 0),(2,.ptr b 0),(4,uO)] [] .none aX):=
 bI [1,2,4] (hs:=[.c uO aX]) (by kernel_rfl)<| .cons H1<| .nil
theorem Y9(call:aO->List J->aa->ax)(l a b:Nat)(x:List J)(h aX:aa)
  (H1:some 4=some (List.length x)/\ay.storeCells (aa.push h (b3.cells [J.int IntKind.u64 (Int.ofNat 0),J.int IntKind.u64 (Int.ofNat 0),J.int IntKind.u8 (Int.ofNat 0),J.int IntKind.i64 (Int.ofNat 0)] 120 eZ.own 0 0)) (aa.n h) 0 x=some aX/\J.aD []=J.aD []):
  aN Tryz.prog Tryz.f73 (some l) call [1,0,1,0,0] (ar.mk [(5,.agg x),(1,.ptr a 0),(2,.ptr b 0)] [] .none h) (.nrm)
   (ar.mk [(1,.ptr a 0),(2,.ptr b 0),(3,.ptr (aa.n h) 0)] [] .none aX):=
 bI [1,2,3] (hs:=[.fS (.aD []) aX]) (by kernel_rfl)<| .cons H1<| .nil
theorem Y_(call:aO->List J->aa->ax)(l a b c:Nat)(h:aa)(bL cm du eC:Nat)(aX:aa)(fV hn:Nat)
  (H1:ay.loadCells h c 0 4=some [.int .u64 (.ofNat bL),.int .u64 (.ofNat cm),.int .u8 (.ofNat du),.int .i64 (.ofNat eC)])
  (a7:ay.storeCells h b 0 [.int .u64 (.ofNat bL),.int .u64 (.ofNat cm),.int .u8 (.ofNat du),.int .i64 (.ofNat eC)]=some aX)
  (b1:aA aX a 0=some (.int .u64 (.ofNat fV)))
  (b8:aA aX c (0+1)=some (.int .u64 (.ofNat hn)))
  (dv:fE (.ofNat fV) (.ofNat hn)=true):
  aN Tryz.prog Tryz.f73 (some l) call [1,0,1,0,1] (ar.mk [(1,.ptr a 0),(2,.ptr b 0),(3,.ptr c 0)] [] .none h) (.exit 0)
   (ar.mk [] [] .none aX):=
 bI [] (hs:=[.v (.agg [.int .u64 (.ofNat bL),.int .u64 (.ofNat cm),.int .u8 (.ofNat du),.int .i64 (.ofNat eC)]),.fS (.aD []) aX,.v (.int .u64 (.ofNat fV)),.v (.int .u64 (.ofNat hn)),.b true]) (by kernel_rfl)<| .cons H1<| .cons (⟨by kernel_rfl,a7,rfl⟩:some 4=some 4/\ay.storeCells h b 0 [J.int IntKind.u64 (Int.ofNat bL),J.int IntKind.u64 (Int.ofNat cm),J.int IntKind.u8 (Int.ofNat du),J.int IntKind.i64 (Int.ofNat eC)]=some aX/\J.aD []=J.aD [])<| .cons b1<| .cons b8<| .cons dv<| .nil
theorem Za(call:aO->List J->aa->ax)(l a b c:Nat)(h:aa)(bL cm du eC:Nat)(aX:aa)(fV hn:Nat)
  (H1:ay.loadCells h c 0 4=some [.int .u64 (.ofNat bL),.int .u64 (.ofNat cm),.int .u8 (.ofNat du),.int .i64 (.ofNat eC)])
  (a7:ay.storeCells h b 0 [.int .u64 (.ofNat bL),.int .u64 (.ofNat cm),.int .u8 (.ofNat du),.int .i64 (.ofNat eC)]=some aX)
  (b1:aA aX a 0=some (.int .u64 (.ofNat fV)))
  (b8:aA aX c (0+1)=some (.int .u64 (.ofNat hn)))
  (dv:fE (.ofNat fV) (.ofNat hn)=false):
  aN Tryz.prog Tryz.f73 (some l) call [1,0,1,0,1] (ar.mk [(1,.ptr a 0),(2,.ptr b 0),(3,.ptr c 0)] [] .none h) (.nrm)
   (ar.mk [] [] .none aX):=
 bI [] (hs:=[.v (.agg [.int .u64 (.ofNat bL),.int .u64 (.ofNat cm),.int .u8 (.ofNat du),.int .i64 (.ofNat eC)]),.fS (.aD []) aX,.v (.int .u64 (.ofNat fV)),.v (.int .u64 (.ofNat hn)),.b false]) (by kernel_rfl)<| .cons H1<| .cons (⟨by kernel_rfl,a7,rfl⟩:some 4=some 4/\ay.storeCells h b 0 [J.int IntKind.u64 (Int.ofNat bL),J.int IntKind.u64 (Int.ofNat cm),J.int IntKind.u8 (Int.ofNat du),J.int IntKind.i64 (Int.ofNat eC)]=some aX/\J.aD []=J.aD [])<| .cons b1<| .cons b8<| .cons dv<| .nil
theorem Zb(call:aO->List J->aa->ax)(b:Nat)(d:List bC)(h:aa)(bL cm du eC:Nat)(aX:aa)
  (H1:ay.loadCells h b 0 4=some [.int .u64 (.ofNat bL),.int .u64 (.ofNat cm),.int .u8 (.ofNat du),.int .i64 (.ofNat eC)])
  (a7:ay.storeCells h b 0 [.int .u64 (.ofNat bL),.int .u64 (.ofNat cm),.int .u8 (.ofNat du),.int .i64 (.ofNat eC)]=some aX):
  aN Tryz.prog Tryz.f73 none call [1,1] (ar.mk [(2,.ptr b 0)] d .none h) (.ret)
   (ar.mk [(2,.ptr b 0)] d .none aX):=
 bI [2] (hs:=[.v (.agg [.int .u64 (.ofNat bL),.int .u64 (.ofNat cm),.int .u8 (.ofNat du),.int .i64 (.ofNat eC)]),.fS (.aD []) aX]) (by kernel_rfl)<| .cons H1<| .cons (⟨by kernel_rfl,a7,rfl⟩:some 4=some 4/\ay.storeCells h b 0 [J.int IntKind.u64 (Int.ofNat bL),J.int IntKind.u64 (Int.ofNat cm),J.int IntKind.u8 (Int.ofNat du),J.int IntKind.i64 (Int.ofNat eC)]=some aX/\J.aD []=J.aD [])<| .nil
noncomputable abbrev jb:Nat->List J->aa->Option (J×aa):=Go.Proofs.cf.b7
noncomputable abbrev C(n:Nat):aO->List J->aa->ax:=Go.Proofs.cf.Y n
theorem CC:Tryz.prog.underlying 65=some (.int .u64):=by kernel_rfl
theorem q5:Tryz.prog.underlying 5=some (.int .u8):=by kernel_rfl
theorem CD:Tryz.prog.underlying 3=some (.int .i64):=by kernel_rfl
theorem oR:Tryz.prog.underlying 98=some (.slice 5):=by kernel_rfl
theorem sA:Tryz.prog.underlying 9=some .string:=by kernel_rfl
theorem Nw(n:Nat)(h:aa):ea Tryz.prog 65 5 (.int .u64 (Int.ofNat n)) h=.val (.int .u8 (Int.ofNat (n %256))) h:=v3 CC q5 (wrap_u8 n)
theorem Nx(n:Nat)(h:aa):ea Tryz.prog 3 5 (.int .i64 (Int.ofNat n)) h=.val (.int .u8 (Int.ofNat (n %256))) h:=v3 CD q5 (wrap_u8 n)
theorem wQ(n:Nat)(aJ:n<9223372036854775808)(h:aa):ea Tryz.prog 3 65 (.int .i64 (Int.ofNat n)) h=.val (.int .u64 (Int.ofNat n)) h:=v3 CD CC (vZ n (by omega))
theorem Zc(n:Nat):(UInt8.ofNat n).toNat=n %256:=by simp
theorem wR(n:Nat):(cM n).length<=9:=by
 have:=Cy n 5 3
 unfold cM
 split
 · rw[nQ];simp
 · split
   · rw[List.length_append,nQ,nQ];simp
   · split
     · rw[List.length_append,nQ,nQ];simp
     · rw[List.length_append,nQ,nQ];unfold k9;simp;omega
def dC(t:List UInt8):List UInt8:=cM t.length++t
end Go.Proofs.cW
namespace Go.Proofs.cW
open Go ay Go.Proofs Go.Proofs.ed
set_option maxRecDepth 100000
def fg(s:Nat×Nat×Nat×Nat):List J:=[.int .u64 (Int.ofNat s.1),.int .u64 (Int.ofNat s.2.1),.int .u8 (Int.ofNat s.2.2.1),.int .i64 (Int.ofNat s.2.2.2)]
theorem Ny(i:Nat)(ab:3<=i)(ae:i<=8):18446744073709551615/2^(8*(8-i))=256^i-1:=by
 have:i=3\/i=4\/i=5\/i=6\/i=7\/i=8:=by omega
 rcases this with rfl|rfl|rfl|rfl|rfl|rfl<;>rfl
section
variable (m l n:Nat) (I:aa->Prop) (Q:Nat×Nat×Nat×Nat->aa->Prop)
 (a6:∀s x,I x->(n<=s.2.1->∃x',C m (.bR l) [.agg (fg s)] x=.ret (.bool false) x'/\Q s x')/\(¬n<=s.2.1->∃x',C m (.bR l) [.agg (fg s)] x=.ret (.bool true) x'/\I x'))
include a6
theorem Nz(aJ:n<18446744073709551616):∀(k i:Nat) (x:aa),8-i=k->3<=i->i<=8->I x->
  ∃x',fT Tryz.prog Tryz.f89 none (C m) [1,1,0] (k+1) ⟨[(0,.bR l),(2,.int .i64 (Int.ofNat i))],[],.none,x⟩ .ret ⟨[],[],.none,x'⟩/\Q (0,256^ks n k i-1,247+ks n k i,ks n k i) x'
 |k,i,x,au,av,fG,ad=>by
  have hs:=Ny i av fG
  have aY:0<256^i:=Nat.pow_pos (by omega)
  have jT:=Nx (247+i) x
  rw[Nat.mod_eq_of_lt (by omega)] at jT
  have h4:=Fy .u64 (i:=18446744073709551615) (j:=8*(8-i)) (by show 8*(8-i)<=64;omega)
  rw[hs] at h4
  obtain⟨gi,dq⟩:=a6 (0,256^i-1,247+i,i) x ad
  by_cases hle:n<=256^i-1
  · obtain⟨x',c1,c2⟩:=gi hle
    refine⟨x',.exit (c9.post (Nu (C m) l i x _ _ _ _ _ false x' (nC fG) (r9 fG (by omega)) (yH (by omega)) h4 (qG (by omega)) jT c1 rfl) trivial) (by simp),?_⟩
    have:ks n k i=i:=by
     cases k with
     |zero=>rfl
     |succ k=>simp only[ks];rw[if_pos (by omega)]
    rw[this];exact c2
  · obtain⟨x',c1,c2⟩:=dq hle
    cases k with
    |zero=>
     have:i=8:=by omega
     subst this
     exact absurd (by omega:n<=256^8-1) hle
    |succ k=>
     obtain⟨bo,bD,bT⟩:=Nz aJ k (i+1) x' (by omega) (by omega) (by omega) c2
     refine⟨bo,.step (Nv (C m) l i x _ _ _ _ _ true x' _ (nC fG) (r9 fG (by omega)) (yH (by omega)) h4 (qG (by omega)) jT c1 rfl (qG (by omega))) bD,?_⟩
     simp only[ks];rw[if_neg (by omega)];exact bT
theorem Zd(aJ:n<18446744073709551616)(x:aa)(ad:I x):∃x',C (m+1) (.fn 89) [.bR l] x=.ret (.aD []) x'/\Q (g8 n) x':=by
 have fin:∀{Γ:Env} {x':aa},aN Tryz.prog Tryz.f89 none (C m) [] ⟨[(0,.bR l)],[],.none,x⟩ .ret ⟨Γ,[],.none,x'⟩->C (m+1) (.fn 89) [.bR l] x=.ret (.aD []) x':=λai=>
  eg (intr:=jb) (n:=m) (args:=[.bR l]) Tryz.func89 (by kernel_rfl) rfl (by kernel_rfl) ai (.inl rfl) (by kernel_rfl)
 obtain⟨ds,eu⟩:=a6 (0,240,0,0) x ad
 by_cases ab:n<=240
 · obtain⟨bj,c1,aR⟩:=ds ab
   have:g8 n=(0,240,0,0):=by simp[g8,ab]
   rw[this]
   exact⟨bj,fin (aN.iV (p:=[]) (by kernel_rfl) (Nq (C m) l .nrm x x false bj c1 rfl) (by simp)),aR⟩
 · obtain⟨bj,c1,i1⟩:=eu ab
   obtain⟨bh,bf⟩:=a6 (240,2287,241,1) bj i1
   by_cases ae:n<=2287
   · obtain⟨bo,c2,aT⟩:=bh ae
     have:g8 n=(240,2287,241,1):=by simp[g8,ab,ae]
     rw[this]
     exact⟨bo,fin (aN.iV (p:=[]) (by kernel_rfl) (Nr (C m) l .nrm x x true bj false bo c1 rfl c2 rfl) (by simp)),aT⟩
   · obtain⟨bo,c2,i2⟩:=bf ae
     obtain⟨d1,d2⟩:=a6 (2288,67823,249,2) bo i2
     by_cases av:n<=67823
     · obtain⟨dj,c3,bP⟩:=d1 av
       have:g8 n=(2288,67823,249,2):=by simp[g8,ab,ae,av]
       rw[this]
       exact⟨dj,fin (aN.iV (p:=[]) (by kernel_rfl) (Ns (C m) l .nrm x x true bj true bo false dj c1 rfl c2 rfl c3 rfl) (by simp)),bP⟩
     · obtain⟨dj,c3,i3⟩:=d2 av
       obtain⟨lB,bD,bT⟩:=Nz m l n I Q a6 aJ 5 3 dj rfl (by omega) (by omega) i3
       have loop:=aN.tS (p:=[1,1]) (id:=0) (by kernel_rfl) (fT.run (p:=[1,1,0]) (by kernel_rfl) bD (by omega)) (by simp)
       have:g8 n=(0,256^ks n 5 3-1,247+ks n 5 3,ks n 5 3):=by simp[g8,ab,ae,av,k9]
       rw[this]
       exact⟨lB,fin (aN.seq (p:=[]) (by kernel_rfl) (Nt (C m) l .nrm x x true bj true bo true dj c1 rfl c2 rfl c3 rfl) (aN.seq (p:=[1]) (by kernel_rfl) (G3 (C m) l dj) loop)),bT⟩
end
noncomputable def nR:Code:=sub (fv Tryz.f73) [1,0,1,0,0]
noncomputable def oS:Code:=sub (fv Tryz.f73) [1,0,1,0,1]
structure CE(n N:Nat)(h:aa)(r:aU)(x:aa):Prop where
 num:x.get N=some (.cells [.int .u64 (Int.ofNat n)] 65 .own 0 0)
 out:∃a b c d,x.get (N+1)=some (.cells [a,b,c,d] 120 .own 0 0)
 ju:x.get (N+2)=some (.defrd (some []))
 oJ:x.get (N+3)=some (.loop .ready none (dh Tryz.f73) r [5] nR oS (N+2))
 ext:Ext N h x
 qy:N+4<=x.n
structure NA(N:Nat)(h:aa)(r:aU)(s:Nat×Nat×Nat×Nat)(x:aa):Prop where
 out:x.get (N+1)=some (.cells (fg s) 120 .own 0 0)
 ju:x.get (N+2)=some (.defrd (some []))
 oJ:x.get (N+3)=some (.loop .done (some (.exit 0)) (dh Tryz.f73) r [5] nR oS (N+2))
 ext:Ext N h x
theorem zo{h:aa}{b t:Nat}{x:List J}(ad:x.length=4)(ao:h.get b=some (.cells x t .own 0 0)):ay.loadCells h b 0 4=some x:=by
 have:=BP (xs:=x) (rest:=[]) (by simpa using ao)
 rwa [ad] at this
theorem wS{h:aa}{b t:Nat}{ds eu jj pL c1 c2 c3 c4:J}(ab:c1.bF=true)(ae:c2.bF=true)(av:c3.bF=true)(aK:c4.bF=true)(ao:h.get b=some (.cells [ds,eu,jj,pL] t .own 0 0)):ay.storeCells h b 0 [c1,c2,c3,c4]=some (h.set b (some (.cells [c1,c2,c3,c4] t .own 0 0))):=by
 have hw:jv .own 0 0 0 [c1,c2,c3,c4].length=true:=rfl
 simp only[ay.storeCells,ao,hw,eP,ab,ae,av,aK]
theorem Ze(m n N:Nat)(h:aa)(r:aU)(hm:ay.Mod r [(1,.ptr N 0),(2,.ptr (N+1) 0)])(s:Nat×Nat×Nat×Nat)(x:aa)(af:CE n N h r x):
  (n<=s.2.1->∃x',C (m+1) (.bR (N+3)) [.agg (fg s)] x=.ret (.bool false) x'/\NA N h r s x')/\(¬n<=s.2.1->∃x',C (m+1) (.bR (N+3)) [.agg (fg s)] x=.ret (.bool true) x'/\CE n N h r x'):=by
 obtain⟨yc,⟨a,b,c,d,s6⟩,G4,uP,pz,Bw⟩:=af
 have a6:C (m+1) (.bR (N+3)) [.agg (fg s)] x=n4 Tryz.prog (C m) (N+3) [.agg (fg s)] x:=rfl
 let bj:=(x.push (.cells [.int .u64 (Int.ofNat 0),.int .u64 (Int.ofNat 0),.int .u8 (Int.ofNat 0),.int .i64 (Int.ofNat 0)] 120 .own 0 0)).set x.n (some (.cells (fg s) 120 .own 0 0))
 have s1:=wS (c1:=.int .u64 (Int.ofNat s.1)) (c2:=.int .u64 (Int.ofNat s.2.1)) (c3:=.int .u8 (Int.ofNat s.2.2.1)) (c4:=.int .i64 (Int.ofNat s.2.2.2)) rfl rfl rfl rfl (by rw[aa.eD,if_pos rfl]:(x.push (.cells [.int .u64 (Int.ofNat 0),.int .u64 (Int.ofNat 0),.int .u8 (Int.ofNat 0),.int .i64 (Int.ofNat 0)] 120 .own 0 0)).get x.n=_)
 have cT:∀j,j<x.n->bj.get j=x.get j:=λj aI=>by simp only[bj];rw[aa.bH,if_neg (by omega),aa.eD,if_neg (by omega)]
 have has:c9 Tryz.prog (dh Tryz.f73) (some (N+3)) (C m) nR ⟨put 5 (.agg (fg s)) [(1,.ptr N 0),(2,.ptr (N+1) 0)],[],.none,x⟩ .nrm ⟨[(1,.ptr N 0),(2,.ptr (N+1) 0),(3,.ptr x.n 0)],[],.none,bj⟩:=
  c9.pre (st1:=⟨put 5 (.agg (fg s)) [(1,.ptr N 0),(2,.ptr (N+1) 0)],[],.none,x⟩) (Y9 (C m) (N+3) N (N+1) (fg s) x bj ⟨rfl,s1,rfl⟩) ⟨rfl,rfl,rfl,trivial⟩ rfl rfl rfl
 have bD:bj.get (N+3)=some (.loop .ready none (dh Tryz.f73) r [5] nR oS (N+2)):=(cT _ (by omega)).trans uP
 let bo:=bj.set (N+3) (some (.loop .busy none (dh Tryz.f73) r [5] nR oS (N+2)))
 have gc:bo.get x.n=some (.cells (fg s) 120 .own 0 0):=by simp only[bo,bj];rw[aa.bH,if_neg (by omega),aa.bH,if_pos rfl]
 have gB:bo.get (N+1)=some (.cells [a,b,c,d] 120 .own 0 0):=by simp only[bo];rw[aa.bH,if_neg (by omega),cT _ (by omega)];exact s6
 have s2:=wS (c1:=.int .u64 (Int.ofNat s.1)) (c2:=.int .u64 (Int.ofNat s.2.1)) (c3:=.int .u8 (Int.ofNat s.2.2.1)) (c4:=.int .i64 (Int.ofNat s.2.2.2)) rfl rfl rfl rfl gB
 let dj:=bo.set (N+1) (some (.cells (fg s) 120 .own 0 0))
 have ig:dj.get N=some (.cells [.int .u64 (Int.ofNat n)] 65 .own 0 0):=by simp only[dj,bo];rw[aa.bH,if_neg (by omega),aa.bH,if_neg (by omega),cT _ (by omega)];exact yc
 have Zf:dj.get x.n=some (.cells (fg s) 120 .own 0 0):=by simp only[dj];rw[aa.bH,if_neg (by omega)];exact gc
 have Bk:aA dj x.n (0+1)=some (.int .u64 (Int.ofNat s.2.1)):=by simp only[aA,Zf];rfl
 have au:dj.get (N+3)=some (.loop .busy none (dh Tryz.f73) r [5] nR oS (N+2)):=by simp only[dj,bo];rw[aa.bH,if_neg (by omega),aa.bH,if_pos rfl]
 have ex:Ext N h dj:=((((pz.trans (Nat.le_refl _) (Ext.push (by omega) _)).trans (Nat.le_refl _) (Ext.set (by omega) _)).trans (Nat.le_refl _) (Ext.set (by omega) _)).trans (Nat.le_refl _) (Ext.set (by omega) _))
 have gd:dj.get (N+2)=some (.defrd (some [])):=by simp only[dj,bo];rw[aa.bH,if_neg (by omega),aa.bH,if_neg (by omega),cT _ (by omega)];exact G4
 have go:dj.get (N+1)=some (.cells (fg s) 120 .own 0 0):=by simp only[dj];rw[aa.bH,if_pos rfl]
 have Zg:dj.n=x.n+1:=rfl
 refine⟨λhle=>?_,λhle=>?_⟩
 · have ag:=Y_ (C m) (N+3) N (N+1) x.n bo s.1 s.2.1 s.2.2.1 s.2.2.2 dj n s.2.1 (zo rfl gc) s2 (l8 ig) Bk (nC hle)
   have uQ:=BT uP hm has bD (c9.pre (st1:=⟨[(1,.ptr N 0),(2,.ptr (N+1) 0),(3,.ptr x.n 0)],[],.none,bo⟩) ag ⟨rfl,rfl,rfl,trivial⟩ rfl rfl rfl) au
   refine⟨_,a6.trans uQ,⟨?_,?_,?_,ex.trans (Nat.le_refl _) (Ext.set (by omega) _)⟩⟩
   · rw[aa.bH,if_neg (by omega)];exact go
   · rw[aa.bH,if_neg (by omega)];exact gd
   · rw[aa.bH,if_pos rfl]
 · have ag:=Za (C m) (N+3) N (N+1) x.n bo s.1 s.2.1 s.2.2.1 s.2.2.2 dj n s.2.1 (zo rfl gc) s2 (l8 ig) Bk (tU hle)
   have uQ:=BT uP hm has bD (c9.pre (st1:=⟨[(1,.ptr N 0),(2,.ptr (N+1) 0),(3,.ptr x.n 0)],[],.none,bo⟩) ag ⟨rfl,rfl,rfl,trivial⟩ rfl rfl rfl) au
   refine⟨_,a6.trans uQ,⟨?_,⟨.int .u64 (Int.ofNat s.1),.int .u64 (Int.ofNat s.2.1),.int .u8 (Int.ofNat s.2.2.1),.int .i64 (Int.ofNat s.2.2.2),?_⟩,?_,?_,ex.trans (Nat.le_refl _) (Ext.set (by omega) _),by simp[Zg];omega⟩⟩
   · rw[aa.bH,if_neg (by omega)];exact ig
   · rw[aa.bH,if_neg (by omega)];exact go
   · rw[aa.bH,if_neg (by omega)];exact gd
   · rw[aa.bH,if_pos rfl]
theorem NB(n:Nat)(h:aa):C (n+1) (.fn 72) [] h=.ret (.fn 89 [] []) h:=
 eg (intr:=jb) (n:=n) (args:=[]) Tryz.func72 (by kernel_rfl) rfl (by kernel_rfl) (Y5 (C n) h) (.inl rfl) (by kernel_rfl)
theorem Zh(m n:Nat)(h:aa)(aJ:n<18446744073709551616):∃an,C (m+3) (.fn 73) [.int .u64 (Int.ofNat n)] h=.ret (.agg (fg (g8 n))) an/\Ext h.n h an:=by
 let ab:=(h.push (.cells [.int .u64 (Int.ofNat n)] 65 .own 0 0)).push (.cells [.int .u64 (Int.ofNat 0),.int .u64 (Int.ofNat 0),.int .u8 (Int.ofNat 0),.int .i64 (Int.ofNat 0)] 120 .own 0 0)
 have w:WF Tryz.prog Tryz.f73 none (C (m+2)) [] (λe r d q an=>∃g5,kd Tryz.prog (C (m+2)) Tryz.f73 (.ok e r d q an)=.ret (.agg (fg (g8 n))) g5/\Ext h.n h g5) (nd 0 [.int .u64 (Int.ofNat n)] .leaf) [] .none h:=by
  refine WF.seq (p:=[]) (by kernel_rfl) (W.of (Y7 (C (m+2)) n h) (tQ [.int .u64 (Int.ofNat n)]) λba cE=>.inl ⟨rfl,?_⟩)
  refine WF.seq (p:=[1]) (by kernel_rfl) ?_
  refine WF.seq (p:=[1,0]) (by kernel_rfl) (W.of (Y8 (C (m+2)) h.n (h.n+1) ab _ ab (NB (m+1) ab)) cE λbt hB=>.inl ⟨rfl,?_⟩)
  refine WF.block (p:=[1,0,1]) (id:=0) (by kernel_rfl) ?_
  refine WF.range (p:=[1,0,1,0]) (t:=4) (ps:=[5]) (by kernel_rfl) (by kernel_rfl) (hf:=rfl) (hm:=hB) ?_
  let iY:=(ab.push (.defrd (some []))).push (.loop .ready none (dh Tryz.f73) bt [5] nR oS (h.n+2))
  have i0:CE n h.n h bt iY:=by
   refine⟨?_,⟨.int .u64 (Int.ofNat 0),.int .u64 (Int.ofNat 0),.int .u8 (Int.ofNat 0),.int .i64 (Int.ofNat 0),?_⟩,?_,?_,?_,?_⟩
   · simp only[iY,ab,aa.eD,aa.eJ];grind
   · simp only[iY,ab,aa.eD,aa.eJ];rw[if_neg (by omega),if_neg (by omega)];simp
   · simp only[iY,ab,aa.eD,aa.eJ];grind
   · simp only[iY,ab,aa.eD,aa.eJ];grind
   · exact(((Ext.push (Nat.le_refl _) _).trans (Nat.le_refl _) (Ext.push (by simp) _)).trans (Nat.le_refl _) (Ext.push (by simp[ab];omega) _)).trans (Nat.le_refl _) (Ext.push (by simp[ab];omega) _)
   · simp[iY,ab]
  have NC:ay.Mod bt [(1,.ptr h.n 0),(2,.ptr (h.n+1) 0)]:=hB.sub ⟨rfl,rfl,trivial⟩
  obtain⟨x,dI,eS⟩:=Zd (m+1) (h.n+3) n (CE n h.n h bt) (NA h.n h bt) (λs x ad=>Ze m n h.n h bt NC s x ad) aJ iY i0
  have jq:jh (h.n+3) bt [.collected (h.n+2)] .none (.ret (.aD []) x)=.ok (.exit 0) bt [.collected (h.n+2)] .none (x.set (h.n+3) (some (.loop .exhausted (some (.exit 0)) (dh Tryz.f73) bt [5] nR oS (h.n+2)))):=by
   simp only[jh,eS.oJ]
  refine⟨.exit 0,_,(congrArg (jh (h.n+3) bt [.collected (h.n+2)] .none) dI).trans jq,.inl ⟨rfl,.inl ⟨rfl,?_⟩⟩⟩
  have go:(x.set (h.n+3) (some (.loop .exhausted (some (.exit 0)) (dh Tryz.f73) bt [5] nR oS (h.n+2)))).get (h.n+1)=some (.cells (fg (g8 n)) 120 .own 0 0):=by rw[aa.bH,if_neg (by omega)];exact eS.out
  have gd:(x.set (h.n+3) (some (.loop .exhausted (some (.exit 0)) (dh Tryz.f73) bt [5] nR oS (h.n+2)))).get (h.n+2)=some (.defrd (some [])):=by rw[aa.bH,if_neg (by omega)];exact eS.ju
  have ex:Ext h.n h (x.set (h.n+3) (some (.loop .exhausted (some (.exit 0)) (dh Tryz.f73) bt [5] nR oS (h.n+2)))):=eS.ext.trans (Nat.le_refl _) (Ext.set (by omega) _)
  generalize x.set (h.n+3) (some (.loop .exhausted (some (.exit 0)) (dh Tryz.f73) bt [5] nR oS (h.n+2)))=y at go gd ex
  have cr:=wS (c1:=.int .u64 (Int.ofNat (g8 n).1)) (c2:=.int .u64 (Int.ofNat (g8 n).2.1)) (c3:=.int .u8 (Int.ofNat (g8 n).2.2.1)) (c4:=.int .i64 (Int.ofNat (g8 n).2.2.2)) rfl rfl rfl rfl go
  refine W.of (Zb (C (m+2)) (h.n+1) [.collected (h.n+2)] y _ _ _ _ _ (zo rfl go) cr) (NC.sub ⟨rfl,trivial⟩) λft wH=>?_
  let gi:=(y.set (h.n+1) (some (.cells (fg (g8 n)) 120 .own 0 0)))
  have Zi:gi.get (h.n+2)=some (.defrd (some [])):=by simp only[gi];rw[aa.bH,if_neg (by omega)];exact gd
  have Zj:(gi.set (h.n+2) (some (.defrd none))).get (h.n+1)=some (.cells (fg (g8 n)) 120 .own 0 0):=by simp only[gi];rw[aa.bH,if_neg (by omega),aa.bH,if_pos rfl]
  have hD:pa Tryz.prog (dh Tryz.f73) Tryz.f73 ft (gi.set (h.n+2) (some (.defrd none)))=some (.agg (fg (g8 n))):=by
   refine tR wH ?_
   have aE:Tryz.f73.results.toList=[.cell 2 120]:=by kernel_rfl
   have aC:Nat.testBit (dh Tryz.f73) 2=true:=by kernel_rfl
   have bu:lf Tryz.prog 120=some true:=by kernel_rfl
   have cX:dm Tryz.prog 120=some 4:=by kernel_rfl
   have gJ:fy 2 [(2,J.ptr (h.n+1) 0)]=some (.ptr (h.n+1) 0):=rfl
   simp only[k5,aE,mn,oy,aC,bu,cX,gJ,zo rfl Zj]
  refine⟨gi.set (h.n+2) (some (.defrd none)),?_,(ex.trans (Nat.le_refl _) (Ext.set (by omega) _)).trans (Nat.le_refl _) (Ext.set (by omega) _)⟩
  show kd Tryz.prog (C (m+2)) Tryz.f73 (.ok .ret ft [.collected (h.n+2)] .none gi)=_
  simp only[kd,jA,Zi,List.nil_append,hD]
 obtain⟨e,r,d,q,an,cq,g5,cp,jm⟩:=w
 exact⟨g5,Fw (intr:=jb) (n:=m+2) (args:=[.int .u64 (Int.ofNat n)]) Tryz.func73 (by kernel_rfl) rfl (by kernel_rfl) ⟨e,r,d,q,an,cq,cp⟩,jm⟩
end Go.Proofs.cW
namespace Go.Proofs.cW
open Go ay Go.Proofs Go.Proofs.ed
set_option maxRecDepth 100000
abbrev oT:J:=.int .u8 (Int.ofNat 0)
theorem ND(n:Nat)(acc:List UInt8):(J.int .u8 (Int.ofNat (n %256)))::cy acc=cy (UInt8.ofNat (n %256)::acc):=by
 simp only[cy,Zc,Nat.mod_mod]
theorem NF(call:aO->List J->aa->ax)(s:List UInt8)(z b:Nat)(p:J):∀(i m:Nat) (acc:List UInt8) (x:aa),i<=z->z<=8->x.get b=some (.cells (List.replicate (i+1) oT++cy acc) 5 .own 0 0)->
  ∃x',fT Tryz.prog Tryz.f52 none call [1,1,1,1,0,1,0] (i+1) ⟨[(0,.str s),(1,.int .u64 (Int.ofNat m)),(5,p),(6,.slice b 0 (z+1) (.exact (z+1))),(7,.int .i64 (Int.ofNat i))],[],.none,x⟩ (.exit 0) ⟨[(0,.str s),(1,.int .u64 (Int.ofNat (m/256^i))),(5,p),(6,.slice b 0 (z+1) (.exact (z+1)))],[],.none,x'⟩/\
   x'.get b=some (.cells (oT::cy (iI m i acc)) 5 .own 0 0)/\cz b x.n x x'
 |0,m,acc,x,af,a0,ao=>by
  refine⟨x,.exit (c9.post (Y4 _ _ _ _ _ _ _ _ (mH (by omega))) ⟨rfl,by simp[fy],rfl,rfl,trivial⟩) (by simp),ao,cz.refl _ _ _⟩
 |i+1,m,acc,x,af,a0,ao=>by
  have e:List.replicate (i+1+1) oT++cy acc=List.replicate (i+1) oT++oT::cy acc:=by rw[List.replicate_succ',List.append_assoc];rfl
  rw[e] at ao
  have st:=Ln (.inl rfl) ao (off:=0+(i+1)*1) (x:=.int .u8 (Int.ofNat (m %256))) (by simp) rfl
  rw[ND] at st
  have bW:=Fy .u64 (i:=m) (j:=8) (by decide)
  obtain⟨x',bD,bT,fu⟩:=NF call s z b p i (m/2^8) (UInt8.ofNat (m %256)::acc) (x.set b (some (.cells (List.replicate (i+1) oT++cy (UInt8.ofNat (m %256)::acc)) 5 .own 0 0))) (by omega) a0 (by rw[aa.bH,if_pos rfl])
  have em:m/2^8/256^i=m/256^(i+1):=by rw[show(2:Nat)^8=256 from rfl,Nat.div_div_eq_div_mul,Nat.pow_succ,Nat.mul_comm]
  rw[em] at bD
  refine⟨x',.step ?_ bD,bT,(cz.set _).trans (Nat.le_refl _) fu⟩
  exact(Y3 _ _ _ _ _ _ _ _ _ _ _ _ (kj (by omega)) (Nw m x) (by show(_:Nat)<=_;omega) (st) (bW) (r9 (by omega) (by omega)))
theorem G5(m n:Nat)(s:List UInt8)(h:aa)(aJ:n<18446744073709551616)(hs:s.length<=1000000000):∃an,C (m+4) (.fn 52) [.str s,.int .u64 (Int.ofNat n)] h=.ret (.str (s++cM n)) an/\Ext h.n h an:=by
 obtain⟨al,c1,bj⟩:=Zh m n h aJ
 obtain⟨AM,a0,_⟩:=YO n aJ
 have lL:=YN n aJ
 have hlen:=wR n
 rw[<-lL] at hlen⊢
 generalize Zk:g8 n=σ at c1 AM a0
 obtain⟨b0,to,kt,z⟩:=σ
 simp only at AM a0
 let ak:=(al.push (.cells [.int .u64 (Int.ofNat 0),.int .u64 (Int.ofNat 0),.int .u8 (Int.ofNat 0),.int .i64 (Int.ofNat 0)] 120 .own 0 0)).set al.n (some (.cells (fg (b0,to,kt,z)) 120 .own 0 0))
 have s2:=wS (c1:=.int .u64 (Int.ofNat b0)) (c2:=.int .u64 (Int.ofNat to)) (c3:=.int .u8 (Int.ofNat kt)) (c4:=.int .i64 (Int.ofNat z)) rfl rfl rfl rfl (by rw[aa.eD,if_pos rfl]:(al.push (.cells [.int .u64 (Int.ofNat 0),.int .u64 (Int.ofNat 0),.int .u8 (Int.ofNat 0),.int .i64 (Int.ofNat 0)] 120 .own 0 0)).get al.n=_)
 have zp:ak.get al.n=some (.cells (fg (b0,to,kt,z)) 120 .own 0 0):=by simp only[ak];rw[aa.bH,if_pos rfl]
 have bw:ak.n=al.n+1:=rfl
 let aS:=ak.push (.cells (List.replicate (z+1) oT) 5 .own 0 0)
 have NG:aS.get al.n=some (.cells (fg (b0,to,kt,z)) 120 .own 0 0):=by simp only[aS];rw[aa.eD,if_neg (by omega)];exact zp
 have Zl:aS.get ak.n=some (.cells (List.replicate (z+1) oT++cy []) 5 .own 0 0):=by simp only[aS];rw[aa.eD,if_pos rfl];simp[cy]
 have mk:vR Tryz.prog ak 98 (.int .i64 (Int.ofNat (1+z))) (.int .i64 (Int.ofNat (1+z)))=some (.slice ak.n 0 (z+1) (.exact (z+1)),aS):=by
  rw[Nat.add_comm 1 z]
  exact UF (i:=((Tryz.prog.info? 5).getD default)) oR (by kernel_rfl) (by kernel_rfl) (by kernel_rfl) (by kernel_rfl) (by omega) (by omega)
 obtain⟨bb,bD,bT,fu⟩:=NF (C (m+3)) s z ak.n (.ptr al.n 0) z (n-b0) [] aS (Nat.le_refl _) a0 Zl
 have loop:=fT.run (p:=[1,1,1,1,0,1,0]) (by kernel_rfl) bD (by omega)
 have Zm:bb.get al.n=some (.cells (fg (b0,to,kt,z)) 120 .own 0 0):=(fu.get _ (by simp[aS,bw];omega) (by omega)).trans NG
 have aE:(kt+(n-b0)/256^z %256) %256=(kt+(n-b0)/256^z) %256:=by omega
 have rM:cy (p1 n)=.int .u8 (Int.ofNat ((kt+(n-b0)/256^z) %256))::cy (iI (n-b0) z []):=by
  rw[ND];simp only[p1,Zk]
 have uH:(p1 n).length=z+1:=by
  have:=congrArg List.length rM
  simp only[oz,List.length_cons,nQ] at this
  simpa using this
 let ch:=bb.set ak.n (some (.cells (cy (p1 n)) 5 .own 0 0))
 have Zn:ay.storeCells bb ak.n (0+0*1) [.int .u8 (Int.ofNat ((kt+(n-b0)/256^z %256) %256))]=some ch:=by
  have:=Ln (l:=[]) (k:=.own) (.inl rfl) bT (off:=0+0*1) (x:=.int .u8 (Int.ofNat ((kt+(n-b0)/256^z %256) %256))) (by simp) rfl
  rw[this];simp only[ch,rM,aE,List.nil_append]
 have Zo:ch.get ak.n=some (.cells (cy (p1 n)++[]) 5 .own 0 0):=by simp only[ch];rw[aa.bH,if_pos rfl];simp
 have iT:=UE (P:=Tryz.prog) (a:=98) (b:=9) (cap:=.exact (p1 n).length) oR q5 sA (.inl rfl) Zo
 rw[uH] at iT
 refine⟨ch,?_,?_⟩
 · exact eg (intr:=jb) (n:=m+3) (args:=[.str s,.int .u64 (Int.ofNat n)]) Tryz.func52 (by kernel_rfl) rfl (by kernel_rfl)
    (eI (C (m+3)) n b0 to kt z ak.n ((n-b0)/256^z) s h al ak aS bb ak b0 (n-b0) z (1+z) z kt ((n-b0)/256^z %256) ((kt+(n-b0)/256^z %256) %256) ch (p1 n) (s++p1 n)
     c1 s2 (by simp only[aA,zp];rfl) (Ll (by omega) aJ) (by simp only[aA,zp];rfl) (qG (by omega)) mk (by simp only[aA,NG];rfl) (c9.pre loop ⟨rfl,rfl,rfl,rfl,rfl,trivial⟩ rfl rfl rfl)
     (by simp only[aA,Zm];rfl) (Nw _ bb) UD (by show 1<=z+1;omega) Zn iT (yF (by omega))) (.inl rfl) (by kernel_rfl)
 · have ds:Ext h.n h ak:=(bj.trans (Nat.le_refl _) (Ext.push bj.n _)).trans (Nat.le_refl _) (Ext.set bj.n _)
   have ag:h.n<=ak.n:=by have:=bj.n;omega
   have eu:Ext h.n h aS:=ds.trans (Nat.le_refl _) (Ext.push ag _)
   exact(eu.trans (Nat.le_refl _) ((fu.le (by have:=eu.n;omega)).Lo ag)).trans (Nat.le_refl _) (Ext.set ag _)
theorem NH(t:List UInt8):(dC t).length<=9+t.length:=by
 have:=wR t.length
 unfold dC;rw[List.length_append];omega
theorem Zp(m:Nat)(s t:List UInt8)(h:aa)(hs:s.length<=100000000)(a2:t.length<=100000000):∃an,C (m+5) (.fn 64) [.str s,.str t] h=.ret (.str (s++dC t)) an/\Ext h.n h an:=by
 obtain⟨g,c1,bj⟩:=G5 m t.length s h (by omega) (by omega)
 have aw:=wR t.length
 refine⟨g,?_,bj⟩
 rw[dC,<-List.append_assoc]
 exact eg (intr:=jb) (n:=m+4) (args:=[.str s,.str t]) Tryz.func64 (by kernel_rfl) rfl (by kernel_rfl) (wE (C (m+4)) s t h _ _ g _ (wQ _ (by omega) h) c1 (yF (by simp;omega))) (.inl rfl) (by kernel_rfl)
end Go.Proofs.cW
namespace Go.Proofs.cW
open Go ay Go.Proofs Go.Proofs.ed
set_option maxRecDepth 100000
set_option maxHeartbeats 1000000
theorem Zq(call:aO->List J->aa->ax)(s:List UInt8)(h:aa)(bL cm du:Nat)(jM:cj)(aX:aa)
  (H1:ea Tryz.prog 9 98 (J.str s) h=fj.val (J.slice bL cm du jM) aX):
  aN Tryz.prog Tryz.f22 none call [] (ar.mk [(0,.str s)] [] .none h) (.ret)
   (ar.mk [(2,.ptr (aa.n aX) 0)] [] .none (aa.push aX (.cells [.slice bL cm du jM,.bool false] 100 .own 0 0))):=
 bI [2] (hs:=[.fS (.slice bL cm du jM) aX]) (by kernel_rfl)<| .cons H1<| .nil
theorem Zr(call:aO->List J->aa->ax)(p k:Nat)(h:aa)(bL cm du:Nat)(jM:cj)(eC:Nat)(aX dg:aa)
  (H1:aA h p (0+0)=some (.slice bL cm du jM))
  (a7:ea Tryz.prog 3 65 (J.int IntKind.i64 (Int.ofNat du)) h=fj.val (J.int IntKind.u64 (Int.ofNat eC)) h)
  (b1:dZ (.ofNat eC) (.ofNat k)=true)
  (b8:ay.storeCells h p (0+0) [.az]=some aX)
  (dv:ay.storeCells aX p (0+1) [.bool true]=some dg):
  aN Tryz.prog Tryz.f50 none call [] (ar.mk [(0,.ptr p 0),(1,.int .u64 (.ofNat k))] [] .none h) (.ret)
   (ar.mk [(4,.az),(5,.bool false)] [] .none dg):=
 bI [4,5] (hs:=[.v (.slice bL cm du jM),.v (.int .u64 (.ofNat eC)),.b true,.fS (.aD []) aX,.fS (.aD []) dg]) (by kernel_rfl)<| .cons H1<| .cons a7<| .cons b1<| .cons (⟨by kernel_rfl,b8,rfl⟩:some 1=some 1/\ay.storeCells h p (0+0) [J.az]=some aX/\J.aD []=J.aD [])<| .cons (⟨by kernel_rfl,dv,rfl⟩:some 1=some 1/\ay.storeCells aX p (0+1) [J.bool true]=some dg/\J.aD []=J.aD [])<| .nil
theorem NI(call:aO->List J->aa->ax)(p k:Nat)(h:aa)(bL cm du:Nat)(jM:cj)(eC fV hn lK:Nat)(G6:cj)(q4 CF CG:Nat)(CH:cj)(aX:aa)
  (H1:aA h p (0+0)=some (.slice bL cm du jM))
  (a7:ea Tryz.prog 3 65 (J.int IntKind.i64 (Int.ofNat du)) h=fj.val (J.int IntKind.u64 (Int.ofNat eC)) h)
  (b1:dZ (.ofNat eC) (.ofNat k)=false)
  (b8:dR Tryz.prog h 98 (J.slice bL cm du jM) none (some (J.int IntKind.u64 (Int.ofNat k))) (some (J.int IntKind.u64 (Int.ofNat k)))=some (J.slice fV hn lK G6))
  (dv:dR Tryz.prog h 98 (J.slice bL cm du jM) (some (J.int IntKind.u64 (Int.ofNat k))) none none=some (J.slice q4 CF CG CH))
  (fB:ay.storeCells h p (0+0) [.slice q4 CF CG CH]=some aX):
  aN Tryz.prog Tryz.f50 none call [] (ar.mk [(0,.ptr p 0),(1,.int .u64 (.ofNat k))] [] .none h) (.ret)
   (ar.mk [(4,.slice fV hn lK G6),(5,.bool true)] [] .none aX):=
 bI [4,5] (hs:=[.v (.slice bL cm du jM),.v (.int .u64 (.ofNat eC)),.b false,.v (.slice bL cm du jM),.v (.slice fV hn lK G6),.v (.slice bL cm du jM),.v (.slice q4 CF CG CH),.fS (.aD []) aX]) (by kernel_rfl)<| .cons H1<| .cons a7<| .cons b1<| .cons H1<| .cons b8<| .cons H1<| .cons dv<| .cons (⟨by kernel_rfl,fB,rfl⟩:some 1=some 1/\ay.storeCells h p (0+0) [J.slice q4 CF CG CH]=some aX/\J.aD []=J.aD [])<| .nil
theorem Zs(call:aO->List J->aa->ax)(p k:Nat)(h aX dg:aa)
  (H1:aA h p (0+0)=some .az)
  (a7:dZ (.ofNat 0) (.ofNat k)=true)
  (b1:ay.storeCells h p (0+0) [.az]=some aX)
  (b8:ay.storeCells aX p (0+1) [.bool true]=some dg):
  aN Tryz.prog Tryz.f50 none call [] (ar.mk [(0,.ptr p 0),(1,.int .u64 (.ofNat k))] [] .none h) (.ret)
   (ar.mk [(4,.az),(5,.bool false)] [] .none dg):=
 bI [4,5] (hs:=[.v .az,.v (.int .u64 (.ofNat 0)),.b true,.fS (.aD []) aX,.fS (.aD []) dg]) (by kernel_rfl)<| .cons H1<| .cons (by kernel_rfl:ea Tryz.prog 3 65 (J.int IntKind.i64 (Int.ofNat 0)) h=fj.val (J.int IntKind.u64 (Int.ofNat 0)) h)<| .cons a7<| .cons (⟨by kernel_rfl,b1,rfl⟩:some 1=some 1/\ay.storeCells h p (0+0) [J.az]=some aX/\J.aD []=J.aD [])<| .cons (⟨by kernel_rfl,b8,rfl⟩:some 1=some 1/\ay.storeCells aX p (0+1) [J.bool true]=some dg/\J.aD []=J.aD [])<| .nil
theorem ctz(call:aO->List J->aa->ax)(p:Nat)(h aX:aa)
  (H1:aA h p (0+0)=some .az)
  (a7:dR Tryz.prog h 98 J.az none (some (J.int IntKind.u64 (Int.ofNat 0))) (some (J.int IntKind.u64 (Int.ofNat 0)))=some J.az)
  (b1:dR Tryz.prog h 98 J.az (some (J.int IntKind.u64 (Int.ofNat 0))) none none=some J.az)
  (b8:ay.storeCells h p (0+0) [.az]=some aX):
  aN Tryz.prog Tryz.f50 none call [] (ar.mk [(0,.ptr p 0),(1,.int .u64 (.ofNat 0))] [] .none h) (.ret)
   (ar.mk [(4,.az),(5,.bool true)] [] .none aX):=
 bI [4,5] (hs:=[.v .az,.v (.int .u64 (.ofNat 0)),.b false,.v .az,.v .az,.v .az,.v .az,.fS (.aD []) aX]) (by kernel_rfl)<| .cons H1<| .cons (by kernel_rfl:ea Tryz.prog 3 65 (J.int IntKind.i64 (Int.ofNat 0)) h=fj.val (J.int IntKind.u64 (Int.ofNat 0)) h)<| .cons (by kernel_rfl:dZ (Int.ofNat 0) (Int.ofNat 0)=false)<| .cons H1<| .cons a7<| .cons H1<| .cons b1<| .cons (⟨by kernel_rfl,b8,rfl⟩:some 1=some 1/\ay.storeCells h p (0+0) [J.az]=some aX/\J.aD []=J.aD [])<| .nil
theorem Zt(call:aO->List J->aa->ax)(p n:Nat)(s:List UInt8)(t:Bool)(h g:aa)(bL:Nat)(cQ:List UInt8)(b6:Bool)(aX:aa)
  (H1:call (.fn 51) [.fn 50 [.ptr p 0] []] h=ax.ret (.aD [.int .u64 (.ofNat bL),.str cQ,.bool b6]) aX)
  (a7:(!b6)=true):
  aN Tryz.prog Tryz.f24 none call [] (ar.mk [(0,.ptr p 0)] [] .none h) (.ret)
   (ar.mk [(2,.int .u64 (.ofNat 0))] [] .none aX):=
 bI [2] (hs:=[.v (.bool false),.b false,.c (.aD [.int .u64 (.ofNat bL),.str cQ,.bool b6]) aX,.b true]) (by kernel_rfl)<| .cons (by kernel_rfl:er Tryz.prog h BinOp.eql 60 (Operand.tmp 6) (Operand.const (Value.pointer none)) (J.ptr p 0) J.bc=some (J.bool false))<| .cons (by kernel_rfl:false=false)<| .cons H1<| .cons a7<| .nil
theorem Zu(call:aO->List J->aa->ax)(p n:Nat)(s:List UInt8)(t:Bool)(h g:aa)(bL:Nat)(cQ:List UInt8)(b6:Bool)(aX:aa)(gF:List UInt8)(dg i_ CI:aa)
  (H1:call (.fn 51) [.fn 50 [.ptr p 0] []] h=ax.ret (.aD [.int .u64 (.ofNat bL),.str cQ,.bool b6]) aX)
  (a7:(!b6)=false)
  (b1:call (.fn 52) [.str [],.int .u64 (.ofNat bL)] aX=ax.ret (.str gF) dg)
  (b8:(!cw gF cQ)=true)
  (dv:ay.storeCells dg p (0+0) [.az]=some i_)
  (fB:ay.storeCells i_ p (0+1) [.bool true]=some CI):
  aN Tryz.prog Tryz.f24 none call [] (ar.mk [(0,.ptr p 0)] [] .none h) (.ret)
   (ar.mk [(2,.int .u64 (.ofNat 0))] [] .none CI):=
 bI [2] (hs:=[.v (.bool false),.b false,.c (.aD [.int .u64 (.ofNat bL),.str cQ,.bool b6]) aX,.b false,.c (.str gF) dg,.b true,.fS (.aD []) i_,.fS (.aD []) CI]) (by kernel_rfl)<| .cons (by kernel_rfl:er Tryz.prog h BinOp.eql 60 (Operand.tmp 6) (Operand.const (Value.pointer none)) (J.ptr p 0) J.bc=some (J.bool false))<| .cons (by kernel_rfl:false=false)<| .cons H1<| .cons a7<| .cons b1<| .cons b8<| .cons (⟨by kernel_rfl,dv,rfl⟩:some 1=some 1/\ay.storeCells dg p (0+0) [J.az]=some i_/\J.aD []=J.aD [])<| .cons (⟨by kernel_rfl,fB,rfl⟩:some 1=some 1/\ay.storeCells i_ p (0+1) [J.bool true]=some CI/\J.aD []=J.aD [])<| .nil
theorem Zv(call:aO->List J->aa->ax)(p n:Nat)(s:List UInt8)(t:Bool)(h g:aa)(bL:Nat)(cQ:List UInt8)(b6:Bool)(aX:aa)(gF:List UInt8)(dg:aa)
  (H1:call (.fn 51) [.fn 50 [.ptr p 0] []] h=ax.ret (.aD [.int .u64 (.ofNat bL),.str cQ,.bool b6]) aX)
  (a7:(!b6)=false)
  (b1:call (.fn 52) [.str [],.int .u64 (.ofNat bL)] aX=ax.ret (.str gF) dg)
  (b8:(!cw gF cQ)=false):
  aN Tryz.prog Tryz.f24 none call [] (ar.mk [(0,.ptr p 0)] [] .none h) (.ret)
   (ar.mk [(2,.int .u64 (.ofNat bL))] [] .none dg):=
 bI [2] (hs:=[.v (.bool false),.b false,.c (.aD [.int .u64 (.ofNat bL),.str cQ,.bool b6]) aX,.b false,.c (.str gF) dg,.b false]) (by kernel_rfl)<| .cons (by kernel_rfl:er Tryz.prog h BinOp.eql 60 (Operand.tmp 6) (Operand.const (Value.pointer none)) (J.ptr p 0) J.bc=some (J.bool false))<| .cons (by kernel_rfl:false=false)<| .cons H1<| .cons a7<| .cons b1<| .cons b8<| .nil
theorem Zw(call:aO->List J->aa->ax)(p n b o m:Nat)(aG:cj)(s:List UInt8)(t:Bool)(h g al:aa)
  (H1:call (.fn 24) [.ptr p 0] h=ax.ret (.int .u64 (.ofNat n)) g)
  (a7:call (.fn 50) [.ptr p 0,.int .u64 (.ofNat n)] g=ax.ret (.aD [.slice b o m aG,.bool t]) al)
  (b1:ea Tryz.prog 98 9 (J.slice b o m aG) al=fj.val (J.str s) al):
  aN Tryz.prog Tryz.f23 none call [] (ar.mk [(0,.ptr p 0)] [] .none h) (.ret)
   (ar.mk [(2,.str s)] [] .none al):=
 bI [2] (hs:=[.c (.int .u64 (.ofNat n)) g,.v (.bool false),.b false,.c (.aD [.slice b o m aG,.bool t]) al,.v (.str s)]) (by kernel_rfl)<| .cons H1<| .cons (by kernel_rfl:er Tryz.prog g BinOp.eql 60 (Operand.tmp 8) (Operand.const (Value.pointer none)) (J.ptr p 0) J.bc=some (J.bool false))<| .cons (by kernel_rfl:false=false)<| .cons a7<| .cons b1<| .nil
theorem Zx(call:aO->List J->aa->ax)(p n:Nat)(s:List UInt8)(t:Bool)(h g al:aa)
  (H1:call (.fn 24) [.ptr p 0] h=ax.ret (.int .u64 (.ofNat n)) g)
  (a7:call (.fn 50) [.ptr p 0,.int .u64 (.ofNat n)] g=ax.ret (.aD [.az,.bool t]) al):
  aN Tryz.prog Tryz.f23 none call [] (ar.mk [(0,.ptr p 0)] [] .none h) (.ret)
   (ar.mk [(2,.str [])] [] .none al):=
 bI [2] (hs:=[.c (.int .u64 (.ofNat n)) g,.v (.bool false),.b false,.c (.aD [.az,.bool t]) al,.v (.str [])]) (by kernel_rfl)<| .cons H1<| .cons (by kernel_rfl:er Tryz.prog g BinOp.eql 60 (Operand.tmp 8) (Operand.const (Value.pointer none)) (J.ptr p 0) J.bc=some (J.bool false))<| .cons (by kernel_rfl:false=false)<| .cons a7<| .cons (by kernel_rfl:ea Tryz.prog 98 9 J.az al=fj.val (J.str []) al)<| .nil
theorem tr(call:aO->List J->aa->ax)(p:Nat)(h:aa)(b6:Bool)
  (H1:aA h p (0+1)=some (.bool b6)):
  aN Tryz.prog Tryz.f26 none call [] (ar.mk [(0,.ptr p 0)] [] .none h) (.ret)
   (ar.mk [(2,.bool !b6)] [] .none h):=
 bI [2] (hs:=[.v (.bool !false),.b true,.b true,.b true,.b true,.v (.bool b6),.b true,.b true]) (by kernel_rfl)<| .cons (by kernel_rfl:er Tryz.prog h BinOp.neq 60 (Operand.tmp 3) (Operand.const (Value.pointer none)) (J.ptr p 0) J.bc=some (J.bool !false))<| .cons (by kernel_rfl:(!false)=true)<| .cons (by kernel_rfl:(!false)=true)<| .cons (by kernel_rfl:(!false)=true)<| .cons (by kernel_rfl:(!false)=true)<| .cons H1<| .cons (by kernel_rfl:(!false)=true)<| .cons (by kernel_rfl:(!false)=true)<| .nil
theorem NJ(call:aO->List J->aa->ax)(p:Nat)(h:aa)(b6:Bool)(aX:aa)(bL cm du:Nat)(jM:cj)
  (H1:call (.fn 26) [.ptr p 0] h=ax.ret (.bool b6) aX)
  (a7:b6=true)
  (b1:aA aX p (0+0)=some (.slice bL cm du jM)):
  aN Tryz.prog Tryz.f28 none call [] (ar.mk [(0,.ptr p 0)] [] .none h) (.ret)
   (ar.mk [(2,.bool (de (.ofNat du) (.ofNat 0)))] [] .none aX):=
 bI [2] (hs:=[.c (.bool b6) aX,.b true,.b true,.b true,.b true,.v (.slice bL cm du jM),.b true,.b true,.b true]) (by kernel_rfl)<| .cons H1<| .cons a7<| .cons a7<| .cons a7<| .cons a7<| .cons b1<| .cons a7<| .cons a7<| .cons a7<| .nil
theorem Zy(call:aO->List J->aa->ax)(p:Nat)(h:aa)(b6:Bool)(aX:aa)
  (H1:call (.fn 26) [.ptr p 0] h=ax.ret (.bool b6) aX)
  (a7:b6=false):
  aN Tryz.prog Tryz.f28 none call [] (ar.mk [(0,.ptr p 0)] [] .none h) (.ret)
   (ar.mk [(2,.bool false)] [] .none aX):=
 bI [2] (hs:=[.c (.bool b6) aX,.b false,.b false,.b false,.b false,.b false,.b false,.b false]) (by kernel_rfl)<| .cons H1<| .cons a7<| .cons a7<| .cons a7<| .cons a7<| .cons a7<| .cons a7<| .cons a7<| .nil
theorem lw(call:aO->List J->aa->ax)(s:List UInt8)(n:Nat)(h g:aa)
  (H1:aN Tryz.prog Tryz.f58 none call [1,1,0,1,0] (ar.mk [(4,.int .i64 (.ofNat 0)),(3,.int .u64 (.ofNat 0)),(2,.int .u64 (.ofNat 0)),(0,.str s)] [] .none h) (.exit 0) (ar.mk [(3,.int .u64 (.ofNat n))] [] .none g)):
  aN Tryz.prog Tryz.f58 none call [] (ar.mk [(0,.str s)] [] .none h) (.ret)
   (ar.mk [(2,.int .u64 (.ofNat n))] [] .none g):=
 bI [2] (hs:=[Hint.loop (bK.exit 0) (ar.mk [(3,J.int IntKind.u64 (Int.ofNat n))] [] bG.none g)]) (by kernel_rfl)<| .cons H1<| .nil
theorem NK(call:aO->List J->aa->ax)(f:J)(h:aa):
  aN Tryz.prog Tryz.f51 none call [0] (ar.mk [(0,f)] [] .none h) (.nrm)
   (ar.mk [(0,f)] [] .none h):=
 bI [0] (hs:=[]) (by kernel_rfl)<| .nil
theorem Zz(call:aO->List J->aa->ax)(p b o m:Nat)(aG:cj)(t:Bool)(h g aX:aa)
  (H1:call (.fn 50) [.ptr p 0,.int .u64 (.ofNat 1)] h=ax.ret (.aD [.slice b o m aG,.bool t]) g)
  (a7:ay.storeCells (aa.push g (.cells [.az] 98 .own 0 0)) (aa.n g) 0 [.slice b o m aG]=some aX):
  aN Tryz.prog Tryz.f51 none call [1,0] (ar.mk [(0,.fn 50 [.ptr p 0] [])] [] .none h) (.nrm)
   (ar.mk [(0,.fn 50 [.ptr p 0] []),(4,.bool t),(5,.ptr (aa.n g) 0)] [] .none aX):=
 bI [0,4,5] (hs:=[.c (.aD [.slice b o m aG,.bool t]) g,.fS (.aD []) aX]) (by kernel_rfl)<| .cons H1<| .cons (⟨by kernel_rfl,a7,rfl⟩:some 1=some 1/\ay.storeCells (aa.push g (b3.cells [J.az] 98 eZ.own 0 0)) (aa.n g) 0 [J.slice b o m aG]=some aX/\J.aD []=J.aD [])<| .nil
theorem ZA(call:aO->List J->aa->ax)(p:Nat)(t:Bool)(h g aX:aa)
  (H1:call (.fn 50) [.ptr p 0,.int .u64 (.ofNat 1)] h=ax.ret (.aD [.az,.bool t]) g)
  (a7:ay.storeCells (aa.push g (.cells [.az] 98 .own 0 0)) (aa.n g) 0 [.az]=some aX):
  aN Tryz.prog Tryz.f51 none call [1,0] (ar.mk [(0,.fn 50 [.ptr p 0] [])] [] .none h) (.nrm)
   (ar.mk [(0,.fn 50 [.ptr p 0] []),(4,.bool t),(5,.ptr (aa.n g) 0)] [] .none aX):=
 bI [0,4,5] (hs:=[.c (.aD [.az,.bool t]) g,.fS (.aD []) aX]) (by kernel_rfl)<| .cons H1<| .cons (⟨by kernel_rfl,a7,rfl⟩:some 1=some 1/\ay.storeCells (aa.push g (b3.cells [J.az] 98 eZ.own 0 0)) (aa.n g) 0 [J.az]=some aX/\J.aD []=J.aD [])<| .nil
theorem ZB(call:aO->List J->aa->ax)(f a:J)(t:Bool)(h:aa)
  (H1:(!t)=true):
  aN Tryz.prog Tryz.f51 none call [1,1,0] (ar.mk [(0,f),(4,.bool t),(5,a)] [] .none h) (.ret)
   (ar.mk [(0,f),(2,.int .u64 (.ofNat 0)),(3,.str []),(4,.bool false),(5,a)] [] .none h):=
 bI [0,2,3,4,5] (hs:=[.b true]) (by kernel_rfl)<| .cons H1<| .nil
theorem ZC(call:aO->List J->aa->ax)(f a:J)(t:Bool)(h:aa)
  (H1:(!t)=false):
  aN Tryz.prog Tryz.f51 none call [1,1,0] (ar.mk [(0,f),(4,.bool t),(5,a)] [] .none h) (.nrm)
   (ar.mk [(0,f),(4,.bool t),(5,a)] [] .none h):=
 bI [0,2,3,4,5] (hs:=[.b false]) (by kernel_rfl)<| .cons H1<| .nil
theorem ZD(call:aO->List J->aa->ax)(f a:J)(h aX:aa)
  (H1:ay.storeCells (aa.push h (.cells [.int .u64 (.ofNat 0),.int .u64 (.ofNat 0),.int .u8 (.ofNat 0),.int .i64 (.ofNat 0)] 120 .own 0 0)) (aa.n h) 0 [.int .u64 (.ofNat 0),.int .u64 (.ofNat 0),.int .u8 (.ofNat 0),.int .i64 (.ofNat 0)]=some aX):
  aN Tryz.prog Tryz.f51 none call [1,1,1,0] (ar.mk [(0,f),(5,a)] [] .none h) (.nrm)
   (ar.mk [(0,f),(5,a),(6,.ptr (aa.n h) 0)] [] .none aX):=
 bI [0,5,6] (hs:=[.fS (.aD []) aX]) (by kernel_rfl)<| .cons (⟨by kernel_rfl,H1,rfl⟩:some 4=some 4/\ay.storeCells (aa.push h (b3.cells [J.int IntKind.u64 (Int.ofNat 0),J.int IntKind.u64 (Int.ofNat 0),J.int IntKind.u8 (Int.ofNat 0),J.int IntKind.i64 (Int.ofNat 0)] 120 eZ.own 0 0)) (aa.n h) 0 [J.int IntKind.u64 (Int.ofNat 0),J.int IntKind.u64 (Int.ofNat 0),J.int IntKind.u8 (Int.ofNat 0),J.int IntKind.i64 (Int.ofNat 0)]=some aX/\J.aD []=J.aD [])<| .nil
theorem ZE(call:aO->List J->aa->ax)(f a b:J)(h:aa)(uO:J)(aX:aa)
  (H1:call (.fn 72) [] h=ax.ret uO aX):
  aN Tryz.prog Tryz.f51 none call [1,1,1,1,0,0] (ar.mk [(0,f),(5,a),(6,b)] [] .none h) (.nrm)
   (ar.mk [(0,f),(5,a),(6,b),(19,uO)] [] .none aX):=
 bI [0,5,6,19] (hs:=[.c uO aX]) (by kernel_rfl)<| .cons H1<| .nil
theorem ZF(call:aO->List J->aa->ax)(l a b:Nat)(x:List J)(h aX:aa)
  (H1:some 4=some (List.length x)/\ay.storeCells (aa.push h (b3.cells [J.int IntKind.u64 (Int.ofNat 0),J.int IntKind.u64 (Int.ofNat 0),J.int IntKind.u8 (Int.ofNat 0),J.int IntKind.i64 (Int.ofNat 0)] 120 eZ.own 0 0)) (aa.n h) 0 x=some aX/\J.aD []=J.aD []):
  aN Tryz.prog Tryz.f51 (some l) call [1,1,1,1,0,1,0,0] (ar.mk [(20,.agg x),(5,.ptr a 0),(6,.ptr b 0)] [] .none h) (.nrm)
   (ar.mk [(5,.ptr a 0),(6,.ptr b 0),(7,.ptr (aa.n h) 0)] [] .none aX):=
 bI [5,6,7] (hs:=[.fS (.aD []) aX]) (by kernel_rfl)<| .cons H1<| .nil
theorem ZG(call:aO->List J->aa->ax)(l a b c p o n:Nat)(aG:cj)(h:aa)(bL cm:Nat)
  (H1:aA (aa.room h 6) c (0+2)=some (.int .u8 (.ofNat bL)))
  (a7:aA (aa.room h 6) a 0=some (.slice p o n aG))
  (b1:Nat.le 1 n)
  (b8:aA (aa.room h 6) p (o+0*1)=some (.int .u8 (.ofNat cm)))
  (dv:dZ (.ofNat cm) (.ofNat bL)=true):
  aN Tryz.prog Tryz.f51 (some l) call [1,1,1,1,0,1,0,1] (ar.mk [(5,.ptr a 0),(6,.ptr b 0),(7,.ptr c 0)] [] .none h) (.exit 0)
   (ar.mk [] [] .none (aa.room h 6)):=
 bI [] (hs:=[.v (.int .u8 (.ofNat bL)),.v (.slice p o n aG),.v (.ptr p (o+0*1)),.v (.int .u8 (.ofNat cm)),.b true]) (by kernel_rfl)<| .cons H1<| .cons a7<| .cons (⟨b1,rfl⟩:Nat.le 1 n/\J.ptr p (o+0*1)=J.ptr p (o+0*1))<| .cons b8<| .cons (by kernel_rfl:J.sound (J.ptr c (0+2))=true)<| .cons (by kernel_rfl:J.ptr c (0+2)=J.ptr c (0+2))<| .cons (by kernel_rfl:J.sound (J.int IntKind.u8 (Int.ofNat bL))=true)<| .cons H1<| .cons (by kernel_rfl:J.sound (J.slice p o n aG)=true)<| .cons a7<| .cons (by kernel_rfl:J.sound (J.ptr p (o+0*1))=true)<| .cons (⟨b1,rfl⟩:Nat.le 1 n/\J.ptr p (o+0*1)=J.ptr p (o+0*1))<| .cons (by kernel_rfl:J.sound (J.int IntKind.u8 (Int.ofNat cm))=true)<| .cons b8<| .cons (by kernel_rfl:J.sound (J.bool (dZ (Int.ofNat cm) (Int.ofNat bL)))=true)<| .cons (by kernel_rfl:J.bool (dZ (Int.ofNat cm) (Int.ofNat bL))=J.bool (dZ (Int.ofNat cm) (Int.ofNat bL)))<| .cons dv<| .nil
theorem ZH(call:aO->List J->aa->ax)(l a b c p o n:Nat)(aG:cj)(h:aa)(bL cm du eC fV hn:Nat)(aX:aa)
  (H1:aA (aa.room h 6) c (0+2)=some (.int .u8 (.ofNat bL)))
  (a7:aA (aa.room h 6) a 0=some (.slice p o n aG))
  (b1:Nat.le 1 n)
  (b8:aA (aa.room h 6) p (o+0*1)=some (.int .u8 (.ofNat cm)))
  (dv:dZ (.ofNat cm) (.ofNat bL)=false)
  (fB:ay.loadCells (aa.room h 6) c 0 4=some [.int .u64 (.ofNat du),.int .u64 (.ofNat eC),.int .u8 (.ofNat fV),.int .i64 (.ofNat hn)])
  (lG:ay.storeCells (aa.room h 6) b 0 [.int .u64 (.ofNat du),.int .u64 (.ofNat eC),.int .u8 (.ofNat fV),.int .i64 (.ofNat hn)]=some aX):
  aN Tryz.prog Tryz.f51 (some l) call [1,1,1,1,0,1,0,1] (ar.mk [(5,.ptr a 0),(6,.ptr b 0),(7,.ptr c 0)] [] .none h) (.nrm)
   (ar.mk [] [] .none aX):=
 bI [] (hs:=[.v (.int .u8 (.ofNat bL)),.v (.slice p o n aG),.v (.ptr p (o+0*1)),.v (.int .u8 (.ofNat cm)),.b false,.v (.agg [.int .u64 (.ofNat du),.int .u64 (.ofNat eC),.int .u8 (.ofNat fV),.int .i64 (.ofNat hn)]),.fS (.aD []) aX]) (by kernel_rfl)<| .cons H1<| .cons a7<| .cons (⟨b1,rfl⟩:Nat.le 1 n/\J.ptr p (o+0*1)=J.ptr p (o+0*1))<| .cons b8<| .cons (by kernel_rfl:J.sound (J.ptr c (0+2))=true)<| .cons (by kernel_rfl:J.ptr c (0+2)=J.ptr c (0+2))<| .cons (by kernel_rfl:J.sound (J.int IntKind.u8 (Int.ofNat bL))=true)<| .cons H1<| .cons (by kernel_rfl:J.sound (J.slice p o n aG)=true)<| .cons a7<| .cons (by kernel_rfl:J.sound (J.ptr p (o+0*1))=true)<| .cons (⟨b1,rfl⟩:Nat.le 1 n/\J.ptr p (o+0*1)=J.ptr p (o+0*1))<| .cons (by kernel_rfl:J.sound (J.int IntKind.u8 (Int.ofNat cm))=true)<| .cons b8<| .cons (by kernel_rfl:J.sound (J.bool (dZ (Int.ofNat cm) (Int.ofNat bL)))=true)<| .cons (by kernel_rfl:J.bool (dZ (Int.ofNat cm) (Int.ofNat bL))=J.bool (dZ (Int.ofNat cm) (Int.ofNat bL)))<| .cons dv<| .cons fB<| .cons (⟨by kernel_rfl,lG,rfl⟩:some 4=some 4/\ay.storeCells (aa.room h 6) b 0 [J.int IntKind.u64 (Int.ofNat du),J.int IntKind.u64 (Int.ofNat eC),J.int IntKind.u8 (Int.ofNat fV),J.int IntKind.i64 (Int.ofNat hn)]=some aX/\J.aD []=J.aD [])<| .nil
theorem ZI(call:aO->List J->aa->ax)(p a b:Nat)(w:J)(t:Bool)(d:List bC)(h g:aa)(bL cm:Nat)
  (H1:aA h b (0+3)=some (.int .i64 (.ofNat bL)))
  (a7:ea Tryz.prog 3 65 (J.int IntKind.i64 (Int.ofNat bL)) h=fj.val (J.int IntKind.u64 (Int.ofNat cm)) h)
  (b1:call (.fn 50) [.ptr p 0,.int .u64 (.ofNat cm)] h=ax.ret (.aD [w,.bool t]) g):
  aN Tryz.prog Tryz.f51 none call [1,1,1,1,1,0] (ar.mk [(0,.fn 50 [.ptr p 0] []),(5,.ptr a 0),(6,.ptr b 0)] d .none h) (.nrm)
   (ar.mk [(4,.bool t),(5,.ptr a 0),(6,.ptr b 0),(8,w)] d .none g):=
 bI [4,5,6,8] (hs:=[.v (.int .i64 (.ofNat bL)),.v (.int .u64 (.ofNat cm)),.c (.aD [w,.bool t]) g]) (by kernel_rfl)<| .cons H1<| .cons a7<| .cons b1<| .nil
theorem ZJ(call:aO->List J->aa->ax)(a b w:J)(t:Bool)(d:List bC)(h:aa)
  (H1:(!t)=true):
  aN Tryz.prog Tryz.f51 none call [1,1,1,1,1,1,0] (ar.mk [(4,.bool t),(5,a),(6,b),(8,w)] d .none h) (.ret)
   (ar.mk [(2,.int .u64 (.ofNat 0)),(3,.str []),(4,.bool false),(5,a),(6,b),(8,w)] d .none h):=
 bI [2,3,4,5,6,8] (hs:=[.b true]) (by kernel_rfl)<| .cons H1<| .nil
theorem ZK(call:aO->List J->aa->ax)(a b w:J)(t:Bool)(d:List bC)(h:aa)
  (H1:(!t)=false):
  aN Tryz.prog Tryz.f51 none call [1,1,1,1,1,1,0] (ar.mk [(4,.bool t),(5,a),(6,b),(8,w)] d .none h) (.nrm)
   (ar.mk [(4,.bool t),(5,a),(6,b),(8,w)] d .none h):=
 bI [2,3,4,5,6,8] (hs:=[.b false]) (by kernel_rfl)<| .cons H1<| .nil
theorem ZL(call:aO->List J->aa->ax)(a b:Nat)(w:J)(d:List bC)(h:aa)(bL cm du:Nat)(jM:cj)(eC fV hn lK:Nat)
  (H1:aA (aa.room h 8) a 0=some (.slice bL cm du jM))
  (a7:Nat.le 1 du)
  (b1:aA (aa.room h 8) bL (cm+0*1)=some (.int .u8 (.ofNat eC)))
  (b8:aA (aa.room h 8) b (0+2)=some (.int .u8 (.ofNat fV)))
  (dv:arith .sub .u8 (.ofNat eC) (.ofNat fV)=some (.int .u8 (.ofNat hn)))
  (fB:ea Tryz.prog 5 65 (J.int IntKind.u8 (Int.ofNat hn)) (aa.room h 8)=fj.val (J.int IntKind.u64 (Int.ofNat lK)) (aa.room h 8)):
  aN Tryz.prog Tryz.f51 none call [1,1,1,1,1,1,1,0] (ar.mk [(5,.ptr a 0),(6,.ptr b 0),(8,w)] d .none h) (.nrm)
   (ar.mk [(2,.int .u64 (.ofNat lK)),(5,.ptr a 0),(6,.ptr b 0),(8,w)] d .none (aa.room h 8)):=
 bI [2,5,6,8] (hs:=[.v (.slice bL cm du jM),.v (.ptr bL (cm+0*1)),.v (.int .u8 (.ofNat eC)),.v (.int .u8 (.ofNat fV)),.v (.int .u8 (.ofNat hn)),.v (.int .u64 (.ofNat lK))]) (by kernel_rfl)<| .cons H1<| .cons (⟨a7,rfl⟩:Nat.le 1 du/\J.ptr bL (cm+0*1)=J.ptr bL (cm+0*1))<| .cons b1<| .cons b8<| .cons dv<| .cons fB<| .cons (by kernel_rfl:J.sound (J.slice bL cm du jM)=true)<| .cons H1<| .cons (by kernel_rfl:J.sound (J.ptr bL (cm+0*1))=true)<| .cons (⟨a7,rfl⟩:Nat.le 1 du/\J.ptr bL (cm+0*1)=J.ptr bL (cm+0*1))<| .cons (by kernel_rfl:J.sound (J.int IntKind.u8 (Int.ofNat eC))=true)<| .cons b1<| .cons (by kernel_rfl:J.sound (J.ptr b (0+2))=true)<| .cons (by kernel_rfl:J.ptr b (0+2)=J.ptr b (0+2))<| .cons (by kernel_rfl:J.sound (J.int IntKind.u8 (Int.ofNat fV))=true)<| .cons b8<| .cons (by kernel_rfl:J.sound (J.int IntKind.u8 (Int.ofNat hn))=true)<| .cons dv<| .cons (by kernel_rfl:J.sound (J.int IntKind.u64 (Int.ofNat lK))=true)<| .cons fB<| .cons (by kernel_rfl:J.sound (J.int IntKind.u64 (Int.ofNat lK))=true)<| .cons (by kernel_rfl:J.int IntKind.u64 (Int.ofNat lK)=J.int IntKind.u64 (Int.ofNat lK))<| .nil
theorem ZM(call:aO->List J->aa->ax)(a b:J)(k c o n:Nat)(aG:cj)(d:List bC)(h:aa):
  aN Tryz.prog Tryz.f51 none call [1,1,1,1,1,1,1,1,0,0] (ar.mk [(2,.int .u64 (.ofNat k)),(5,a),(6,b),(8,.slice c o n aG)] d .none h) (.nrm)
   (ar.mk [(2,.int .u64 (.ofNat k)),(5,a),(6,b),(8,.slice c o n aG),(45,.slice c o n aG),(46,.int .i64 (.ofNat n)),(47,.int .i64 (.ofNat 0))] d .none h):=
 bI [2,5,6,8,45,46,47] (hs:=[]) (by kernel_rfl)<| .nil
theorem ZN(call:aO->List J->aa->ax)(a b w:J)(k c o n i:Nat)(aG:cj)(d:List bC)(h:aa)(bL cm du eC fV:Nat)
  (H1:dZ (.ofNat i) (.ofNat n)=true)
  (a7:Nat.le (Nat.succ i) n)
  (b1:aA h c (o+i*1)=some (.int .u8 (.ofNat bL)))
  (b8:ml .shl .u64 (.ofNat k) (.ofNat 8)=some (.int .u64 (.ofNat cm)))
  (dv:ea Tryz.prog 5 65 (J.int IntKind.u8 (Int.ofNat bL)) h=fj.val (J.int IntKind.u64 (Int.ofNat du)) h)
  (fB:arith .or .u64 (.ofNat cm) (.ofNat du)=some (.int .u64 (.ofNat eC)))
  (lG:arith .add .i64 (.ofNat i) (.ofNat 1)=some (.int .i64 (.ofNat fV))):
  aN Tryz.prog Tryz.f51 none call [1,1,1,1,1,1,1,1,0,1,0,0] (ar.mk [(2,.int .u64 (.ofNat k)),(5,a),(6,b),(8,w),(45,.slice c o n aG),(46,.int .i64 (.ofNat n)),(47,.int .i64 (.ofNat i))] d .none h) (.nrm)
   (ar.mk [(2,.int .u64 (.ofNat eC)),(5,a),(6,b),(8,w),(45,.slice c o n aG),(46,.int .i64 (.ofNat n)),(47,.int .i64 (.ofNat fV))] d .none h):=
 bI [2,5,6,8,45,46,47] (hs:=[.b true,.v (.ptr c (o+i*1)),.v (.int .u8 (.ofNat bL)),.v (.int .u64 (.ofNat cm)),.v (.int .u64 (.ofNat du)),.v (.int .u64 (.ofNat eC)),.v (.int .i64 (.ofNat fV))]) (by kernel_rfl)<| .cons H1<| .cons (⟨a7,rfl⟩:Nat.le (Nat.succ i) n/\J.ptr c (o+i*1)=J.ptr c (o+i*1))<| .cons b1<| .cons b8<| .cons dv<| .cons fB<| .cons lG<| .nil
theorem ZO(call:aO->List J->aa->ax)(a b w:J)(k c o n i:Nat)(aG:cj)(d:List bC)(h:aa)
  (H1:dZ (.ofNat i) (.ofNat n)=false):
  aN Tryz.prog Tryz.f51 none call [1,1,1,1,1,1,1,1,0,1,0,0] (ar.mk [(2,.int .u64 (.ofNat k)),(5,a),(6,b),(8,w),(45,.slice c o n aG),(46,.int .i64 (.ofNat n)),(47,.int .i64 (.ofNat i))] d .none h) (.exit 2)
   (ar.mk [(2,.int .u64 (.ofNat k)),(5,a),(6,b),(8,w),(45,.slice c o n aG),(46,.int .i64 (.ofNat n)),(47,.int .i64 (.ofNat i))] d .none h):=
 bI [2,5,6,8,45,46,47] (hs:=[.b false]) (by kernel_rfl)<| .cons H1<| .nil
theorem ZP(call:aO->List J->aa->ax)(a b k f c o n c2 dE bw:Nat)(aG cV:cj)(s t:List UInt8)(d:List bC)(h:aa)(bL:Nat)(cQ:List UInt8)
  (H1:aA (aa.room h 12) b (0+0)=some (.int .u64 (.ofNat f)))
  (a7:arith .add .u64 (.ofNat k) (.ofNat f)=some (.int .u64 (.ofNat bL)))
  (b1:aA (aa.room h 12) a 0=some (.slice c2 dE bw cV))
  (b8:ea Tryz.prog 98 9 (J.slice c2 dE bw cV) (aa.room h 12)=fj.val (J.str s) (aa.room h 12))
  (dv:ea Tryz.prog 98 9 (J.slice c o n aG) (aa.room h 12)=fj.val (J.str t) (aa.room h 12))
  (fB:o5 .add s t=some (.str cQ)):
  aN Tryz.prog Tryz.f51 none call [1,1,1,1,1,1,1,1,1] (ar.mk [(2,.int .u64 (.ofNat k)),(5,.ptr a 0),(6,.ptr b 0),(8,.slice c o n aG)] d .none h) (.ret)
   (ar.mk [(2,.int .u64 (.ofNat bL)),(3,.str cQ),(4,.bool true)] d .none (aa.room h 12)):=
 bI [2,3,4] (hs:=[.v (.int .u64 (.ofNat f)),.v (.int .u64 (.ofNat bL)),.v (.slice c2 dE bw cV),.v (.str s),.v (.str t),.v (.str cQ)]) (by kernel_rfl)<| .cons H1<| .cons a7<| .cons b1<| .cons b8<| .cons dv<| .cons fB<| .cons (by kernel_rfl:J.sound (J.int IntKind.u64 (Int.ofNat k))=true)<| .cons (by kernel_rfl:J.int IntKind.u64 (Int.ofNat k)=J.int IntKind.u64 (Int.ofNat k))<| .cons (by kernel_rfl:J.sound (J.ptr b (0+0))=true)<| .cons (by kernel_rfl:J.ptr b (0+0)=J.ptr b (0+0))<| .cons (by kernel_rfl:J.sound (J.int IntKind.u64 (Int.ofNat f))=true)<| .cons H1<| .cons (by kernel_rfl:J.sound (J.int IntKind.u64 (Int.ofNat bL))=true)<| .cons a7<| .cons (by kernel_rfl:J.sound (J.slice c2 dE bw cV)=true)<| .cons b1<| .cons (by kernel_rfl:J.sound (J.str s)=true)<| .cons b8<| .cons (by kernel_rfl:J.sound (J.slice c o n aG)=true)<| .cons (by kernel_rfl:J.slice c o n aG=J.slice c o n aG)<| .cons (by kernel_rfl:J.sound (J.str t)=true)<| .cons dv<| .cons (by kernel_rfl:J.sound (J.str cQ)=true)<| .cons fB<| .cons (by kernel_rfl:J.sound (J.int IntKind.u64 (Int.ofNat bL))=true)<| .cons (by kernel_rfl:J.int IntKind.u64 (Int.ofNat bL)=J.int IntKind.u64 (Int.ofNat bL))<| .cons (by kernel_rfl:J.sound (J.str cQ)=true)<| .cons (by kernel_rfl:J.str cQ=J.str cQ)<| .cons (by kernel_rfl:J.sound (J.bool true)=true)<| .cons (by kernel_rfl:J.bool true=J.bool true)<| .nil
theorem ZQ{n:Nat}(h:n*256<18446744073709551616):ml BinOp.shl IntKind.u64 (Int.ofNat n) (Int.ofNat 8)=some (J.int IntKind.u64 (Int.ofNat (n*256))):=by
 have h:=vZ (n*256) h
 have aE:(Int.ofNat 8).toNat=8:=rfl
 have aC:min 8 IntKind.u64.bits=8:=rfl
 have bu:Int.ofNat n*2^8=((n*256:Nat):Int):=rfl
 have aJ:¬(Int.ofNat 8<0):=by have:Int.ofNat 8=8:=rfl;omega
 simp only[ml,if_neg aJ,aE,aC,bu,h];rfl
theorem ZR{n c:Nat}(ah:c<256)(h:n*256+c<18446744073709551616):arith BinOp.or IntKind.u64 (Int.ofNat (n*256)) (Int.ofNat c)=some (J.int IntKind.u64 (Int.ofNat (n*256+c))):=by
 have hw:=vZ (n*256+c) h
 have dW:IntKind.u64.bits=64:=rfl
 have key:(BitVec.ofInt 64 (Int.ofNat (n*256))|||BitVec.ofInt 64 (Int.ofNat c)).toNat=n*256+c:=by
  have aE:∀k:Nat,k<18446744073709551616->(BitVec.ofInt 64 (Int.ofNat k)).toNat=k:=λk au=>by
   have:BitVec.ofInt 64 (Int.ofNat k)=BitVec.ofNat 64 k:=BitVec.ofInt_natCast 64 k
   rw[this,BitVec.toNat_ofNat];exact Nat.mod_eq_of_lt au
  rw[BitVec.toNat_or,aE _ (by omega),aE _ (by omega)]
  have:=Nat.shiftLeft_add_eq_or_of_lt (i:=8) (b:=c) (by simpa using ah) n
  rw[Nat.shiftLeft_eq] at this
  exact this.symm
 show some (J.int .u64 (IntKind.wrap .u64 (((BitVec.ofInt 64 (Int.ofNat (n*256))|||BitVec.ofInt 64 (Int.ofNat c)).toNat:Nat):Int)))=_
 rw[key,hw];rfl
theorem NL(n:Nat)(aJ:n<256)(h:aa):ea Tryz.prog 5 65 (.int .u8 (Int.ofNat n)) h=.val (.int .u64 (Int.ofNat n)) h:=v3 q5 CC (vZ n (by omega))
theorem wT:dm Tryz.prog 5=some 1:=by kernel_rfl
theorem uF:∀s:List UInt8,cw s []=s.isEmpty
 |[]=>rfl
 |_::_=>rfl
theorem NM:∀(l:List UInt8) (j:Nat) (h:j<l.length),nth j (cy l)=some (.int .u8 (Int.ofNat (l[j]).toNat))
 |[],j,h=>by simp at h
 |x::l,0,h=>rfl
 |x::l,j+1,h=>by
  have:=NM l j (by simpa using h)
  simpa[cy,nth] using this
def oU(h:aa)(p:Nat)(st:cv):Prop:=p<h.n/\(left st).length<=1000000/\h.get p=some (.cells [.str (left st),.bool st.isNone] 73 .own 0 0)
def jc:cv->Bool
 |none=>false
 |some s=>s.isEmpty
end Go.Proofs.cW
namespace Go.Proofs.cW
open Go ay Go.Proofs Go.Proofs.ed
set_option maxRecDepth 100000
set_option maxHeartbeats 1000000
def lM(h:aa)(p:Nat)(v:J)(s:List UInt8):Prop:=
 (s=[]/\∃b o,v=.slice b o 0 .dead)\/∃b pre,v=.slice b pre.length s.length (.aM 1)/\b<h.n/\b<p/\h.get b=some (.cells (cy (pre++s)) 5 .aM 0 0)
def cg(h:aa)(p:Nat):cv->Prop
 |none=>p<h.n/\h.get p=some (.cells [.az,.bool true] 100 .own 0 0)
 |some s=>p<h.n/\s.length<=1000000/\∃v,h.get p=some (.cells [v,.bool false] 100 .own 0 0)/\lM h p v s
theorem cg.lt{h:aa}{p:Nat}{st:cv}(ai:cg h p st):p<h.n:=by
 cases st with
 |none=>exact ai.1
 |some s=>exact ai.1
theorem cg.mono{B p:Nat}{h an:aa}{st:cv}(ai:cg h p st)(e:Ext B h an)(bN:h.n<=B):cg an p st:=by
 have aY:=ai.lt
 cases st with
 |none=>exact⟨Nat.lt_of_lt_of_le aY e.n,(e.get p (by omega)).trans ai.2⟩
 |some s=>
  obtain⟨ab,ae,v,av,aK⟩:=ai
  refine⟨Nat.lt_of_lt_of_le aY e.n,ae,v,(e.get p (by omega)).trans av,?_⟩
  rcases aK with aK|⟨b,pre,aR,aT,bP,eR⟩
  · exact .inl aK
  · exact .inr ⟨b,pre,aR,Nat.lt_of_lt_of_le aT e.n,bP,(e.get b (by omega)).trans eR⟩
def nS(h:aa)(p:Nat)(w:J)(t:List UInt8):Prop:=
 ∃b o aG,w=.slice b o t.length aG/\((t=[]/\aG=.dead)\/((∃k,aG=.exact k)/\b<h.n/\b≠p/\∃pre rest el,o=pre.length/\h.get b=some (.cells (cy (pre++(t++rest))) el .aM 0 0)))
theorem nS.CJ{B p:Nat}{h an:aa}{w:J}{t:List UInt8}(ai:nS h p w t)(e:cz p B h an)(bN:h.n<=B):nS an p w t:=by
 obtain⟨b,o,aG,ab,ae⟩:=ai
 refine⟨b,o,aG,ab,?_⟩
 rcases ae with ae|⟨ae,av,aK,pre,rest,el,bU,cB⟩
 · exact .inl ae
 · exact .inr ⟨ae,Nat.lt_of_lt_of_le av e.n,aK,pre,rest,el,bU,(e.get b (by omega) aK).trans cB⟩
theorem ZS{h:aa}{b el aW up:Nat}{k:eZ}{pre t rest:List UInt8}(ao:h.get b=some (.cells (cy (pre++(t++rest))) el k aW up)):ay.loadCells h b pre.length t.length=some (cy t):=by
 have e:cy (pre++(t++rest))=cy pre++(cy t++cy rest):=by rw[vX,vX]
 simp only[ay.loadCells,ao,e]
 have ab:=Fx (cy pre) (cy t++cy rest)
 rw[oz] at ab
 rw[ab]
 exact Lj _ _ _ (oz t)
theorem ZT{h:aa}{b el aW up:Nat}{k:eZ}{pre t rest:List UInt8}(ao:h.get b=some (.cells (cy (pre++(t++rest))) el k aW up)){i off:Nat}(af:i<t.length)(a8:off=pre.length+i):aA h b off=some (.int .u8 (Int.ofNat (t[i]).toNat)):=by
 have aw:pre.length+i<(pre++(t++rest)).length:=by simp;omega
 have:=NM (pre++(t++rest)) (pre.length+i) aw
 have e:(pre++(t++rest))[pre.length+i]=t[i]:=by
  rw[List.getElem_append_right (by omega)]
  simp only[Nat.add_sub_cancel_left]
  rw[List.getElem_append_left af]
 rw[e] at this
 simp only[aA,ao,a8,this]
theorem nS.conv{h:aa}{p:Nat}{w:J}{t:List UInt8}(ag:nS h p w t):ea Tryz.prog 98 9 w h=.val (.str t) h:=by
 obtain⟨b,o,aG,rfl,ah⟩:=ag
 rcases ah with⟨rfl,rfl⟩|⟨⟨k,rfl⟩,_,_,pre,rest,el,rfl,ao⟩
 · simp only[ea,oR,sA,q5];rfl
 · simp only[ea,oR,sA,q5,ZS ao,BS]
def j6:Nat->cv->Bool
 |k,none=>decide (k=0)
 |k,some s=>decide (k<=s.length)
theorem ZU{g:aa}{b o n k:Nat}(au:k<=n):dR Tryz.prog g 98 (.slice b o n (.aM 1)) none (some (.int .u64 (Int.ofNat k))) (some (.int .u64 (Int.ofNat k)))=some (.slice b o k (.exact k)):=by
 have gh:Nat.ble k n=true:=by simpa using au
 have dS:Nat.ble k k=true:=by simp
 have mC:Nat.ble 0 k=true:=by simp
 simp only[dR,oR,wT,bounds,jx,fF,gh,dS,mC]
 simp
theorem ZV{g:aa}{b o n k:Nat}(au:k<=n):dR Tryz.prog g 98 (.slice b o n (.aM 1)) (some (.int .u64 (Int.ofNat k))) none none=some (if k<n\/k=0 then .slice b (o+k) (n-k) (.aM 1) else .slice b o 0 .dead):=by
 have gh:Nat.ble n n=true:=by simp
 have dS:Nat.ble k n=true:=by simpa using au
 simp only[dR,oR,wT,bounds,jx,fF,gh,dS]
 by_cases h0:k=0
 · subst h0;simp
 · by_cases ab:k<n
   · have mC:Nat.blt k n=true:=by simpa[Nat.blt_eq] using ab
     simp[h0,ab,mC]
   · have mC:Nat.blt k n=false:=by
       cases ad:Nat.blt k n with
       |false=>rfl
       |true=>rw[Nat.blt_eq] at ad;omega
     simp[h0,ab,mC]
theorem lM.from{g:aa}{p k:Nat}{b:Nat}{pre s:List UInt8}(au:k<=s.length)(ab:b<g.n)(ae:b<p)(ao:g.get b=some (.cells (cy (pre++s)) 5 .aM 0 0)):lM g p (if k<s.length\/k=0 then .slice b (pre.length+k) (s.length-k) (.aM 1) else .slice b pre.length 0 .dead) (s.drop k):=by
 by_cases h:k<s.length\/k=0
 · rw[if_pos h]
   refine .inr ⟨b,pre++s.take k,by rw[List.length_append,List.length_take,List.length_drop,Nat.min_eq_left au],ab,ae,?_⟩
   rw[List.append_assoc,List.take_append_drop];exact ao
 · rw[if_neg h]
   exact .inl ⟨List.drop_eq_nil_of_le (by omega),b,pre.length,rfl⟩
theorem G7(m p k:Nat)(st:cv)(h:aa)(ai:cg h p st)(au:k<18446744073709551616):
  ∃w an,C (m+1) (.fn 50) [.ptr p 0,.int .u64 (Int.ofNat k)] h=.ret (.aD [w,.bool (j6 k st)]) an/\cz p h.n h an/\cg an p (ff k st).2/\((w=.az/\(ff k st).1=[]/\(st=none\/j6 k st=false))\/nS an p w (ff k st).1):=by
 cases st with
 |none=>
  obtain⟨ab,ae⟩:=ai
  by_cases h0:k=0
  · subst h0
    have ZW:dR Tryz.prog h 98 .az none (some (.int .u64 (Int.ofNat 0))) (some (.int .u64 (Int.ofNat 0)))=some .az:=by simp only[dR,oR,wT];rfl
    have ZX:dR Tryz.prog h 98 .az (some (.int .u64 (Int.ofNat 0))) none none=some .az:=by simp only[dR,oR,wT];rfl
    exact⟨.az,_,eg (intr:=jb) (n:=m) (args:=[.ptr p 0,.int .u64 (Int.ofNat 0)]) Tryz.func50 (by kernel_rfl) rfl (by kernel_rfl) (ctz _ _ _ _ (r_ rfl) (ZW) (ZX) (nD rfl rfl)) (.inl rfl) (by kernel_rfl),yK,⟨by simpa using ab,dN rfl⟩,.inl ⟨rfl,rfl,.inl rfl⟩⟩
  · rw[show j6 k none=false by simp[j6,h0]]
    exact⟨.az,_,eg (intr:=jb) (n:=m) (args:=[.ptr p 0,.int .u64 (Int.ofNat k)]) Tryz.func50 (by kernel_rfl) rfl (by kernel_rfl) (Zs _ _ _ _ _ _ (r_ rfl) (kj (by omega)) (nD rfl rfl) (nD rfl rfl)) (.inl rfl) (by kernel_rfl),yK,⟨by simpa using ab,dN rfl⟩,.inl ⟨rfl,rfl,.inl rfl⟩⟩
 |some s=>
  obtain⟨ab,ae,v,av,aK⟩:=ai
  by_cases hle:k<=s.length
  · rw[show j6 k (some s)=true by simp[j6,hle],q2 hle]
    rcases aK with⟨rfl,b,o,rfl⟩|⟨b,pre,rfl,aT,bP,eR⟩
    · obtain rfl:k=0:=by simpa using hle
      have ZY:dR Tryz.prog h 98 (.slice b o 0 .dead) none (some (.int .u64 (Int.ofNat 0))) (some (.int .u64 (Int.ofNat 0)))=some (.slice b o 0 .dead):=by simp only[dR,oR,wT];rfl
      have ZZ:dR Tryz.prog h 98 (.slice b o 0 .dead) (some (.int .u64 (Int.ofNat 0))) none none=some (.slice b o 0 .dead):=by simp only[dR,oR,wT];rfl
      exact⟨.slice b o 0 .dead,_,eg (intr:=jb) (n:=m) (args:=[.ptr p 0,.int .u64 (Int.ofNat 0)]) Tryz.func50 (by kernel_rfl) rfl (by kernel_rfl) (NI _ _ _ _ _ _ _ _ _ _ _ _ _ _ _ _ _ _ (r_ rfl) (wQ 0 (by omega) h) (mH (by omega)) (ZY) (ZZ) (nD rfl rfl)) (.inl rfl) (by kernel_rfl),yK,⟨by simpa using ab,by simp,_,dN rfl,.inl ⟨rfl,b,o,rfl⟩⟩,.inr ⟨b,o,.dead,rfl,.inl ⟨rfl,rfl⟩⟩⟩
    · have s1:=ZU (g:=h) (b:=b) (o:=pre.length) hle
      have s2:=ZV (g:=h) (b:=b) (o:=pre.length) hle
      have cx:(s.take k).length=k:=by rw[List.length_take];omega
      have body:∀bf dE bw c2,J.slice bf dE bw c2=(if k<s.length\/k=0 then .slice b (pre.length+k) (s.length-k) (.aM 1) else .slice b pre.length 0 .dead)->∃w an,C (m+1) (.fn 50) [.ptr p 0,.int .u64 (Int.ofNat k)] h=.ret (.aD [w,.bool true]) an/\cz p h.n h an/\cg an p (some (s.drop k))/\((w=.az/\s.take k=[]/\(some s=none\/true=false))\/nS an p w (s.take k)):=by
       intro bf dE bw c2 e
       rw[<-e] at s2
       have gB:(h.set p (some (.cells [.slice bf dE bw c2,.bool false] 100 .own 0 0))).get b=some (.cells (cy (pre++s)) 5 .aM 0 0):=eh (Nat.ne_of_lt bP) eR
       refine⟨.slice b pre.length k (.exact k),_,eg (intr:=jb) (n:=m) (args:=[.ptr p 0,.int .u64 (Int.ofNat k)]) Tryz.func50 (by kernel_rfl) rfl (by kernel_rfl) (NI _ _ _ _ _ _ _ _ _ _ _ _ _ _ _ _ _ _ (r_ rfl) (wQ _ (by omega) h) (mH (by omega)) (s1) (s2) (nD rfl rfl)) (.inl rfl) (by kernel_rfl),yK,⟨by simpa using ab,by rw[List.length_drop];omega,_,dN rfl,?_⟩,.inr ⟨b,pre.length,.exact k,by rw[cx],.inr ⟨⟨k,rfl⟩,by simpa using aT,Nat.ne_of_lt bP,pre,s.drop k,_,rfl,by rw[List.take_append_drop];exact gB⟩⟩⟩
       have EE:=lM.from hle (by simpa using aT) bP gB
       rw[<-e] at EE
       exact EE
      by_cases ah:k<s.length\/k=0
      · exact body _ _ _ _ (by rw[if_pos ah])
      · exact body _ _ _ _ (by rw[if_neg ah])
  · rw[show j6 k (some s)=false by simp[j6,hle],wP hle]
    have fin:∀b o c,v=.slice b o s.length c->∃w an,C (m+1) (.fn 50) [.ptr p 0,.int .u64 (Int.ofNat k)] h=.ret (.aD [w,.bool false]) an/\cz p h.n h an/\cg an p none/\((w=.az/\([]:List UInt8)=[]/\(some s=none\/false=false))\/nS an p w []):=by
     rintro b o c rfl
     exact⟨.az,_,eg (intr:=jb) (n:=m) (args:=[.ptr p 0,.int .u64 (Int.ofNat k)]) Tryz.func50 (by kernel_rfl) rfl (by kernel_rfl) (Zr _ _ _ _ _ _ _ _ _ _ _ (aB av rfl) (wQ _ (by omega) h) (kj (by omega)) (nD rfl rfl) (nD rfl rfl)) (.inl rfl) (by kernel_rfl),yK,⟨by simpa using ab,dN rfl⟩,.inl ⟨rfl,rfl,.inr rfl⟩⟩
    rcases aK with⟨rfl,b,o,rfl⟩|⟨b,pre,rfl,aT,bP,eR⟩
    · exact fin b o .dead rfl
    · exact fin b pre.length (.aM 1) rfl
theorem Z0(m:Nat)(s:List UInt8)(h:aa)(hs:s.length<=1000000):∃p an,C (m+1) (.fn 22) [.str s] h=.ret (.ptr p 0) an/\Ext h.n h an/\h.n<=p/\cg an p (some s):=by
 have iT:ea Tryz.prog 9 98 (.str s) h=.val (.slice h.n 0 s.length (.aM 1)) (h.push (.cells (cy s) 5 .aM 0 0)):=by simp only[ea,sA,oR,q5]
 refine⟨h.n+1,_,eg (intr:=jb) (n:=m) (args:=[.str s]) Tryz.func22 (by kernel_rfl) rfl (by kernel_rfl) (Zq _ _ _ _ _ _ _ _ (iT)) (.inl rfl) (by kernel_rfl),UH,by omega,⟨by simp,hs,_,dA (by simp),.inr ⟨h.n,[],rfl,by simp;omega,by omega,?_⟩⟩⟩
 exact h6 (by simp) (dA rfl)
theorem CK(m p:Nat)(st:cv)(h:aa)(ai:cg h p st):C (m+1) (.fn 26) [.ptr p 0] h=.ret (.bool (!st.isNone)) h:=by
 cases st with
 |none=>obtain⟨ab,ae⟩:=ai;exact eg (intr:=jb) (n:=m) (args:=[.ptr p 0]) Tryz.func26 (by kernel_rfl) rfl (by kernel_rfl) (tr _ _ _ _ (r_ rfl)) (.inl rfl) (by kernel_rfl)
 |some s=>obtain⟨ab,ae,v,av,aK⟩:=ai;exact eg (intr:=jb) (n:=m) (args:=[.ptr p 0]) Tryz.func26 (by kernel_rfl) rfl (by kernel_rfl) (tr _ _ _ _ (r_ rfl)) (.inl rfl) (by kernel_rfl)
theorem NN(m p:Nat)(st:cv)(h:aa)(ai:cg h p st):C (m+2) (.fn 28) [.ptr p 0] h=.ret (.bool (jc st)) h:=by
 have au:=CK m p st h ai
 cases st with
 |none=>exact eg (intr:=jb) (n:=m+1) (args:=[.ptr p 0]) Tryz.func28 (by kernel_rfl) rfl (by kernel_rfl) (Zy _ _ _ _ _ (au) rfl) (.inl rfl) (by kernel_rfl)
 |some s=>
  obtain⟨ab,ae,v,av,aK⟩:=ai
  have e:jc (some s)=de (Int.ofNat s.length) (Int.ofNat 0):=by
   cases s with
   |nil=>rfl
   |cons a l=>show false=_;rw[v5 (by simp)]
  rw[e]
  rcases aK with⟨rfl,b,o,rfl⟩|⟨b,pre,rfl,aT,bP,eR⟩
  · exact eg (intr:=jb) (n:=m+1) (args:=[.ptr p 0]) Tryz.func28 (by kernel_rfl) rfl (by kernel_rfl) (NJ _ _ _ _ _ _ _ _ _ (au) rfl (r_ rfl)) (.inl rfl) (by kernel_rfl)
  · exact eg (intr:=jb) (n:=m+1) (args:=[.ptr p 0]) Tryz.func28 (by kernel_rfl) rfl (by kernel_rfl) (NJ _ _ _ _ _ _ _ _ _ (au) rfl (r_ rfl)) (.inl rfl) (by kernel_rfl)
end Go.Proofs.cW
namespace Go.Proofs.cW
open Go ay Go.Proofs Go.Proofs.ed
set_option maxRecDepth 100000
set_option maxHeartbeats 1000000
def fC:Nat->Nat×Nat×Nat×Nat
 |0=>(0,240,0,0)
 |1=>(240,2287,241,1)
 |2=>(2288,67823,249,2)
 |k=>(0,256^k-1,247+k,k)
def h9:Nat->Nat
 |0=>0
 |1=>241
 |2=>249
 |k=>247+k
theorem NO(i:Nat)(h:3<=i):fC i=(0,256^i-1,247+i,i):=by
 match i,h with
 |k+3,_=>rfl
theorem Z1(i:Nat)(h:3<=i):h9 i=247+i:=by
 match i,h with
 |k+3,_=>rfl
theorem NP:∀k,(fC k).2.2.1=h9 k
 |0=>rfl
 |1=>rfl
 |2=>rfl
 |_+3=>rfl
def ku(b:Nat):Nat:=if b<=240 then 0 else if b<=248 then 1 else b-247
theorem G8(a:Nat):∀t:List UInt8,hN a t=a*256^t.length+hN 0 t
 |[]=>by simp[hN]
 |c::t=>by
  rw[hN,G8 (a*256+c.toNat) t,hN,G8 (0*256+c.toNat) t,List.length_cons,Nat.pow_succ]
  simp only[Nat.zero_mul,Nat.zero_add,Nat.add_mul]
  rw[Nat.mul_assoc,Nat.mul_comm 256,Nat.add_assoc]
theorem Z2(b:Nat)(ag:b<256):h9 (ku b)<=b/\(fC (ku b)).2.2.2=fp b/\(fC (ku b)).1<=2288/\(∀u:List UInt8,u.length=fp b->hN (b-h9 (ku b)) u+(fC (ku b)).1=j5 b u)/\(b-h9 (ku b)+1)*256^fp b<=18446744073709551616:=by
 unfold ku fp
 by_cases ab:b<=240
 · simp only[if_pos ab]
   refine⟨Nat.zero_le _,rfl,by simp[fC],λu hu=>?_,?_⟩
   · have:u=[]:=List.eq_nil_of_length_eq_zero hu
     subst this
     simp[hN,j5,ab,h9,fC]
   · simp[h9];omega
 · by_cases ae:b<=248
   · simp only[if_neg ab,if_pos ae]
     refine⟨by simp[h9];omega,rfl,by simp[fC],λu hu=>?_,?_⟩
     · rw[G8,hu]
       simp only[j5,if_neg ab,if_pos ae,h9,fC];omega
     · simp only[h9];omega
   · by_cases av:b=249
     · subst av
       refine⟨by decide,rfl,by decide,λu hu=>?_,by decide⟩
       show hN 0 u+2288=2288+hN 0 u
       omega
     · simp only[if_neg ab,if_neg ae,if_neg av]
       have au:3<=b-247:=by omega
       have aY:256^(b-247)<=256^8:=Nat.pow_le_pow_right (by omega) (by omega)
       rw[NO _ au,Z1 _ au]
       have e:b-(247+(b-247))=0:=by omega
       rw[e]
       refine⟨by omega,rfl,by simp,λu hu=>?_,by omega⟩
       simp only[j5,if_neg ab,if_neg ae,if_neg av];rfl
theorem NQ(b k:Nat)(ag:b<256)(au:k<9)(ab:h9 k<=b)(ae:k<8->b<h9 (k+1)):k=ku b:=by
 unfold ku
 have:k=0\/k=1\/k=2\/k=3\/k=4\/k=5\/k=6\/k=7\/k=8:=by omega
 rcases this with rfl|rfl|rfl|rfl|rfl|rfl|rfl|rfl|rfl<;>simp only[h9] at ab ae<;>(try have ae:=ae (by omega))<;>(repeat' split)<;>omega
section
variable (m l:Nat) (I:Nat->aa->Prop) (Q:aa->Prop)
 (a6:∀k x,k<9->I k x->(∃x',C m (.bR l) [.agg (fg (fC k))] x=.ret (.bool true) x'/\I (k+1) x')\/(∃x',C m (.bR l) [.agg (fg (fC k))] x=.ret (.bool false) x'/\Q x'))
include a6
theorem NR:∀(k i:Nat) (x:aa),9-i=k->3<=i->i<=9->I i x->
  ∃e x',(e=.ret\/e=.exit 0)/\fT Tryz.prog Tryz.f89 none (C m) [1,1,0] (k+1) ⟨[(0,.bR l),(2,.int .i64 (Int.ofNat i))],[],.none,x⟩ e ⟨[],[],.none,x'⟩/\(I 9 x'\/Q x')
 |k,i,x,au,av,fH,ad=>by
  by_cases fG:i<=8
  · have hs:=Ny i av fG
    have aY:0<256^i:=Nat.pow_pos (by omega)
    have jT:=Nx (247+i) x
    rw[Nat.mod_eq_of_lt (by omega)] at jT
    have h4:=Fy .u64 (i:=18446744073709551615) (j:=8*(8-i)) (by show 8*(8-i)<=64;omega)
    rw[hs] at h4
    have a0:=a6 i x (by omega) ad
    rw[NO i av] at a0
    rcases a0 with⟨x',c1,c2⟩|⟨x',c1,c2⟩
    · obtain⟨k,rfl⟩:∃j,k=j+1:=⟨k-1,by omega⟩
      obtain⟨e,bo,he,bD,bT⟩:=NR k (i+1) x' (by omega) (by omega) (by omega) c2
      exact⟨e,bo,he,.step (Nv (C m) l i x _ _ _ _ _ true x' _ (nC fG) (r9 fG (by omega)) (yH (by omega)) h4 (qG (by omega)) jT c1 rfl (qG (by omega))) bD,bT⟩
    · exact⟨.ret,x',.inl rfl,.exit (c9.post (Nu (C m) l i x _ _ _ _ _ false x' (nC fG) (r9 fG (by omega)) (yH (by omega)) h4 (qG (by omega)) jT c1 rfl) trivial) (by simp),.inr c2⟩
  · obtain rfl:i=9:=by omega
    exact⟨.exit 0,x,.inr rfl,.exit (c9.post (Y6 (C m) l 9 x (tU fG)) trivial) (by simp),.inl ad⟩
theorem Z3(x:aa)(ad:I 0 x):∃x',C (m+1) (.fn 89) [.bR l] x=.ret (.aD []) x'/\(I 9 x'\/Q x'):=by
 have fin:∀{e:bK} {Γ:Env} {x':aa},(e=.ret\/e=.nrm)->aN Tryz.prog Tryz.f89 none (C m) [] ⟨[(0,.bR l)],[],.none,x⟩ e ⟨Γ,[],.none,x'⟩->C (m+1) (.fn 89) [.bR l] x=.ret (.aD []) x':=λhe ai=>
  eg (intr:=jb) (n:=m) (args:=[.bR l]) Tryz.func89 (by kernel_rfl) rfl (by kernel_rfl) ai he (by kernel_rfl)
 rcases a6 0 x (by omega) ad with⟨bj,c1,i1⟩|⟨bj,c1,aR⟩
 · rcases a6 1 bj (by omega) i1 with⟨bo,c2,i2⟩|⟨bo,c2,aT⟩
   · rcases a6 2 bo (by omega) i2 with⟨dj,c3,i3⟩|⟨dj,c3,bP⟩
     · obtain⟨e,lB,he,bD,bT⟩:=NR m l I Q a6 6 3 dj rfl (by omega) (by omega) i3
       have s1:=Nt (C m) l .nrm x x true bj true bo true dj c1 rfl c2 rfl c3 rfl
       have fw:=fT.run (p:=[1,1,0]) (by kernel_rfl) bD (by omega)
       refine⟨lB,?_,bT⟩
       rcases he with rfl|rfl
       · exact fin (.inl rfl) (aN.seq (p:=[]) (by kernel_rfl) s1 (aN.seq (p:=[1]) (by kernel_rfl) (G3 (C m) l dj) (aN.tS (p:=[1,1]) (id:=0) (by kernel_rfl) fw (by simp))))
       · exact fin (.inr rfl) (aN.seq (p:=[]) (by kernel_rfl) s1 (aN.seq (p:=[1]) (by kernel_rfl) (G3 (C m) l dj) (aN.block (p:=[1,1]) (id:=0) (by kernel_rfl) fw)))
     · exact⟨dj,fin (.inl rfl) (aN.iV (p:=[]) (by kernel_rfl) (Ns (C m) l .nrm x x true bj true bo false dj c1 rfl c2 rfl c3 rfl) (by simp)),.inr bP⟩
   · exact⟨bo,fin (.inl rfl) (aN.iV (p:=[]) (by kernel_rfl) (Nr (C m) l .nrm x x true bj false bo c1 rfl c2 rfl) (by simp)),.inr aT⟩
 · exact⟨bj,fin (.inl rfl) (aN.iV (p:=[]) (by kernel_rfl) (Nq (C m) l .nrm x x false bj c1 rfl) (by simp)),.inr aR⟩
end
noncomputable def p3:Code:=sub (fv Tryz.f51) [1,1,1,1,0,1,0,0]
noncomputable def q6:Code:=sub (fv Tryz.f51) [1,1,1,1,0,1,0,1]
def G9:Nat->List J
 |0=>[.int .u64 (Int.ofNat 0),.int .u64 (Int.ofNat 0),.int .u8 (Int.ofNat 0),.int .i64 (Int.ofNat 0)]
 |k+1=>fg (fC k)
structure CL(B N gQ gx:Nat)(js:cj)(h:aa)(r:aU)(k:Nat)(x:aa):Prop where
 row:x.get N=some (.cells [.slice gQ gx 1 js] 98 .own 0 0)
 out:x.get (N+1)=some (.cells (G9 k) 120 .own 0 0)
 ju:x.get (N+2)=some (.defrd (some []))
 oJ:x.get (N+3)=some (.loop .ready none (dh Tryz.f51) r [20] p3 q6 (N+2))
 ext:Ext N h x
 qy:N+4<=x.n
 all:∀j,j<k->h9 j<=B
structure NS(B N gQ gx:Nat)(js:cj)(h:aa)(r:aU)(x:aa):Prop where
 row:x.get N=some (.cells [.slice gQ gx 1 js] 98 .own 0 0)
 out:∃k,k<8/\h9 k<=B/\B<h9 (k+1)/\x.get (N+1)=some (.cells (fg (fC k)) 120 .own 0 0)
 ju:x.get (N+2)=some (.defrd (some []))
 oJ:x.get (N+3)=some (.loop .done (some (.exit 0)) (dh Tryz.f51) r [20] p3 q6 (N+2))
 ext:Ext N h x
 qy:N+4<=x.n
theorem Z4(k:Nat):∃a b c d,G9 k=[a,b,c,d]:=by
 cases k with
 |zero=>exact⟨_,_,_,_,rfl⟩
 |succ k=>exact⟨_,_,_,_,rfl⟩
theorem Z5(m B N gQ gx:Nat)(js:cj)(h:aa)(r:aU)(hm:ay.Mod r [(5,.ptr N 0),(6,.ptr (N+1) 0)])(g3:∀x:aa,Ext N h x->aA x gQ (gx+0*1)=some (.int .u8 (Int.ofNat B)))(k:Nat)(x:aa)(au:k<9)(af:CL B N gQ gx js h r k x):
  (∃x',C (m+1) (.bR (N+3)) [.agg (fg (fC k))] x=.ret (.bool true) x'/\CL B N gQ gx js h r (k+1) x')\/(∃x',C (m+1) (.bR (N+3)) [.agg (fg (fC k))] x=.ret (.bool false) x'/\NS B N gQ gx js h r x'):=by
 obtain⟨lL,s6,G4,uP,pz,Bw,fI⟩:=af
 have a6:C (m+1) (.bR (N+3)) [.agg (fg (fC k))] x=n4 Tryz.prog (C m) (N+3) [.agg (fg (fC k))] x:=rfl
 obtain⟨ds,eu,jj,pL,NT⟩:=Z4 k
 let bj:=(x.push (.cells [.int .u64 (Int.ofNat 0),.int .u64 (Int.ofNat 0),.int .u8 (Int.ofNat 0),.int .i64 (Int.ofNat 0)] 120 .own 0 0)).set x.n (some (.cells (fg (fC k)) 120 .own 0 0))
 have s1:=wS (c1:=.int .u64 (Int.ofNat (fC k).1)) (c2:=.int .u64 (Int.ofNat (fC k).2.1)) (c3:=.int .u8 (Int.ofNat (fC k).2.2.1)) (c4:=.int .i64 (Int.ofNat (fC k).2.2.2)) rfl rfl rfl rfl (by rw[aa.eD,if_pos rfl]:(x.push (.cells [.int .u64 (Int.ofNat 0),.int .u64 (Int.ofNat 0),.int .u8 (Int.ofNat 0),.int .i64 (Int.ofNat 0)] 120 .own 0 0)).get x.n=_)
 have cT:∀j,j<x.n->bj.get j=x.get j:=λj aI=>by simp only[bj];rw[aa.bH,if_neg (by omega),aa.eD,if_neg (by omega)]
 have has:c9 Tryz.prog (dh Tryz.f51) (some (N+3)) (C m) p3 ⟨put 20 (.agg (fg (fC k))) [(5,.ptr N 0),(6,.ptr (N+1) 0)],[],.none,x⟩ .nrm ⟨[(5,.ptr N 0),(6,.ptr (N+1) 0),(7,.ptr x.n 0)],[],.none,bj⟩:=
  c9.pre (st1:=⟨put 20 (.agg (fg (fC k))) [(5,.ptr N 0),(6,.ptr (N+1) 0)],[],.none,x⟩) (ZF (C m) (N+3) N (N+1) (fg (fC k)) x bj ⟨rfl,s1,rfl⟩) ⟨rfl,rfl,rfl,trivial⟩ rfl rfl rfl
 have bD:bj.get (N+3)=some (.loop .ready none (dh Tryz.f51) r [20] p3 q6 (N+2)):=(cT _ (by omega)).trans uP
 let bo:=bj.set (N+3) (some (.loop .busy none (dh Tryz.f51) r [20] p3 q6 (N+2)))
 have gc:bo.get x.n=some (.cells (fg (fC k)) 120 .own 0 0):=by simp only[bo,bj];rw[aa.bH,if_neg (by omega),aa.bH,if_pos rfl]
 have gB:bo.get (N+1)=some (.cells [ds,eu,jj,pL] 120 .own 0 0):=by simp only[bo];rw[aa.bH,if_neg (by omega),cT _ (by omega),<-NT];exact s6
 have ig:bo.get N=some (.cells [.slice gQ gx 1 js] 98 .own 0 0):=by simp only[bo];rw[aa.bH,if_neg (by omega),cT _ (by omega)];exact lL
 have gd:bo.get (N+2)=some (.defrd (some [])):=by simp only[bo];rw[aa.bH,if_neg (by omega),cT _ (by omega)];exact G4
 have NU:bo.get (N+3)=some (.loop .busy none (dh Tryz.f51) r [20] p3 q6 (N+2)):=by simp only[bo];rw[aa.bH,if_pos rfl]
 have ex:Ext N h bo:=(((pz.trans (Nat.le_refl _) (Ext.push (by omega) _)).trans (Nat.le_refl _) (Ext.set (by omega) _)).trans (Nat.le_refl _) (Ext.set (by omega) _))
 have AX:bo.n=x.n+1:=rfl
 have hf:aA (bo.room 6) x.n (0+2)=some (.int .u8 (Int.ofNat (h9 k))):=by rw[<-NP];exact aB (dX gc) rfl
 have ai:aA (bo.room 6) N 0=some (.slice gQ gx 1 js):=aB (dX ig) rfl
 have ag:aA (bo.room 6) gQ (gx+0*1)=some (.int .u8 (Int.ofNat B)):=g3 _ (Ext.hI ex)
 by_cases cx:B<h9 k
 · right
   have ads:k≠0:=λe=>by subst e;simp[h9] at cx
   have cb:=ZG (C m) (N+3) N (N+1) x.n gQ gx 1 js bo (h9 k) B hf ai (Nat.le_refl _) ag (kj cx)
   have uQ:=BT uP hm has bD (c9.pre (st1:=⟨[(5,.ptr N 0),(6,.ptr (N+1) 0),(7,.ptr x.n 0)],[],.none,bo⟩) cb ⟨rfl,rfl,rfl,trivial⟩ rfl rfl rfl) (dX NU)
   obtain⟨j,rfl⟩:∃j,k=j+1:=⟨k-1,by omega⟩
   refine⟨_,a6.trans uQ,⟨?_,⟨j,by omega,fI j (by omega),cx,?_⟩,?_,?_,(Ext.hI ex).trans (Nat.le_refl _) (Ext.set (by omega) _),by simp[AX];omega⟩⟩
   · rw[aa.bH,if_neg (by omega)];exact dX ig
   · rw[aa.bH,if_neg (by omega),show fg (fC j)=G9 (j+1) from rfl,NT];exact dX gB
   · rw[aa.bH,if_neg (by omega)];exact dX gd
   · rw[aa.bH,if_pos rfl]
 · left
   have s2:=wS (c1:=.int .u64 (Int.ofNat (fC k).1)) (c2:=.int .u64 (Int.ofNat (fC k).2.1)) (c3:=.int .u8 (Int.ofNat (fC k).2.2.1)) (c4:=.int .i64 (Int.ofNat (fC k).2.2.2)) rfl rfl rfl rfl (dX (k:=6) gB)
   have cb:=ZH (C m) (N+3) N (N+1) x.n gQ gx 1 js bo (h9 k) B (fC k).1 (fC k).2.1 (fC k).2.2.1 (fC k).2.2.2 _ hf ai (Nat.le_refl _) ag (mH cx) (zo rfl (dX gc)) s2
   have nT:((bo.room 6).set (N+1) (some (.cells (fg (fC k)) 120 .own 0 0))).get (N+3)=some (.loop .busy none (dh Tryz.f51) r [20] p3 q6 (N+2)):=by rw[aa.bH,if_neg (by omega)];exact dX NU
   have uQ:=BT uP hm has bD (c9.pre (st1:=⟨[(5,.ptr N 0),(6,.ptr (N+1) 0),(7,.ptr x.n 0)],[],.none,bo⟩) cb ⟨rfl,rfl,rfl,trivial⟩ rfl rfl rfl) nT
   refine⟨_,a6.trans uQ,⟨?_,?_,?_,?_,((Ext.hI ex).trans (Nat.le_refl _) (Ext.set (by omega) _)).trans (Nat.le_refl _) (Ext.set (by omega) _),by simp[AX];omega,λj aI=>?_⟩⟩
   · rw[aa.bH,if_neg (by omega),aa.bH,if_neg (by omega)];exact dX ig
   · rw[aa.bH,if_neg (by omega),aa.bH,if_pos rfl];rfl
   · rw[aa.bH,if_neg (by omega),aa.bH,if_neg (by omega)];exact dX gd
   · rw[aa.bH,if_pos rfl]
   · by_cases e:j=k
     · subst e;omega
     · exact fI j (by omega)
theorem NV(call:aO->List J->aa->ax)(a b w:J)(c o:Nat)(aG:cj)(u:List UInt8)(K:Nat)(dO:K*256^u.length<=18446744073709551616)(hu:u.length<=8)(d:List bC)(h:aa)(aw:∀i (af:i<u.length),aA h c (o+i*1)=some (.int .u8 (Int.ofNat (u[i]).toNat))):∀(q i n:Nat),u.length-i=q->i<=u.length->n<K*256^i->
  fT Tryz.prog Tryz.f51 none call [1,1,1,1,1,1,1,1,0,1,0] (q+1) ⟨[(2,.int .u64 (Int.ofNat n)),(5,a),(6,b),(8,w),(45,.slice c o u.length aG),(46,.int .i64 (Int.ofNat u.length)),(47,.int .i64 (Int.ofNat i))],d,.none,h⟩ (.exit 2) ⟨[(2,.int .u64 (Int.ofNat (hN n (u.drop i)))),(5,a),(6,b),(8,w)],d,.none,h⟩
 |0,i,n,a1,af,aJ=>by
  have aq:u.drop i=[]:=List.drop_eq_nil_of_le (by omega)
  rw[aq]
  exact .exit (c9.post (ZO _ _ _ _ _ _ _ _ _ _ _ _ (mH (by omega))) ⟨rfl,rfl,rfl,rfl,trivial⟩) (by simp)
 |q+1,i,n,a1,af,aJ=>by
  have eQ:i<u.length:=by omega
  have ah:=(u[i]).toNat_lt
  have fM:K*256^(i+1)=K*256^i*256:=by rw[Nat.pow_succ,Nat.mul_assoc]
  have ag:n*256+(u[i]).toNat<K*256^(i+1):=by omega
  have hle:K*256^(i+1)<=K*256^u.length:=Nat.mul_le_mul_left _ (Nat.pow_le_pow_right (by omega) (by omega))
  rw[List.drop_eq_getElem_cons eQ,hN]
  exact .step (ZN _ _ _ _ _ _ _ _ _ _ _ _ _ _ _ _ _ (kj (by omega)) (by show(_:Nat)<=_;omega) (aw i eQ) (ZQ (by omega)) (NL _ (by omega) h) (ZR (by omega) (by omega)) (qG (by omega))) (NV call a b w c o aG u K dO hu d h aw q (i+1) _ (by omega) (by omega) ag)
theorem Z6{i j:Nat}(aI:j<=i)(h:i<256):arith BinOp.sub IntKind.u8 (Int.ofNat i) (Int.ofNat j)=some (J.int IntKind.u8 (Int.ofNat (i-j))):=by
 have h:=wrap_u8 (i-j)
 rw[Nat.mod_eq_of_lt (by omega)] at h
 have e:Int.ofNat i-Int.ofNat j=((i-j:Nat):Int):=by
  have aE:Int.ofNat i=(i:Int):=rfl
  have aC:Int.ofNat j=(j:Int):=rfl
  rw[aE,aC];omega
 simp only[arith,e,h];rfl
def kx:cv->Nat×List UInt8×Bool
 |some (b::t)=>if t.length<fp b.toNat then(0,[],false) else(j5 b.toNat (t.take (fp b.toNat)),b::t.take (fp b.toNat),true)
 |_=>(0,[],false)
def mY:cv->cv
 |some (b::t)=>if t.length<fp b.toNat then none else some (t.drop (fp b.toNat))
 |_=>none
end Go.Proofs.cW
namespace Go.Proofs.cW
open Go ay Go.Proofs Go.Proofs.ed
set_option maxRecDepth 100000
set_option maxHeartbeats 1000000
theorem NW{P:Program}{call:aO->List J->aa->ax}{fn:Func}{r:aU}{D:Nat}{q:bG}{y:aa}{v:J}(gd:y.get D=some (.defrd (some [])))(hD:pa P (dh fn) fn r (y.set D (some (.defrd none)))=some v):kd P call fn (.ok .ret r [.collected D] q y)=.ret v (y.set D (some (.defrd none))):=by
 simp only[kd,jA,gd,List.nil_append,hD]
theorem cg.set{h:aa}{p D:Nat}{st:cv}{o:Option b3}{x:Option (List bC)}(ai:cg h p st)(NX:h.get D=some (.defrd x)):cg (h.set D o) p st:=by
 have ne:∀{b:Nat} {cs:List J} {el aW up:Nat} {k:eZ},h.get b=some (.cells cs el k aW up)->¬b=D:=λag e=>by subst e;rw[ag] at NX;cases NX
 cases st with
 |none=>obtain⟨ab,ae⟩:=ai;exact⟨by simpa using ab,eh (ne ae) ae⟩
 |some s=>
  obtain⟨ab,ae,v,av,aK⟩:=ai
  refine⟨by simpa using ab,ae,v,eh (ne av) av,?_⟩
  rcases aK with aK|⟨b,pre,aR,aT,bP,eR⟩
  · exact .inl aK
  · exact .inr ⟨b,pre,aR,by simpa using aT,bP,eh (ne eR) eR⟩
theorem nS.load{h:aa}{p b o:Nat}{aG:cj}{t:List UInt8}{n:Nat}(ag:nS h p (.slice b o n aG) t):n=t.length/\∀i (af:i<t.length),aA h b (o+i*1)=some (.int .u8 (Int.ofNat (t[i]).toNat)):=by
 obtain⟨b',o',adt,e,ah⟩:=ag
 cases e
 refine⟨rfl,λi af=>?_⟩
 rcases ah with⟨rfl,_⟩|⟨_,_,_,pre,rest,el,rfl,ao⟩
 · simp at af
 · exact ZT ao af (by omega)
theorem Z7(m p:Nat)(st:cv)(h:aa)(ai:cg h p st):∃an,C (m+4) (.fn 51) [.fn 50 [.ptr p 0] []] h=.ret (.aD [.int .u64 (Int.ofNat (kx st).1),.str (kx st).2.1,.bool (kx st).2.2]) an/\cz p h.n h an/\cg an p (mY st):=by
 obtain⟨w,g,c1,bj,oV,uR⟩:=G7 (m+2) p 1 st h ai (by omega)
 have adu:p<g.n:=oV.lt
 have adv:p<h.n:=ai.lt
 obtain⟨G,gC⟩:∃G,G=(g.push (.cells [.az] 98 .own 0 0)).set g.n (some (.cells [w] 98 .own 0 0)):=⟨_,rfl⟩
 have G_:Ext g.n g G:=by rw[gC];exact Ext.e3 (Nat.le_refl _) (Ext.jJ (Nat.le_refl _) (Ext.refl _ _))
 have mZ:G.n=g.n+1:=by rw[gC];rfl
 have s1:aN Tryz.prog Tryz.f51 none (C (m+3)) [1,0] ⟨[(0,.fn 50 [.ptr p 0] [])],[],.none,h⟩ .nrm ⟨[(0,.fn 50 [.ptr p 0] []),(4,.bool (j6 1 st)),(5,.ptr g.n 0)],[],.none,G⟩:=by
  rw[gC]
  rcases uR with⟨rfl,_⟩|⟨b,o,aG,rfl,_⟩
  · exact(ZA _ _ _ _ _ _ (c1) (nD rfl rfl))
  · exact(Zz _ _ _ _ _ _ _ _ _ _ (c1) (nD rfl rfl))
 have fail:kx st=(0,[],false)->mY st=none->j6 1 st=false->(ff 1 st).2=none->∃an,C (m+4) (.fn 51) [.fn 50 [.ptr p 0] []] h=.ret (.aD [.int .u64 (Int.ofNat (kx st).1),.str (kx st).2.1,.bool (kx st).2.2]) an/\cz p h.n h an/\cg an p (mY st):=by
  intro aE aC bu cX
  rw[aE,aC]
  rw[bu] at s1
  rw[cX] at oV
  exact⟨G,eg (intr:=jb) (n:=m+3) (args:=[.fn 50 [.ptr p 0] []]) Tryz.func51 (by kernel_rfl) rfl (by kernel_rfl) (aN.seq (p:=[]) (by kernel_rfl) (NK (C (m+3)) _ h) (aN.seq (p:=[1]) (by kernel_rfl) s1 (aN.iV (p:=[1,1]) (by kernel_rfl) (ZB (C (m+3)) _ (.ptr g.n 0) false G rfl) (by simp)))) (.inl rfl) (by kernel_rfl),bj.trans bj.n (G_.jo p),oV.mono G_ (Nat.le_refl _)⟩
 cases st with
 |none=>exact fail rfl rfl rfl rfl
 |some s=>
  cases s with
  |nil=>exact fail rfl rfl rfl rfl
  |cons B t=>
   have ag:=B.toNat_lt
   have iR:ff 1 (some (B::t))=([B],some t):=q2 (by simp)
   have Z8:j6 1 (some (B::t))=true:=by simp[j6]
   rw[iR] at oV uR
   have oV:cg g p (some t):=oV
   have uR:(w=.az/\[B]=[]/\((some (B::t):cv)=none\/j6 1 (some (B::t))=false))\/nS g p w [B]:=uR
   rw[Z8] at s1
   rcases uR with⟨_,h0,_⟩|zq
   · cases h0
   · have Ha:=zq
     obtain⟨gQ,gx,js,rfl,ah⟩:=zq
     have g3:∀x:aa,Ext g.n g x->aA x gQ (gx+0*1)=some (.int .u8 (Int.ofNat B.toNat)):=λx e=>((Ha.CJ (e.jo p) (Nat.le_refl _)).load).2 0 (by simp)
     obtain⟨bz,bA,c8,e1,r0⟩:=Z2 B.toNat (by omega)
     have a0:=YP B.toNat (by omega)
     have s2:=ZC (C (m+3)) (.fn 50 [.ptr p 0] []) (.ptr g.n 0) true G rfl
     let H0:=(G.push (.cells [.int .u64 (Int.ofNat 0),.int .u64 (Int.ofNat 0),.int .u8 (Int.ofNat 0),.int .i64 (Int.ofNat 0)] 120 .own 0 0)).set G.n (some (.cells [.int .u64 (Int.ofNat 0),.int .u64 (Int.ofNat 0),.int .u8 (Int.ofNat 0),.int .i64 (Int.ofNat 0)] 120 .own 0 0))
     have j4:H0.n=g.n+2:=by simp[H0,mZ]
     have bV:aN Tryz.prog Tryz.f51 none (C (m+3)) [1,1,1,0] ⟨[(0,.fn 50 [.ptr p 0] []),(5,.ptr g.n 0)],[],.none,G⟩ .nrm ⟨[(0,.fn 50 [.ptr p 0] []),(5,.ptr g.n 0),(6,.ptr G.n 0)],[],.none,H0⟩:=(ZD _ _ _ _ _ (nD rfl rfl))
     obtain⟨V,qA⟩:∃V,V=J.aD [.int .u64 (Int.ofNat (kx (some (B::t))).1),.str (kx (some (B::t))).2.1,.bool (kx (some (B::t))).2.2]:=⟨_,rfl⟩
     have wf:WF Tryz.prog Tryz.f51 none (C (m+3)) [] (λe r d q an=>∃g5,kd Tryz.prog (C (m+3)) Tryz.f51 (.ok e r d q an)=.ret V g5/\cz p h.n h g5/\cg g5 p (mY (some (B::t)))) (nd 0 [.fn 50 [.ptr p 0] []] .leaf) [] .none h:=by
      refine WF.seq (p:=[]) (by kernel_rfl) (W.of (NK (C (m+3)) _ h) (tQ [.fn 50 [.ptr p 0] []]) λba cE=>.inl ⟨rfl,?_⟩)
      refine WF.seq (p:=[1]) (by kernel_rfl) (W.of s1 cE λbt hB=>.inl ⟨rfl,?_⟩)
      refine WF.seq (p:=[1,1]) (by kernel_rfl) (W.of s2 hB λft wH=>.inl ⟨rfl,?_⟩)
      refine WF.seq (p:=[1,1,1]) (by kernel_rfl) (W.of (st:=⟨[(0,.fn 50 [.ptr p 0] []),(5,.ptr g.n 0)],[],.none,G⟩) bV (wH.sub ⟨rfl,rfl,trivial⟩) λhC Gv=>.inl ⟨rfl,?_⟩)
      refine WF.seq (p:=[1,1,1,1]) (by kernel_rfl) ?_
      refine WF.seq (p:=[1,1,1,1,0]) (by kernel_rfl) (W.of (ZE (C (m+3)) _ _ _ H0 _ H0 (NB (m+2) H0)) Gv λiH CM=>.inl ⟨rfl,?_⟩)
      refine WF.block (p:=[1,1,1,1,0,1]) (id:=0) (by kernel_rfl) ?_
      refine WF.range (p:=[1,1,1,1,0,1,0]) (t:=19) (ps:=[20]) (by kernel_rfl) (by kernel_rfl) (hf:=rfl) (hm:=CM) ?_
      let sH:=(H0.push (.defrd (some []))).push (.loop .ready none (dh Tryz.f51) iH [20] p3 q6 (g.n+2))
      rw[mZ] at CM
      have Z9:ay.Mod iH [(5,.ptr g.n 0),(6,.ptr (g.n+1) 0)]:=CM.sub ⟨rfl,rfl,trivial⟩
      have i0:CL B.toNat g.n gQ gx js g iH 0 sH:=by
       refine⟨?_,?_,?_,?_,?_,by simp only[sH,aa.eJ,j4];omega,λj aI=>by omega⟩
       · simp only[sH,H0];exact h6 (by simp only[aa.fr,aa.eJ,mZ];omega) (h6 (by simp only[aa.fr,aa.eJ,mZ];omega) (eh (by simp only[aa.fr,aa.eJ,mZ];omega) (h6 (by simp only[aa.fr,aa.eJ,mZ];omega) (by rw[gC];exact dN rfl))))
       · simp only[sH,H0];exact h6 (by simp only[aa.fr,aa.eJ,mZ];omega) (h6 (by simp only[aa.fr,aa.eJ,mZ];omega) (by rw[<-mZ];exact dN rfl))
       · simp only[sH];exact h6 (by simp[j4]) (dA (by rw[j4]))
       · simp only[sH];exact dA (by simp[j4])
       · simp only[sH,H0];exact Ext.jJ (by simp only[aa.fr,aa.eJ,mZ];omega) (Ext.jJ (by simp only[aa.fr,aa.eJ,mZ];omega) (Ext.e3 (by simp only[aa.fr,aa.eJ,mZ];omega) (Ext.jJ (by simp only[aa.fr,aa.eJ,mZ];omega) G_)))
      obtain⟨x,dI,eS⟩:=Z3 (m+2) (g.n+3) (CL B.toNat g.n gQ gx js g iH) (NS B.toNat g.n gQ gx js g iH) (λk x au ad=>Z5 (m+1) B.toNat g.n gQ gx js g iH Z9 g3 k x au ad) sH i0
      have cont:∀y:aa,y.get g.n=some (.cells [.slice gQ gx 1 js] 98 .own 0 0)->y.get (g.n+1)=some (.cells (fg (fC (ku B.toNat))) 120 .own 0 0)->y.get (g.n+2)=some (.defrd (some []))->Ext g.n g y->g.n+4<=y.n->
        WF Tryz.prog Tryz.f51 none (C (m+3)) [1,1,1,1,1] (λe r d q an=>∃g5,kd Tryz.prog (C (m+3)) Tryz.f51 (.ok e r d q an)=.ret V g5/\cz p h.n h g5/\cg g5 p (mY (some (B::t)))) iH [.collected (g.n+2)] .none y:=by
       intro y Z_ jw aaa zr adw
       obtain⟨cp,dq,c2,bo,bt,NY⟩:=G7 (m+2) p (fp B.toNat) (some t) y (oV.mono zr (Nat.le_refl _)) (by omega)
       have NZ:dq.get g.n=some (.cells [.slice gQ gx 1 js] 98 .own 0 0):=(bo.get g.n (by omega) (by omega)).trans Z_
       have N0:dq.get (g.n+1)=some (.cells (fg (fC (ku B.toNat))) 120 .own 0 0):=(bo.get (g.n+1) (by omega) (by omega)).trans jw
       have Hb:dq.get (g.n+2)=some (.defrd (some [])):=(bo.get (g.n+2) (by omega) (by omega)).trans aaa
       have qX:cz p h.n h dq:=(bj.trans bj.n (zr.jo p)).trans (Nat.le_trans bj.n zr.n) bo
       have CN:cz p g.n g dq:=(zr.jo p).trans zr.n bo
       have aab:aA y (g.n+1) (0+3)=some (.int .i64 (Int.ofNat (fp B.toNat))):=by rw[<-bA];exact aB jw rfl
       refine WF.seq (p:=[1,1,1,1,1]) (by kernel_rfl) (W.of (ZI (C (m+3)) p g.n (g.n+1) cp (j6 (fp B.toNat) (some t)) [.collected (g.n+2)] y dq _ _ aab (wQ _ (by omega) y) c2) (CM.sub ⟨rfl,rfl,rfl,trivial⟩) λN1 m0=>.inl ⟨rfl,?_⟩)
       have kG:h.n<=g.n+2:=by have:=bj.n;omega
       by_cases hlen:t.length<fp B.toNat
       · have aE:kx (some (B::t))=(0,[],false):=by simp only[kx,if_pos hlen]
         have aC:mY (some (B::t))=none:=by simp only[mY,if_pos hlen]
         rw[aE] at qA
         rw[show j6 (fp B.toNat) (some t)=false by simp[j6];omega] at m0
         rw[wP (by omega)] at bt
         refine WF.seq (p:=[1,1,1,1,1,1]) (by kernel_rfl) (W.of (st:=⟨[(4,.bool false),(5,.ptr g.n 0),(6,.ptr (g.n+1) 0),(8,cp)],[.collected (g.n+2)],.none,dq⟩) (ZJ (C (m+3)) (.ptr g.n 0) (.ptr (g.n+1) 0) cp false [.collected (g.n+2)] dq rfl) m0 λzs Hc=>.inr ⟨by simp,?_⟩)
         refine⟨dq.set (g.n+2) (some (.defrd none)),NW Hb (tR Hc (by rw[qA];kernel_rfl)),cz.e3 kG qX,?_⟩
         rw[aC]
         exact bt.set Hb
       · obtain⟨u,hu⟩:∃u,u=t.take (fp B.toNat):=⟨_,rfl⟩
         have rE:u.length=fp B.toNat:=by rw[hu,List.length_take];omega
         have aE:kx (some (B::t))=(j5 B.toNat u,B::u,true):=by simp only[kx,if_neg hlen,<-hu]
         have aC:mY (some (B::t))=some (t.drop (fp B.toNat)):=by simp only[mY,if_neg hlen]
         rw[aE] at qA
         rw[show j6 (fp B.toNat) (some t)=true by simp[j6];omega] at m0
         rw[q2 (by omega),<-hu] at NY
         rw[q2 (by omega)] at bt
         have Hd:nS dq p cp u:=by
          rcases NY with⟨_,_,ab|ab⟩|ab
          · cases ab
          · simp[j6] at ab;omega
          · exact ab
         refine WF.seq (p:=[1,1,1,1,1,1]) (by kernel_rfl) (W.of (st:=⟨[(4,.bool true),(5,.ptr g.n 0),(6,.ptr (g.n+1) 0),(8,cp)],[.collected (g.n+2)],.none,dq⟩) (ZK (C (m+3)) (.ptr g.n 0) (.ptr (g.n+1) 0) cp true [.collected (g.n+2)] dq rfl) m0 λzs Hc=>.inl ⟨rfl,?_⟩)
         have room:∀k,Ext dq.n dq (dq.room k):=λk=>Ext.hI (Ext.refl _ _)
         have He:aA (dq.room 8) gQ (gx+0*1)=some (.int .u8 (Int.ofNat B.toNat)):=((Ha.CJ (CN.trans CN.n ((room 8).jo p)) (Nat.le_refl _)).load).2 0 (by simp)
         have aac:aA (dq.room 8) (g.n+1) (0+2)=some (.int .u8 (Int.ofNat (h9 (ku B.toNat)))):=by rw[<-NP];exact aB (dX N0) rfl
         have aad:aA (dq.room 8) g.n 0=some (.slice gQ gx 1 js):=aB (dX NZ) rfl
         refine WF.seq (p:=[1,1,1,1,1,1,1]) (by kernel_rfl) (W.of (st:=⟨[(5,.ptr g.n 0),(6,.ptr (g.n+1) 0),(8,cp)],[.collected (g.n+2)],.none,dq⟩) (ZL (C (m+3)) g.n (g.n+1) cp [.collected (g.n+2)] dq _ _ _ _ _ _ _ _ aad (Nat.le_refl _) He aac (Z6 bz (by omega)) (NL _ (by omega) _)) (Hc.sub ⟨rfl,rfl,rfl,trivial⟩) λCO aae=>.inl ⟨rfl,?_⟩)
         have aaf:=Hd
         obtain⟨zt,dE,cV,rfl,_⟩:=aaf
         refine WF.seq (p:=[1,1,1,1,1,1,1,1]) (by kernel_rfl) ?_
         refine WF.seq (p:=[1,1,1,1,1,1,1,1,0]) (by kernel_rfl) (W.of (ZM (C (m+3)) (.ptr g.n 0) (.ptr (g.n+1) 0) _ zt dE u.length cV [.collected (g.n+2)] (dq.room 8)) aae λN2 aag=>.inl ⟨rfl,?_⟩)
         have fw:=NV (C (m+3)) (.ptr g.n 0) (.ptr (g.n+1) 0) (.slice zt dE u.length cV) zt dE cV u (B.toNat-h9 (ku B.toNat)+1) (by rw[rE];exact r0) (by omega) [.collected (g.n+2)] (dq.room 8) (λi af=>(Hd.load).2 i af) u.length 0 (B.toNat-h9 (ku B.toNat)) rfl (by omega) (by simp)
         have uS:=aN.block (id:=2) (p:=[1,1,1,1,1,1,1,1,0,1]) (by kernel_rfl) (fT.run (p:=[1,1,1,1,1,1,1,1,0,1,0]) (by kernel_rfl) fw (by omega))
         refine W.of uS aag λN3 N4=>.inl ⟨rfl,?_⟩
         rw[List.drop_zero] at N4
         have aH:=GZ B.toNat u (by omega) rE
         have aah:=e1 u rE
         have uT:ea Tryz.prog 98 9 (.slice gQ gx [B].length js) ((dq.room 8).room 12)=.val (.str [B]) ((dq.room 8).room 12):=(Ha.CJ (CN.trans CN.n ((Ext.hI (room 8)).jo p)) (Nat.le_refl _)).conv
         have aai:ea Tryz.prog 98 9 (.slice zt dE u.length cV) ((dq.room 8).room 12)=.val (.str u) ((dq.room 8).room 12):=(Hd.CJ ((Ext.hI (room 8)).jo p) (Nat.le_refl _)).conv
         have fin:=ZP (C (m+3)) g.n (g.n+1) (hN (B.toNat-h9 (ku B.toNat)) u) (fC (ku B.toNat)).1 zt dE u.length gQ gx 1 cV js [B] u [.collected (g.n+2)] (dq.room 8) _ _ (aB (dX (dX N0)) rfl) (Lk (by omega)) (aB (dX (dX NZ)) rfl) uT aai (yF (by simp;omega))
         refine W.of fin N4 λN5 aaj=>?_
         have N6:((dq.room 8).room 12).get (g.n+2)=some (.defrd (some [])):=dX (dX Hb)
         refine⟨((dq.room 8).room 12).set (g.n+2) (some (.defrd none)),NW N6 (tR aaj (by rw[qA,<-aah];kernel_rfl)),cz.e3 kG (qX.trans qX.n ((Ext.hI (room 8)).jo p)),?_⟩
         rw[aC]
         exact(bt.mono (Ext.hI (room 8)) (Nat.le_refl _)).set N6
      have N7:∀{y:aa} {o:Option b3},Ext g.n g y->Ext g.n g (y.set (g.n+3) o):=λe=>Ext.e3 (by omega) e
      rcases eS with eS|eS
      · obtain⟨aR,aT,bP,eR,ll,Hf,uU⟩:=eS
        have fG:=uU 8 (by omega)
        have iJ:8=ku B.toNat:=NQ B.toNat 8 (by omega) (by omega) fG (λh=>by omega)
        have jq:jh (g.n+3) iH [.collected (g.n+2)] .none (.ret (.aD []) x)=.ok .nrm iH [.collected (g.n+2)] .none (x.set (g.n+3) (some (.loop .exhausted none (dh Tryz.f51) iH [20] p3 q6 (g.n+2)))):=by
         simp only[jh,eR]
        have bu:H0.n+1=g.n+3:=by rw[j4]
        rw[j4]
        refine⟨.nrm,_,(congrArg (jh (g.n+3) iH [.collected (g.n+2)] .none) dI).trans jq,.inr ⟨by simp,.inl ⟨rfl,?_⟩⟩⟩
        refine cont _ (eh (by omega) aR) (eh (by omega) ?_) (eh (by omega) bP) (N7 ll) (by simpa using Hf)
        rw[<-iJ];exact aT
      · obtain⟨aR,⟨k,adx,aak,aal,aT⟩,bP,eR,ll,Hf⟩:=eS
        have iJ:k=ku B.toNat:=NQ B.toNat k (by omega) (by omega) aak (λ_=>aal)
        have jq:jh (g.n+3) iH [.collected (g.n+2)] .none (.ret (.aD []) x)=.ok (.exit 0) iH [.collected (g.n+2)] .none (x.set (g.n+3) (some (.loop .exhausted (some (.exit 0)) (dh Tryz.f51) iH [20] p3 q6 (g.n+2)))):=by
         simp only[jh,eR]
        rw[j4]
        refine⟨.exit 0,_,(congrArg (jh (g.n+3) iH [.collected (g.n+2)] .none) dI).trans jq,.inl ⟨rfl,.inl ⟨rfl,?_⟩⟩⟩
        refine cont _ (eh (by omega) aR) (eh (by omega) ?_) (eh (by omega) bP) (N7 ll) (by simpa using Hf)
        rw[<-iJ];exact aT
     obtain⟨e,r,d,q,an,cq,g5,cp,jm⟩:=wf
     rw[<-qA]
     exact⟨g5,Fw (intr:=jb) (n:=m+3) (args:=[.fn 50 [.ptr p 0] []]) Tryz.func51 (by kernel_rfl) rfl (by kernel_rfl) ⟨e,r,d,q,an,cq,cp⟩,jm⟩
end Go.Proofs.cW
namespace Go.Proofs.cW
open Go ay Go.Proofs Go.Proofs.ed
set_option maxRecDepth 100000
set_option maxHeartbeats 1000000
theorem aam{a b:List UInt8}(h:¬a=b):cw a b=false:=by
 cases a1:cw a b with
 |false=>rfl
 |true=>rw[nk] at a1;exact absurd (by simpa using a1) h
theorem CP(m p:Nat)(st:cv)(h:aa)(ai:cg h p st):∃an,C (m+5) (.fn 24) [.ptr p 0] h=.ret (.int .u64 (Int.ofNat (a_ st).1)) an/\cz p h.n h an/\cg an p (a_ st).2:=by
 obtain⟨g,c,x,r⟩:=Z7 m p st h ai
 have fin:∀{Γ:Env} {an:aa} {v:J},aN Tryz.prog Tryz.f24 none (C (m+4)) [] ⟨[(0,.ptr p 0)],[],.none,h⟩ .ret ⟨Γ,[],.none,an⟩->k5 Tryz.prog (dh Tryz.f24) Tryz.f24 Γ an=some v->C (m+5) (.fn 24) [.ptr p 0] h=.ret v an:=λad hD=>
  eg (intr:=jb) (n:=m+4) (args:=[.ptr p 0]) Tryz.func24 (by kernel_rfl) rfl (by kernel_rfl) ad (.inl rfl) hD
 have bad:kx st=(0,[],false)->mY st=none->a_ st=(0,none)->∃an,C (m+5) (.fn 24) [.ptr p 0] h=.ret (.int .u64 (Int.ofNat (a_ st).1)) an/\cz p h.n h an/\cg an p (a_ st).2:=λaE aC bu=>by
  rw[aE] at c
  rw[aC] at r
  rw[bu]
  exact⟨g,fin (Zt _ _ (0) ([]) (true) _ ((iE 0)) _ _ _ _ (c) rfl) (by kernel_rfl),x,r⟩
 cases st with
 |none=>exact bad rfl rfl rfl
 |some s=>
  cases s with
  |nil=>exact bad rfl rfl rfl
  |cons b t=>
   have ag:=b.toNat_lt
   by_cases hlen:t.length<fp b.toNat
   · exact bad (by simp only[kx,if_pos hlen]) (by simp only[mY,if_pos hlen]) (G0 (by simp only[rdNum,if_pos hlen]))
   · obtain⟨u,hu⟩:∃u,u=t.take (fp b.toNat):=⟨_,rfl⟩
     have rE:u.length=fp b.toNat:=by rw[hu,List.length_take];omega
     have aH:=GZ b.toNat u (by omega) rE
     rw[show kx (some (b::t))=(j5 b.toNat u,b::u,true) by simp only[kx,if_neg hlen,<-hu]] at c
     rw[show mY (some (b::t))=some (t.drop (fp b.toNat)) by simp only[mY,if_neg hlen]] at r
     obtain⟨ak,c2,bo⟩:=G5 m (j5 b.toNat u) [] g aH (by simp)
     rw[List.nil_append] at c2
     have bt:=r.mono bo (Nat.le_refl _)
     have CQ:cz p h.n h ak:=x.trans x.n (bo.jo p)
     by_cases heq:cM (j5 b.toNat u)=b::u
     · rw[show a_ (some (b::t))=(j5 b.toNat u,some (t.drop (fp b.toNat))) from Nn (by simp only[rdNum,if_neg hlen,<-hu,if_pos heq])]
       exact⟨ak,fin (Zv _ _ (0) ([]) (true) _ ((iE 0)) _ _ _ _ _ _ (c) (rfl) (c2) ((by rw[heq,v7];rfl))) (by kernel_rfl),CQ,bt⟩
     · rw[show a_ (some (b::t))=(0,none) from G0 (by simp only[rdNum,if_neg hlen,<-hu,if_neg heq])]
       obtain⟨ab,ae,v,av,aK⟩:=bt
       exact⟨_,fin (Zu _ _ (0) ([]) (true) _ ((iE 0)) _ _ _ _ _ _ _ _ (c) (rfl) (c2) ((by rw[aam heq];rfl)) (nD rfl rfl) (nD rfl rfl)) (by kernel_rfl),cz.FB (cz.FB CQ),by simpa using ab,dN rfl⟩
theorem CR(m p:Nat)(st:cv)(h:aa)(ai:cg h p st):∃an,C (m+6) (.fn 23) [.ptr p 0] h=.ret (.str (cH st).1) an/\cz p h.n h an/\cg an p (cH st).2:=by
 obtain⟨g,c,x,r⟩:=CP m p st h ai
 obtain⟨w,ak,c2,bo,bt,uR⟩:=G7 (m+4) p (a_ st).1 (a_ st).2 g r (No st)
 refine⟨ak,?_,x.trans x.n bo,bt⟩
 rcases uR with⟨rfl,e,_⟩|zq
 · rw[show(cH st).1=[] from e]
   exact eg (intr:=jb) (n:=m+5) (args:=[.ptr p 0]) Tryz.func23 (by kernel_rfl) rfl (by kernel_rfl) (Zx _ _ _ ([]) _ _ _ _ (c) (c2)) (.inl rfl) (by kernel_rfl)
 · have iT:=zq.conv
   obtain⟨b,o,aG,rfl,_⟩:=zq
   exact eg (intr:=jb) (n:=m+5) (args:=[.ptr p 0]) Tryz.func23 (by kernel_rfl) rfl (by kernel_rfl) (Zw _ _ _ _ _ _ _ _ _ _ _ _ (c) (c2) (iT)) (.inl rfl) (by kernel_rfl)
end Go.Proofs.cW
