/-
  PROVED HERE: contracts of functions (Da). No condition beside each statement's own.
-/
import Derived.Test.YtfooahfebojldaaGreatDoorAx
import Derived.Test.YtfooahfebojldaaGreatDoorProg
import Derived.Test.YtfooahfebojldaaGreatDoorSxa
import Derived.Test.YtfooahfebojldaaGreatDoorTx
set_option linter.unusedVariables false
set_option linter.unusedSimpArgs false
namespace Go.Proofs.cD
open Go aB Go.Proofs
set_option maxRecDepth 100000
set_option maxHeartbeats 1000000
noncomputable def kQ:uB:=⟨69,[],.slice 5503 0 27 (.aS 1),5504,[(3,.cells [.int .i64 (2),.str [],.bf,.bf,.bm] 51 .own 0 0),(4,.cells [.int .i64 (4),.str [],.bf,.bf,.bm] 51 .own 0 0),(5,.cells [.int .i64 (3),.str [],.bf,.bf,.bm] 51 .own 0 0),(6,.cells [.int .i64 (6),.str [109,46,78],.bf,.bf,.bm] 51 .own 0 0),(7,.cells [.int .i64 (1),.str [],.bf,.bf,.bm] 51 .own 0 0),(8,.cells [.int .i64 (5),.str [],.bf,.bf,.bm] 51 .own 0 0),(119,.cells [.int .i64 (7),.str [],.slice 246 0 2 (.aS 1),.slice 249 0 2 (.aS 1),.bm] 51 .own 0 0),(246,.cells [.str [97],.str [98]] 9 .aS 0 0),(249,.cells [.ptr 3 0,.ptr 4 0] 47 .aS 0 0),(429,.cells [.int .i64 (8),.str [],.bf,.slice 430 0 2 (.aS 1),.ptr 6 0] 51 .own 0 0),(430,.cells [.ptr 3 0,.ptr 4 0] 47 .aS 0 0),(1110,.cells [.ptr 3 0,.ptr 4 0,.ptr 119 0] 47 .aS 0 0),(1111,.cells [.int .i64 (9),.str [],.bf,.slice 1110 0 3 (.aS 1),.bm] 51 .own 0 0),(1223,.cells [.int .i64 (7),.str [],.slice 1350 0 2 (.aS 1),.slice 1353 0 2 (.aS 1),.bm] 51 .own 0 0),(1350,.cells [.str [97],.str [98]] 9 .aS 0 0),(1353,.cells [.ptr 4 0,.ptr 5 0] 47 .aS 0 0),(1533,.cells [.int .i64 (8),.str [],.bf,.slice 1534 0 2 (.aS 1),.ptr 7 0] 51 .own 0 0),(1534,.cells [.ptr 4 0,.ptr 5 0] 47 .aS 0 0),(2199,.cells [.ptr 5 0,.ptr 4 0,.ptr 1223 0] 47 .aS 0 0),(2200,.cells [.int .i64 (9),.str [],.bf,.slice 2199 0 3 (.aS 1),.bm] 51 .own 0 0),(2312,.cells [.int .i64 (7),.str [],.slice 2439 0 2 (.aS 1),.slice 2442 0 2 (.aS 1),.bm] 51 .own 0 0),(2439,.cells [.str [97],.str [98]] 9 .aS 0 0),(2442,.cells [.ptr 5 0,.ptr 6 0] 47 .aS 0 0),(2622,.cells [.int .i64 (8),.str [],.bf,.slice 2623 0 2 (.aS 1),.ptr 8 0] 51 .own 0 0),(2623,.cells [.ptr 5 0,.ptr 6 0] 47 .aS 0 0),(3303,.cells [.ptr 5 0,.ptr 6 0,.ptr 2312 0] 47 .aS 0 0),(3304,.cells [.int .i64 (9),.str [],.bf,.slice 3303 0 3 (.aS 1),.bm] 51 .own 0 0),(3416,.cells [.int .i64 (7),.str [],.slice 3543 0 2 (.aS 1),.slice 3546 0 2 (.aS 1),.bm] 51 .own 0 0),(3543,.cells [.str [97],.str [98]] 9 .aS 0 0),(3546,.cells [.ptr 6 0,.ptr 7 0] 47 .aS 0 0),(3726,.cells [.int .i64 (8),.str [],.bf,.slice 3727 0 2 (.aS 1),.ptr 3 0] 51 .own 0 0),(3727,.cells [.ptr 6 0,.ptr 7 0] 47 .aS 0 0),(4108,.cells [.int .i64 (1),.str [],.bf,.bf,.bm] 51 .own 0 0),(4220,.cells [.int .i64 (7),.str [],.slice 4347 0 2 (.aS 1),.slice 4350 0 2 (.aS 1),.bm] 51 .own 0 0),(4347,.cells [.str [97],.str [98]] 9 .aS 0 0),(4350,.cells [.ptr 7 0,.ptr 8 0] 47 .aS 0 0),(4530,.cells [.int .i64 (8),.str [],.bf,.slice 4531 0 2 (.aS 1),.ptr 4 0] 51 .own 0 0),(4531,.cells [.ptr 7 0,.ptr 8 0] 47 .aS 0 0),(4910,.cells [.int .i64 (1),.str [],.bf,.bf,.bm] 51 .own 0 0),(4913,.cells [.int .i64 (7),.str [],.bf,.bf,.bm] 51 .own 0 0),(5497,.cells [.int .i64 (8),.str [],.bf,.bf,.ptr 1111 0] 51 .own 0 0),(5498,.cells [.int .i64 (0),.str [],.bf,.bf,.bm] 51 .own 0 0),(5499,.cells [.ptr 3 0] 47 .own 0 0),(5500,.cells [.int .i64 (9),.str [],.bf,.slice 5499 0 1 (.exact 1),.bm] 51 .own 0 0),(5501,.cells [.int .i64 (6),.str [],.bf,.bf,.bm] 51 .own 0 0),(5503,.cells [.ptr 3 0,.ptr 4 0,.ptr 5 0,.ptr 6 0,.ptr 7 0,.ptr 8 0,.ptr 119 0,.ptr 429 0,.ptr 1111 0,.ptr 1223 0,.ptr 1533 0,.ptr 2200 0,.ptr 2312 0,.ptr 2622 0,.ptr 3304 0,.ptr 3416 0,.ptr 3726 0,.ptr 4108 0,.ptr 4220 0,.ptr 4530 0,.ptr 4910 0,.ptr 4913 0,.ptr 5497 0,.bm,.ptr 5498 0,.ptr 5500 0,.ptr 5501 0] 47 .aS 0 0)]⟩
theorem Qy(hf:Fit Tryz.prog):Df Tryz.prog [] kQ.sU:=⟨λ_ _ _=>none,200,(by intro _ _ _ _ _ h;cases h),rfl,λeL=>by kernel_rfl⟩
end Go.Proofs.cD
namespace df
open aB
abbrev aO:=List UInt8
inductive a6 where
 |mk (k:Nat) (bK:aO) (aJ:List aO) (xs:List a6) (rt:Option a6)
def a6.k:a6->Nat|.mk k _ _ _ _=>k
mutual
def sz:a6->Nat
 |.mk _ _ _ xs rt=>1+eZ xs+ei rt
def eZ:List a6->Nat
 |[]=>0
 |t::bJ=>sz t+eZ bJ
def ei:Option a6->Nat
 |none=>0
 |some t=>sz t
end
theorem q3(k:Nat)(bK:aO)(aJ:List aO)(xs:List a6)(rt:Option a6):sz (.mk k bK aJ xs rt)=1+eZ xs+ei rt:=by rw[sz]
theorem m1(t:a6):ei (some t)=sz t:=by rw[ei]
theorem py:∀t:a6,0<sz t
 |.mk _ _ _ _ _=>by unfold sz;omega
theorem kR{t:a6}:∀{l:List a6},t∈l->sz t<=eZ l
 |[],h=>by cases h
 |x::l,h=>by
  unfold eZ
  rcases List.mem_cons.1 h with rfl|h
  · omega
  · have:=kR h;omega
theorem pz:∀l:List a6,l.length<=eZ l
 |[]=>Nat.le_refl _
 |x::l=>by
  have:=pz l
  have:=py x
  unfold eZ
  simp;omega
mutual
def iH:a6->Nat
 |.mk _ _ aJ xs rt=>aJ.length+zN xs+sW rt
def zN:List a6->Nat
 |[]=>0
 |t::bJ=>iH t+zN bJ
def sW:Option a6->Nat
 |none=>0
 |some t=>iH t
end
theorem uC{t:a6}:∀{l:List a6},t∈l->iH t<=zN l
 |[],h=>by cases h
 |x::l,h=>by
  rw[zN]
  rcases List.mem_cons.1 h with rfl|h
  · omega
  · have:=uC h;omega
def gP(n:Nat):Bool:=(decide (97<=n)&&decide (n<=122))||((decide (65<=n)&&decide (n<=90))||decide (n=95))
def h6(n:Nat):Bool:=decide (48<=n)&&decide (n<=57)
def ja(n:Nat):Bool:=gP n||h6 n||decide (n=45)||decide (n=47)||decide (n=46)
def Dl:aO->Bool
 |[]=>false
 |c::_=>gP c.toNat
def hG(s:aO):Bool:=decide (1<=s.length)&&decide (s.length<=24)&&Dl s&&s.all (λc=>gP c.toNat||h6 c.toNat)
def kS(s:aO):Bool:=decide (1<=s.length)&&decide (s.length<=161)&&s.all (λc=>ja c.toNat)
theorem zO(x y:UInt8)(a b:aO):dB (x::a) (y::b)=if x.toNat=y.toNat then dB a b else decide (x.toNat<y.toNat):=by
 by_cases h:x.toNat=y.toNat
 · rw[if_pos h];simp only[dB,h,Nat.beq_refl]
 · rw[if_neg h]
   have af:Nat.beq x.toNat y.toNat=false:=by
    cases ab:Nat.beq x.toNat y.toNat with
    |false=>rfl
    |true=>exact absurd (Nat.eq_of_beq_eq_true ab) h
   simp only[dB,af]
   exact Bool.eq_iff_iff.2 (by rw[Nat.blt_eq];simp)
def nH:aO:=(List.range 26).map (λi=>UInt8.ofNat (97+i))++(List.range 26).map (λi=>UInt8.ofNat (65+i))++(List.range 10).map (λi=>UInt8.ofNat (48+i))++[95]
def oH(n:Nat):Bool:=gP n||h6 n
def jE(p:Nat->Bool):List I:=(List.range 256).map λn=>.bool (p n)
def dZ(sep:aO):List aO->aO
 |[]=>[]
 |x::l=>x++l.flatMap (λy=>sep++y)
theorem Qz(sep:aO):∀(l:List aO) (y:aO),l≠[]->dZ sep (l++[y])=dZ sep l++sep++y
 |[],y,h=>absurd rfl h
 |x::l,y,_=>by
  show x++(l++[y]).flatMap _=x++l.flatMap _++sep++y
  rw[List.flatMap_append]
  simp
theorem QA(sep y:aO):dZ sep ([]++[y])=y:=by simp[dZ]
theorem w0(sep:aO)(l:List aO){i:Nat}(h:i<l.length):dZ sep (l.take (i+1))=if 0<i then dZ sep (l.take i)++sep++l[i] else l[i]:=by
 rw[List.take_succ_eq_append_getElem h]
 by_cases h0:0<i
 · rw[if_pos h0,Qz]
   intro e
   have aq:(l.take i).length=i:=by rw[List.length_take];omega
   rw[e] at aq
   simp at aq
   omega
 · rw[if_neg h0]
   obtain rfl:i=0:=by omega
   exact QA sep _
theorem w1(sep:aO)(l:List aO):∀(i:Nat),(dZ sep (l.take i)).length<=(dZ sep l).length:=by
 intro i
 cases l with
 |nil=>simp
 |cons x l=>
  cases i with
  |zero=>simp[dZ]
  |succ i=>
   show(x++(l.take i).flatMap _).length<=(x++l.flatMap _).length
   have e:l.flatMap (λy=>sep++y)=(l.take i).flatMap (λy=>sep++y)++(l.drop i).flatMap (λy=>sep++y):=by
    rw[<-List.flatMap_append,List.take_append_drop]
   rw[e]
   simp only[List.length_append]
   omega
theorem sX(sep:aO)(l:List aO){i:Nat}(h:i<l.length):l[i].length<=(dZ sep l).length:=by
 have aa:=w1 sep l (i+1)
 rw[w0 sep l h] at aa
 split at aa
 · simp at aa;omega
 · exact aa
def word:Nat->aO
 |1=>[97,110,121]
 |2=>[105,110,116]
 |3=>[98,111,111,108]
 |4=>[115,116,114]
 |5=>[110,105,108]
 |_=>[]
def gq(aJ ws:List aO):List aO:=List.zipWith (λn w=>n++[58,32]++w) aJ ws
def g1(eM:List Nat)(ws:List aO):List aO:=List.zipWith (λk w=>if k=8 then[40]++w++[41] else w) eM ws
def shape(k:Nat)(bK:aO)(aJ:List aO)(eM:List Nat)(ws:List aO)(r:aO):aO:=
 if k=6 then bK else if k=7 then[123]++dZ [44,32] (gq aJ ws)++[125] else if k=8 then[102,110,40]++dZ [44,32] ws++[41,32,45,62,32]++r
 else if k=9 then dZ [32,124,32] (g1 eM ws) else word k
mutual
def wr:a6->aO
 |.mk k bK aJ xs rt=>shape k bK aJ (xs.map a6.k) (cv xs) (j3 rt)
def cv:List a6->List aO
 |[]=>[]
 |t::bJ=>wr t::cv bJ
def j3:Option a6->aO
 |none=>[]
 |some t=>wr t
end
mutual
def okW:a6->Bool
 |.mk k bK aJ xs rt=>decide (1<=k)&&decide (k<=9)&&(decide (k≠7)||decide (xs.length=aJ.length))&&(decide (k≠8)||rt.isSome)&&pA xs&&sY rt
def pA:List a6->Bool
 |[]=>true
 |t::bJ=>okW t&&pA bJ
def sY:Option a6->Bool
 |none=>true
 |some t=>okW t
end
theorem uD:∀l:List a6,(cv l).length=l.length
 |[]=>by rw[cv];rfl
 |x::l=>by rw[cv];simp[uD l]
theorem uE:∀(l:List a6) (i:Nat) (h:i<l.length) (an:i<(cv l).length),(cv l)[i]=wr l[i]
 |[],i,h,_=>by simp at h
 |x::l,0,_,_=>by simp only[cv];rfl
 |x::l,i+1,h,an=>by
  have:=uE l i (by simpa using h) (by rw[uD];simpa using h)
  simpa only[cv,List.getElem_cons_succ] using this
theorem IH{t:a6}:∀{l:List a6},pA l=true->t∈l->okW t=true
 |[],_,h=>by cases h
 |x::l,aq,h=>by
  rw[pA,Bool.and_eq_true] at aq
  rcases List.mem_cons.1 h with rfl|h
  · exact aq.1
  · exact IH aq.2 h
def mb(p:Option aO)(x:aO):Bool:=match p with
 |none=>true
 |some q=>dB q x
def ly(p:Option aO):List aO->Bool
 |[]=>true
 |x::l=>hG x&&(mb p x&&ly (some x) l)
def nI(p:Option aO):List Nat->List aO->Bool
 |k::eM,w::ws=>(decide (k≠9)&&decide (k≠1))&&(mb p w&&nI (some w) eM ws)
 |_,_=>true
def lz(l:List aO):Nat->Option aO
 |0=>none
 |i+1=>l[i]?
theorem II{s:aO}(h:hG s=true):s.length<=24:=by
 unfold hG at h
 simp only[Bool.and_eq_true,decide_eq_true_eq] at h
 exact h.1.1.2
def jF(k:Nat)(s:aO)(N M:Nat)(o:Bool):Bool:=(!((!dU s []) !=decide (k=6)))&&(!(decide (0<N)&&decide (k≠7)))&&(!(decide (0<M)&&decide (k<7)))&&(!(o !=decide (k=8)))
def fO(k:Nat)(bK:aO)(aJ:List aO)(eM:List Nat)(ws:List aO)(n:Nat)(r:Bool):Bool:=
 if k=6 then kS bK else if k=7 then decide (aJ.length=n)&&ly none aJ else if k=8 then r else if k=9 then nI none eM ws&&decide (2<=n) else true
mutual
def e0:a6->Bool
 |.mk k bK aJ xs rt=>(decide (1<=k)&&decide (k<=9))&&(jF k bK aJ.length xs.length rt.isSome&&(im xs&&fO k bK aJ (xs.map a6.k) (cv xs) xs.length (iI rt)))
def im:List a6->Bool
 |[]=>true
 |t::bJ=>e0 t&&im bJ
def iI:Option a6->Bool
 |none=>false
 |some t=>e0 t
end
theorem zP{t:a6}:∀{l:List a6},im l=true->t∈l->e0 t=true
 |[],_,h=>by cases h
 |x::l,aq,h=>by
  rw[im,Bool.and_eq_true] at aq
  rcases List.mem_cons.1 h with rfl|h
  · exact aq.1
  · exact zP aq.2 h
theorem Dm(k:Nat)(bK:aO)(aJ:List aO)(xs:List a6)(rt:Option a6):e0 (.mk k bK aJ xs rt)=((decide (1<=k)&&decide (k<=9))&&(jF k bK aJ.length xs.length rt.isSome&&(im xs&&fO k bK aJ (xs.map a6.k) (cv xs) xs.length (iI rt)))):=by rw[e0]
mutual
theorem w2:∀t:a6,e0 t=true->okW t=true
 |.mk k bK aJ xs rt,h=>by
  rw[Dm] at h
  simp only[Bool.and_eq_true,decide_eq_true_eq] at h
  obtain⟨⟨bQ,jb⟩,a_,ab,av⟩:=h
  have zQ:=IJ xs ab
  have IK:rt.isSome=decide (k=8):=by
   unfold jF at a_
   simp only[Bool.and_eq_true] at a_
   have:=a_.2
   revert this
   cases rt.isSome<;>cases aA:decide (k=8)<;>simp
  have a7:sY rt=true:=by
   cases rt with
   |none=>rw[sY]
   |some u=>
    have QB:k=8:=by simpa using IK.symm
    subst QB
    have hu:e0 u=true:=by simpa[fO,iI] using av
    rw[sY]
    exact w2 u hu
  rw[okW]
  simp only[Bool.and_eq_true,Bool.or_eq_true,decide_eq_true_eq]
  refine⟨⟨⟨⟨⟨bQ,jb⟩,?_⟩,?_⟩,zQ⟩,a7⟩
  · by_cases e:k=7
    · subst e
      right
      have:aJ.length=xs.length/\ly none aJ=true:=by simpa[fO] using av
      exact this.1.symm
    · exact .inl e
  · by_cases e:k=8
    · right;rw[IK];simp[e]
    · exact .inl e
theorem IJ:∀l:List a6,im l=true->pA l=true
 |[],_=>by rw[pA]
 |t::l,h=>by
  rw[im,Bool.and_eq_true] at h
  rw[pA,w2 t h.1,IJ l h.2];rfl
end
def jG(c:Nat):List aO->Nat
 |[]=>0
 |x::l=>x.length+c+jG c l
theorem IL(sep:aO):∀l:List aO,(l.flatMap (λy=>sep++y)).length=jG sep.length l
 |[]=>rfl
 |x::l=>by
  rw[List.flatMap_cons,List.length_append,IL sep l,List.length_append,jG]
  omega
theorem Dn(sep:aO):∀l:List aO,(dZ sep l).length<=jG sep.length l
 |[]=>Nat.le_refl _
 |x::l=>by
  show(x++l.flatMap _).length<=_
  rw[List.length_append,IL,jG]
  omega
theorem IM:∀(p:Option aO) (aJ:List aO),ly p aJ=true->∀n∈aJ,n.length<=24
 |_,[],_,n,aI=>by cases aI
 |p,x::l,h,n,aI=>by
  rw[ly,Bool.and_eq_true,Bool.and_eq_true] at h
  rcases List.mem_cons.1 aI with rfl|aI
  · exact II h.1
  · exact IM (some x) l h.2.2 n aI
def w3:List a6->Prop
 |[]=>True
 |t::l=>(wr t).length+30<=300*sz t/\w3 l
theorem IN:∀xs:List a6,w3 xs->jG 2 (cv xs)<=300*eZ xs
 |[],_=>by rw[cv,jG];omega
 |t::l,h=>by
  have aa:=h.1
  have:=IN l h.2
  rw[cv,jG,eZ];omega
theorem IP:∀(aJ:List aO) (xs:List a6),w3 xs->(∀n∈aJ,n.length<=24)->jG 2 (gq aJ (cv xs))<=300*eZ xs
 |[],xs,_,_=>by simp[gq,jG]
 |n::aJ,[],_,_=>by simp[gq,cv,jG]
 |n::aJ,t::l,h,aI=>by
  have aa:=h.1
  have ad:=aI n (by simp)
  have:=IP aJ l h.2 (λm hm=>aI m (by simp[hm]))
  unfold gq at this⊢
  rw[cv,List.zipWith_cons_cons,jG,eZ]
  simp only[List.length_append,List.length_cons,List.length_nil]
  omega
theorem IQ:∀(xs:List a6),w3 xs->jG 3 (g1 (xs.map a6.k) (cv xs))<=300*eZ xs
 |[],_=>by simp[g1,cv,jG]
 |t::l,h=>by
  have aa:=h.1
  have:=IQ l h.2
  unfold g1 at this⊢
  rw[List.map_cons,cv,List.zipWith_cons_cons,jG,eZ]
  split
  · simp only[List.length_append,List.length_cons,List.length_nil]
    omega
  · omega
mutual
theorem zR:∀t:a6,e0 t=true->(wr t).length+30<=300*sz t
 |.mk k bK aJ xs rt,h=>by
  rw[Dm] at h
  simp only[Bool.and_eq_true,decide_eq_true_eq] at h
  obtain⟨⟨bQ,jb⟩,a_,ab,av⟩:=h
  have hs:=IS xs ab
  rw[wr,q3]
  unfold shape
  split
  · rename_i e
    subst e
    have:kS bK=true:=by simpa[fO] using av
    unfold kS at this
    simp only[Bool.and_eq_true,decide_eq_true_eq] at this
    omega
  split
  · rename_i e
    subst e
    have hf:aJ.length=xs.length/\ly none aJ=true:=by simpa[fO] using av
    have a5:=IP aJ xs hs (IM none aJ hf.2)
    have bt:(dZ [44,32] (gq aJ (cv xs))).length<=jG 2 (gq aJ (cv xs)):=Dn [44,32] _
    simp only[List.length_append,List.length_cons,List.length_nil]
    omega
  split
  · rename_i e
    subst e
    have a5:=IN xs hs
    have bt:(dZ [44,32] (cv xs)).length<=jG 2 (cv xs):=Dn [44,32] _
    have ai:(j3 rt).length<=300*ei rt:=by
     cases rt with
     |none=>rw[j3];simp
     |some u=>
      have hu:e0 u=true:=by simpa[fO,iI] using av
      have:=zR u hu
      rw[j3,m1];omega
    simp only[List.length_append,List.length_cons,List.length_nil]
    omega
  split
  · have a5:=IQ xs hs
    have bt:(dZ [32,124,32] (g1 (xs.map a6.k) (cv xs))).length<=jG 3 (g1 (xs.map a6.k) (cv xs)):=Dn [32,124,32] _
    omega
  · have:(word k).length<=4:=by
      unfold word;split<;>simp
    omega
theorem IS:∀l:List a6,im l=true->w3 l
 |[],_=>trivial
 |t::l,h=>by
  rw[im,Bool.and_eq_true] at h
  exact⟨zR t h.1,IS l h.2⟩
end
theorem QC(u:a6)(h:e0 u=true):okW u=true/\(wr u).length<=300*sz u:=⟨w2 u h,by have:=zR u h;omega⟩
end df
namespace Go.Proofs.cD
open Go aB Go.Proofs df
set_option maxRecDepth 100000
set_option maxHeartbeats 1000000
def c7(B:Nat)(h:J)(v:I)(vs:List I):Prop:=(v=.bf/\vs=[])\/∃b off aH,v=.slice b off vs.length aH/\b<B/\(∀i (ae:i<vs.length),au h b (off+i*1)=some vs[i])/\0<vs.length/\aH≠ .dead
mutual
def cW(B:Nat)(h:J):a6->I->Prop
 |.mk k bK aJ xs rt,v=>∃r c5 bZ cG vs bV bk up,v=.ptr r 0/\r<B/\h.get r=some (.cells [.int .i64 (Int.ofNat k),.str bK,c5,bZ,cG] 51 bV bk up)/\c7 B h c5 (aJ.map .str)/\c7 B h bZ vs/\dq B h xs vs/\dE B h rt cG
def dq(B:Nat)(h:J):List a6->List I->Prop
 |[],vs=>vs=[]
 |t::bJ,vs=>∃v ws,vs=v::ws/\cW B h t v/\dq B h bJ ws
def dE(B:Nat)(h:J):Option a6->I->Prop
 |none,v=>v=.bm
 |some t,v=>cW B h t v
end
def e3(B:Nat)(h g:J):Prop:=∀b,b<B->g.get b=h.get b
theorem e3.ext{B C:Nat}{h g:J}(e:Ext C h g)(bI:B<=C):e3 B h g:=λb af=>e.get b (by omega)
theorem c7.b6{B:Nat}{h g:J}{v:I}{vs:List I}(e:e3 B h g)(hs:c7 B h v vs):c7 B g v vs:=by
 rcases hs with hs|⟨b,off,aH,aa,ad,aw,aQ⟩
 · exact .inl hs
 · refine .inr ⟨b,off,aH,aa,ad,λi ae=>?_,aQ⟩
   rw[<-aw i ae]
   unfold au
   rw[e b ad]
theorem c7.le{B C:Nat}{h:J}{v:I}{vs:List I}(e:B<=C)(hs:c7 B h v vs):c7 C h v vs:=by
 rcases hs with hs|⟨b,off,aH,aa,ad,aw,aQ⟩
 · exact .inl hs
 · exact .inr ⟨b,off,aH,aa,by omega,aw,aQ⟩
mutual
theorem cW.b6{B:Nat}{h g:J}(e:e3 B h g):∀(t:a6) (v:I),cW B h t v->cW B g t v
 |.mk k bK aJ xs rt,v,ab=>by
  obtain⟨r,c5,bZ,cG,vs,bV,bk,up,aa,ad,aw,aQ,bS,dm,eG⟩:=ab
  exact⟨r,c5,bZ,cG,vs,bV,bk,up,aa,ad,(e r ad).trans aw,aQ.b6 e,bS.b6 e,dq.b6 e xs vs dm,dE.b6 e rt cG eG⟩
theorem dq.b6{B:Nat}{h g:J}(e:e3 B h g):∀(bJ:List a6) (vs:List I),dq B h bJ vs->dq B g bJ vs
 |[],vs,ab=>ab
 |t::bJ,vs,ab=>by
  obtain⟨v,ws,aa,ad,aw⟩:=ab
  exact⟨v,ws,aa,cW.b6 e t v ad,dq.b6 e bJ ws aw⟩
theorem dE.b6{B:Nat}{h g:J}(e:e3 B h g):∀(t:Option a6) (v:I),dE B h t v->dE B g t v
 |none,v,ab=>ab
 |some t,v,ab=>cW.b6 e t v ab
end
mutual
theorem cW.le{B C:Nat}{h:J}(e:B<=C):∀(t:a6) (v:I),cW B h t v->cW C h t v
 |.mk k bK aJ xs rt,v,ab=>by
  obtain⟨r,c5,bZ,cG,vs,bV,bk,up,aa,ad,aw,aQ,bS,dm,eG⟩:=ab
  exact⟨r,c5,bZ,cG,vs,bV,bk,up,aa,by omega,aw,aQ.le e,bS.le e,dq.le e xs vs dm,dE.le e rt cG eG⟩
theorem dq.le{B C:Nat}{h:J}(e:B<=C):∀(bJ:List a6) (vs:List I),dq B h bJ vs->dq C h bJ vs
 |[],vs,ab=>ab
 |t::bJ,vs,ab=>by
  obtain⟨v,ws,aa,ad,aw⟩:=ab
  exact⟨v,ws,aa,cW.le e t v ad,dq.le e bJ ws aw⟩
theorem dE.le{B C:Nat}{h:J}(e:B<=C):∀(t:Option a6) (v:I),dE B h t v->dE C h t v
 |none,v,ab=>ab
 |some t,v,ab=>cW.le e t v ab
end
theorem dq.len{B:Nat}{h:J}:∀{bJ:List a6} {vs:List I},dq B h bJ vs->vs.length=bJ.length
 |[],vs,ab=>by
  have e:vs=[]:=ab
  subst e;rfl
 |s::bJ,vs,ab=>by
  obtain⟨u,ws,rfl,ad,aw⟩:=ab
  simp[dq.len aw]
theorem dq.get{B:Nat}{h:J}:∀{bJ:List a6} {vs:List I},dq B h bJ vs->∀i (aa:i<vs.length) (ad:i<bJ.length),cW B h bJ[i] vs[i]
 |[],vs,ab,i,aa,ad=>by simp at ad
 |s::bJ,vs,ab,i,aa,ad=>by
  obtain⟨u,ws,rfl,aw,aQ⟩:=ab
  cases i with
  |zero=>exact aw
  |succ i=>exact dq.get aQ i (by simpa using aa) (by simpa using ad)
theorem c7.snd{B:Nat}{h:J}{v:I}{vs:List I}(hs:c7 B h v vs):I.sound v=true:=by
 rcases hs with⟨rfl,_⟩|⟨b,off,aH,rfl,_⟩<;>rfl
theorem c7.len{B:Nat}{h g:J}{v:I}{vs:List I}{t e:TypeId}(hu:Tryz.prog.underlying t=some (.slice e))(hs:c7 B h v vs):bO Tryz.prog g t v=some (.int .i64 (Int.ofNat vs.length)):=by
 rcases hs with⟨rfl,rfl⟩|⟨b,off,aH,rfl,_⟩
 · simp only[bO,hu];rfl
 · simp only[bO,hu]
theorem dE.sZ{B:Nat}{h:J}{ot:Option a6}{v:I}(aC:dE B h ot v):v=.bm\/∃R,v=.ptr R 0:=by
 cases ot with
 |none=>exact .inl aC
 |some u=>
  cases u with
  |mk k bK aJ eS rt=>obtain⟨r,c5,bZ,_,vs,bV,bk,up,rfl,_⟩:=aC;exact .inr ⟨r,rfl⟩
theorem dE.snd{B:Nat}{h:J}{ot:Option a6}{v:I}(aC:dE B h ot v):I.sound v=true:=by
 rcases aC.sZ with rfl|⟨R,rfl⟩<;>rfl
theorem cW.snd{B:Nat}{h:J}{t:a6}{v:I}(aC:cW B h t v):I.sound v=true:=dE.snd (ot:=some t) aC
theorem QD{p:Prop}(h:p:=by first|with_reducible assumption|rfl|exact c7.snd (by with_reducible assumption)|exact c7.fU (by with_reducible assumption)|exact dE.snd (by with_reducible assumption)|exact dE.fU (by with_reducible assumption)|exact cW.snd (by with_reducible assumption)|exact cW.fU (by with_reducible assumption)):p:=h
noncomputable def bW:Nat->List I->J->Option (I×J):=Dd (pf [⟨12,[],.bool true⟩,⟨139,[.str nH],.aP [.agg (jE oH),.bool true]⟩,⟨139,[.str (nH++[45,47,46])],.aP [.agg (jE ja),.bool true]⟩]) (sV Tryz.prog.globals.size [] [kQ])
noncomputable def Y(n:Nat):aF->List I->J->ao:=fq Tryz.prog bW n
end Go.Proofs.cD
namespace Go.Proofs.cD
open Go aB Go.Proofs df
set_option maxRecDepth 100000
set_option maxHeartbeats 1000000
theorem QE(call:aF->List I->J->ao)(n:Nat)(h:J):
  az Tryz.prog Tryz.f92 none call [] (ah.mk [(0,.bm),(1,.int .i64 (.ofNat n))] [] .none h) (.ret)
   (ah.mk [(4,.int .i64 (.ofNat n))] [] .none h):=
 bh [4] (hs:=[.v (.bool true),.b true,.b true,.b true,.b true]) (by kernel_rfl)<| .cons (by kernel_rfl:ej Tryz.prog h BinOp.eql 47 (Operand.tmp 6) (Operand.const (Value.pointer none)) I.bm I.bm=some (I.bool true))<| .cons (by kernel_rfl:true=true)<| .cons (by kernel_rfl:true=true)<| .cons (by kernel_rfl:true=true)<| .cons (by kernel_rfl:true=true)<| .nil
theorem IT(call:aF->List I->J->ao)(r n:Nat)(h:J):
  az Tryz.prog Tryz.f92 none call [0] (ah.mk [(0,.ptr r 0),(1,.int .i64 (.ofNat n))] [] .none h) (.nrm)
   (ah.mk [(0,.ptr r 0),(1,.int .i64 (.ofNat n))] [] .none h):=
 bh [0,1] (hs:=[]) (by kernel_rfl)<| .nil
theorem QF(call:aF->List I->J->ao)(r n:Nat)(h:J)
  (H1:bD (.ofNat 60) (.ofNat n)=true):
  az Tryz.prog Tryz.f92 none call [1,0] (ah.mk [(0,.ptr r 0),(1,.int .i64 (.ofNat n))] [] .none h) (.ret)
   (ah.mk [(0,.ptr r 0),(1,.int .i64 (.ofNat n)),(4,.int .i64 (.ofNat n))] [] .none h):=
 bh [0,1,4] (hs:=[.v (.bool false),.b false,.b false,.b false,.b true]) (by kernel_rfl)<| .cons (by kernel_rfl:ej Tryz.prog h BinOp.eql 47 (Operand.tmp 6) (Operand.const (Value.pointer none)) (I.ptr r 0) I.bm=some (I.bool false))<| .cons (by kernel_rfl:false=false)<| .cons (by kernel_rfl:false=false)<| .cons (by kernel_rfl:false=false)<| .cons H1<| .nil
theorem QG(call:aF->List I->J->ao)(r n:Nat)(h:J)
  (H1:bD (.ofNat 60) (.ofNat n)=false):
  az Tryz.prog Tryz.f92 none call [1,0] (ah.mk [(0,.ptr r 0),(1,.int .i64 (.ofNat n))] [] .none h) (.nrm)
   (ah.mk [(0,.ptr r 0),(1,.int .i64 (.ofNat n))] [] .none h):=
 bh [0,1,4] (hs:=[.v (.bool false),.b false,.b false,.b false,.b false]) (by kernel_rfl)<| .cons (by kernel_rfl:ej Tryz.prog h BinOp.eql 47 (Operand.tmp 6) (Operand.const (Value.pointer none)) (I.ptr r 0) I.bm=some (I.bool false))<| .cons (by kernel_rfl:false=false)<| .cons (by kernel_rfl:false=false)<| .cons (by kernel_rfl:false=false)<| .cons H1<| .nil
theorem QH(call:aF->List I->J->ao)(r n k:Nat)(h:J)
  (H1:arith .add .i64 (.ofNat n) (.ofNat 1)=some (.int .i64 (.ofNat k))):
  az Tryz.prog Tryz.f92 none call [1,1,0] (ah.mk [(0,.ptr r 0),(1,.int .i64 (.ofNat n))] [] .none h) (.nrm)
   (ah.mk [(0,.ptr r 0),(1,.int .i64 (.ofNat k))] [] .none h):=
 bh [0,1] (hs:=[.v (.int .i64 (.ofNat k))]) (by kernel_rfl)<| .cons H1<| .nil
theorem QI(call:aF->List I->J->ao)(r n:Nat)(h:J):
  az Tryz.prog Tryz.f92 none call [1,1,1,0,0] (ah.mk [(0,.ptr r 0),(1,.int .i64 (.ofNat n))] [] .none h) (.nrm)
   (ah.mk [(0,.ptr r 0),(1,.int .i64 (.ofNat n)),(5,.int .i64 (.ofNat 0))] [] .none h):=
 bh [0,1,5] (hs:=[]) (by kernel_rfl)<| .nil
theorem QJ(call:aF->List I->J->ao)(r n:Nat)(h:J)
  (H1:au h r (0+3)=some .bf):
  az Tryz.prog Tryz.f92 none call [1,1,1,0,1,0,0] (ah.mk [(0,.ptr r 0),(1,.int .i64 (.ofNat n)),(5,.int .i64 (.ofNat 0))] [] .none h) (.exit 0)
   (ah.mk [(0,.ptr r 0),(1,.int .i64 (.ofNat n))] [] .none h):=
 bh [0,1] (hs:=[.v .bf,.b false,.b false,.b false,.b false]) (by kernel_rfl)<| .cons H1<| .cons (by kernel_rfl:bD (Int.ofNat 0) (Int.ofNat 0)=false)<| .cons (by kernel_rfl:bD (Int.ofNat 0) (Int.ofNat 0)=false)<| .cons (by kernel_rfl:bD (Int.ofNat 0) (Int.ofNat 0)=false)<| .cons (by kernel_rfl:false=false)<| .nil
theorem QK(call:aF->List I->J->ao)(r n b off N i q k j:Nat)(aH:ch)(x:I)(h g:J)
  (H1:au h r (0+3)=some (.slice b off N aH))
  (aE:bD (.ofNat i) (.ofNat N)=true)
  (a3:dv (.ofNat n) (.ofNat 60)=true)
  (aX:Nat.le (Nat.succ i) N/\I.ptr b q=I.ptr b (off+i*1))
  (bA:au h b q=some x)
  (b_:call (.fn 92) [x,.int .i64 (.ofNat n)] h=ao.ret (.int .i64 (.ofNat k)) g)
  (cQ:arith .add .i64 (.ofNat i) (.ofNat 1)=some (.int .i64 (.ofNat j))):
  az Tryz.prog Tryz.f92 none call [1,1,1,0,1,0,0] (ah.mk [(0,.ptr r 0),(1,.int .i64 (.ofNat n)),(5,.int .i64 (.ofNat i))] [] .none h) (.nrm)
   (ah.mk [(0,.ptr r 0),(1,.int .i64 (.ofNat k)),(5,.int .i64 (.ofNat j))] [] .none g):=
 bh [0,1,5] (hs:=[.v (.slice b off N aH),.b true,.b true,.b true,.b true,.v (.slice b off N aH),.v (.ptr b q),.v x,.c (.int .i64 (.ofNat k)) g,.v (.int .i64 (.ofNat j))]) (by kernel_rfl)<| .cons H1<| .cons aE<| .cons aE<| .cons aE<| .cons a3<| .cons H1<| .cons aX<| .cons bA<| .cons b_<| .cons cQ<| .nil
theorem QL(call:aF->List I->J->ao)(r n b off N i q k j:Nat)(aH:ch)(x:I)(h g:J)
  (H1:au h r (0+3)=some (.slice b off N aH))
  (aE:bD (.ofNat i) (.ofNat N)=true)
  (a3:dv (.ofNat n) (.ofNat 60)=false):
  az Tryz.prog Tryz.f92 none call [1,1,1,0,1,0,0] (ah.mk [(0,.ptr r 0),(1,.int .i64 (.ofNat n)),(5,.int .i64 (.ofNat i))] [] .none h) (.exit 0)
   (ah.mk [(0,.ptr r 0),(1,.int .i64 (.ofNat n)),(5,.int .i64 (.ofNat i))] [] .none h):=
 bh [0,1,5] (hs:=[.v (.slice b off N aH),.b true,.b true,.b true,.b false]) (by kernel_rfl)<| .cons H1<| .cons aE<| .cons aE<| .cons aE<| .cons a3<| .nil
theorem QM(call:aF->List I->J->ao)(r n b off N i q k j:Nat)(aH:ch)(x:I)(h g:J)
  (H1:au h r (0+3)=some (.slice b off N aH))
  (aE:bD (.ofNat i) (.ofNat N)=false):
  az Tryz.prog Tryz.f92 none call [1,1,1,0,1,0,0] (ah.mk [(0,.ptr r 0),(1,.int .i64 (.ofNat n)),(5,.int .i64 (.ofNat i))] [] .none h) (.exit 0)
   (ah.mk [(0,.ptr r 0),(1,.int .i64 (.ofNat n)),(5,.int .i64 (.ofNat i))] [] .none h):=
 bh [0,1,5] (hs:=[.v (.slice b off N aH),.b false,.b false,.b false,.b false]) (by kernel_rfl)<| .cons H1<| .cons aE<| .cons aE<| .cons aE<| .cons (by kernel_rfl:false=false)<| .nil
theorem QN(call:aF->List I->J->ao)(r n k:Nat)(x:I)(h g:J)
  (H1:au h r (0+4)=some x)
  (aE:call (.fn 92) [x,.int .i64 (.ofNat n)] h=ao.ret (.int .i64 (.ofNat k)) g):
  az Tryz.prog Tryz.f92 none call [1,1,1,1] (ah.mk [(0,.ptr r 0),(1,.int .i64 (.ofNat n))] [] .none h) (.ret)
   (ah.mk [(4,.int .i64 (.ofNat k))] [] .none g):=
 bh [4] (hs:=[.v x,.c (.int .i64 (.ofNat k)) g]) (by kernel_rfl)<| .cons H1<| .cons aE<| .nil
theorem IU(call:aF->List I->J->ao)(k:Nat)(x:I)(h g:J)
  (H1:call (.fn 92) [x,.int .i64 (.ofNat 0)] h=ao.ret (.int .i64 (.ofNat k)) g):
  az Tryz.prog Tryz.f79 none call [] (ah.mk [(0,x)] [] .none h) (.ret)
   (ah.mk [(2,.int .i64 (.ofNat k))] [] .none g):=
 bh [2] (hs:=[.c (.int .i64 (.ofNat k)) g]) (by kernel_rfl)<| .cons H1<| .nil
theorem IV{B:Nat}{h:J}{xs:List a6}{vs:List I}(call:aF->List I->J->ao)(r b off:Nat)(aH:ch)(aC:au h r (0+3)=some (.slice b off vs.length aH))(ab:dq B h xs vs)(aq:∀i (ae:i<vs.length),au h b (off+i*1)=some vs[i])(hlen:vs.length<=1000000)
  (bd:∀i (aa:i<vs.length) (ad:i<xs.length) n,n<=61->call (.fn 92) [vs[i],.int .i64 (Int.ofNat n)] h=.ret (.int .i64 (Int.ofNat (min (n+sz xs[i]) 61))) h):∀(k i n:Nat),vs.length-i=k->i<=vs.length->n<=61->
  ef Tryz.prog Tryz.f92 none call [1,1,1,0,1,0] (k+1) ⟨[(0,.ptr r 0),(1,.int .i64 (Int.ofNat n)),(5,.int .i64 (Int.ofNat i))],[],.none,h⟩ (.exit 0) ⟨[(0,.ptr r 0),(1,.int .i64 (Int.ofNat (min (n+eZ (xs.drop i)) 61)))],[],.none,h⟩
 |0,i,n,av,ae,aI=>by
  have gM:=dq.len ab
  obtain rfl:i=vs.length:=by omega
  rw[List.drop_of_length_le (by omega)]
  have e:min (n+eZ []) 61=n:=by show min (n+0) 61=n;omega
  rw[e]
  exact .exit (cC.post (QM call r n b off vs.length _ 0 0 0 aH .bm h h aC (eg (by omega))) ⟨rfl,rfl,trivial⟩) (by simp)
 |k+1,i,n,av,ae,aI=>by
  have gM:=dq.len ab
  have aa:i<vs.length:=by omega
  have ad:i<xs.length:=by omega
  rw[List.drop_eq_getElem_cons ad]
  by_cases nJ:n<=60
  · have st:=QK call r n b off vs.length i (off+i*1) (min (n+sz xs[i]) 61) (i+1) aH vs[i] h h aC (dx aa) (iD (by omega)) ⟨aa,rfl⟩ (aq i aa) (bd i aa ad n aI) (jz aa (by omega))
    have e:min (n+eZ (xs[i]::xs.drop (i+1))) 61=min (min (n+sz xs[i]) 61+eZ (xs.drop (i+1))) 61:=by
     show min (n+(sz xs[i]+eZ (xs.drop (i+1)))) 61=_
     omega
    rw[e]
    exact .step st (IV call r b off aH aC ab aq hlen bd k (i+1) _ (by omega) (by omega) (by omega))
  · have e:min (n+eZ (xs[i]::xs.drop (i+1))) 61=n:=by omega
    rw[e]
    exact .exit (cC.post (QL call r n b off vs.length i 0 0 0 aH .bm h h aC (dx aa) (jA (by omega))) ⟨rfl,rfl,trivial⟩) (by simp)
theorem IW(m n:Nat)(h:J):Y (m+1) (.fn 92) [.bm,.int .i64 (Int.ofNat n)] h=.ret (.int .i64 (Int.ofNat n)) h:=
 ed (intr:=bW) (n:=m) (args:=[.bm,.int .i64 (Int.ofNat n)]) Tryz.func92 (by kernel_rfl) rfl (by kernel_rfl) (QE (Y m) n h) (.inl rfl) (by kernel_rfl)
theorem Dp:∀(N:Nat) (t:a6),sz t<=N->sz t<=90000->∀(B:Nat) (h:J) (v:I) (m n:Nat),sz t<m->n<=61->cW B h t v->Y m (.fn 92) [v,.int .i64 (Int.ofNat n)] h=.ret (.int .i64 (Int.ofNat (min (n+sz t) 61))) h
 |0,t,gn,_,_,_,_,_,_,_,_,_=>by have:=py t;omega
 |N+1,.mk k bK aJ xs rt,gn,tR,B,h,v,m,n,hm,aI,aC=>by
  obtain⟨r,c5,bZ,cG,vs,bV,bk,up,rfl,ad,aw,aQ,bS,dm,eG⟩:=aC
  have hs:sz (.mk k bK aJ xs rt)=1+eZ xs+ei rt:=by unfold sz;rfl
  rw[hs] at gn hm tR⊢
  obtain⟨m,rfl⟩:∃j,m=j+1:=⟨m-1,by omega⟩
  have gM:=dq.len dm
  have jS:=pz xs
  by_cases nJ:n<=60
  · have hb:=IT (Y m) r n h
    have s1:=QG (Y m) r n h (eg (by omega))
    have s2:=QH (Y m) r n (n+1) h (jz (m:=100000) (by omega) (by decide))
    have bq:=QI (Y m) r (n+1) h
    have bd:∀i (aa:i<vs.length) (ad:i<xs.length) n,n<=61->Y m (.fn 92) [vs[i],.int .i64 (Int.ofNat n)] h=.ret (.int .i64 (Int.ofNat (min (n+sz xs[i]) 61))) h:=λi aa ad n aI=>by
     have mN:=kR (List.getElem_mem ad)
     exact Dp N xs[i] (by omega) (by omega) B h vs[i] m n (by omega) aI (dq.get dm i aa ad)
    have fA:au h r (0+3)=some bZ:=aL aw rfl
    have loop:az Tryz.prog Tryz.f92 none (Y m) [1,1,1,0,1,0] ⟨[(0,.ptr r 0),(1,.int .i64 (Int.ofNat (n+1))),(5,.int .i64 (Int.ofNat 0))],[],.none,h⟩ (.exit 0) ⟨[(0,.ptr r 0),(1,.int .i64 (Int.ofNat (min (n+1+eZ xs) 61)))],[],.none,h⟩:=by
     rcases bS with⟨rfl,rfl⟩|⟨b,off,aH,rfl,af,aq,_⟩
     · have jV:xs=[]:=List.eq_nil_of_length_eq_zero (by simpa using gM.symm)
       subst jV
       have e:min (n+1+eZ []) 61=n+1:=by show min (n+1+0) 61=n+1;omega
       rw[e]
       exact ef.run (p:=[1,1,1,0,1,0]) (n:=1) (by kernel_rfl) (.exit (QJ (Y m) r (n+1) h fA) (by simp)) (by omega)
     · have:=IV (Y m) r b off aH fA dm aq (by omega) bd vs.length 0 (n+1) (by omega) (by omega) (by omega)
       rw[List.drop_zero] at this
       exact ef.run (p:=[1,1,1,0,1,0]) (by kernel_rfl) this (by omega)
    have QO:=az.block (p:=[1,1,1,0,1]) (id:=0) (by kernel_rfl) loop
    have v9:Y m (.fn 92) [cG,.int .i64 (Int.ofNat (min (n+1+eZ xs) 61))] h=.ret (.int .i64 (Int.ofNat (min (n+(1+eZ xs+ei rt)) 61))) h:=by
     cases rt with
     |none=>
      have e:cG=.bm:=eG
      subst e
      obtain⟨m,rfl⟩:∃j,m=j+1:=⟨m-1,by omega⟩
      have e:min (n+(1+eZ xs+ei none)) 61=min (n+1+eZ xs) 61:=by show min (n+(1+eZ xs+0)) 61=_;omega
      rw[e]
      exact IW m _ h
     |some u=>
      have eU:ei (some u)=sz u:=by unfold ei;rfl
      rw[eU] at gn hm tR⊢
      rw[Dp N u (by omega) (by omega) B h cG m _ (by omega) (by omega) eG]
      congr 3
      omega
    have bL:=QN (Y m) r (min (n+1+eZ xs) 61) (min (n+(1+eZ xs+ei rt)) 61) cG h h (aL aw rfl) v9
    exact ed (intr:=bW) (n:=m) (args:=[.ptr r 0,.int .i64 (Int.ofNat n)]) Tryz.func92 (by kernel_rfl) rfl (by kernel_rfl) (az.seq (p:=[]) (by kernel_rfl) hb (az.seq (p:=[1]) (by kernel_rfl) s1 (az.seq (p:=[1,1]) (by kernel_rfl) s2 (az.seq (p:=[1,1,1]) (by kernel_rfl) (az.seq (p:=[1,1,1,0]) (by kernel_rfl) bq QO) bL)))) (.inl rfl) (by kernel_rfl)
  · have hb:=IT (Y m) r n h
    have e:min (n+(1+eZ xs+ei rt)) 61=n:=by omega
    rw[e]
    have s1:=QF (Y m) r n h (dx (by omega))
    exact ed (intr:=bW) (n:=m) (args:=[.ptr r 0,.int .i64 (Int.ofNat n)]) Tryz.func92 (by kernel_rfl) rfl (by kernel_rfl) (az.seq (p:=[]) (by kernel_rfl) hb (az.h4 (p:=[1]) (by kernel_rfl) s1 (by simp))) (.inl rfl) (by kernel_rfl)
theorem QP{t:a6}{B:Nat}{h:J}{v:I}{m:Nat}(af:sz t<=90000)(hm:sz t<m)(aC:cW B h t v):Y (m+1) (.fn 79) [v] h=.ret (.int .i64 (Int.ofNat (min (sz t) 61))) h:=by
 have e:=Dp (sz t) t (Nat.le_refl _) af B h v m 0 hm (by decide) aC
 rw[Nat.zero_add] at e
 exact ed (intr:=bW) (n:=m) (args:=[v]) Tryz.func79 (by kernel_rfl) rfl (by kernel_rfl) (IU (Y m) _ v h h e) (.inl rfl) (by kernel_rfl)
end Go.Proofs.cD
namespace Go.Proofs.cD
open Go aB Go.Proofs df
set_option maxRecDepth 100000
set_option maxHeartbeats 1000000
theorem QQ(call:aF->List I->J->ao)(v:I)(h:J):
  az Tryz.prog Tryz.f70 none call [0] (ah.mk [(0,v)] [] .none h) (.nrm)
   (ah.mk [(0,v)] [] .none h):=
 bh [0] (hs:=[]) (by kernel_rfl)<| .nil
theorem QR(call:aF->List I->J->ao)(v:I)(h g:J)
  (H1:aB.storeCells (J.push h (.cells [.int .i64 (.ofNat 0)] 3 .own 0 0)) (J.n h) 0 [.int .i64 (.ofNat 0)]=some g):
  az Tryz.prog Tryz.f70 none call [1,0] (ah.mk [(0,v)] [] .none h) (.nrm)
   (ah.mk [(0,v),(3,.ptr (J.n h) 0)] [] .none g):=
 bh [0,3] (hs:=[.h3 (.aP []) g]) (by kernel_rfl)<| .cons (⟨by kernel_rfl,H1,rfl⟩:some 1=some 1/\aB.storeCells (J.push h (cp.cells [I.int IntKind.i64 (Int.ofNat 0)] 3 ey.own 0 0)) (J.n h) 0 [I.int IntKind.i64 (Int.ofNat 0)]=some g/\I.aP []=I.aP [])<| .nil
theorem QS(call:aF->List I->J->ao)(v w:I)(a:Nat)(h g:J)
  (H1:call (.fn 86) [v] h=ao.ret w g):
  az Tryz.prog Tryz.f70 none call [1,1,0,0] (ah.mk [(0,v),(3,.ptr a 0)] [] .none h) (.nrm)
   (ah.mk [(3,.ptr a 0),(5,w)] [] .none g):=
 bh [3,5] (hs:=[.c w g]) (by kernel_rfl)<| .cons H1<| .nil
theorem QT(call:aF->List I->J->ao)(l a i j:Nat)(h g:J)
  (H1:au h a 0=some (.int .i64 (.ofNat i)))
  (aE:arith .add .i64 (.ofNat i) (.ofNat 1)=some (.int .i64 (.ofNat j)))
  (a3:aB.storeCells h a 0 [.int .i64 (.ofNat j)]=some g)
  (aX:au g a 0=some (.int .i64 (.ofNat j)))
  (bA:bD (.ofNat 60) (.ofNat j)=true):
  az Tryz.prog Tryz.f70 (some l) call [1,1,0,1,0,1] (ah.mk [(3,.ptr a 0)] [] .none h) (.exit 0)
   (ah.mk [(3,.ptr a 0)] [] .none g):=
 bh [3] (hs:=[.v (.int .i64 (.ofNat i)),.v (.int .i64 (.ofNat j)),.h3 (.aP []) g,.v (.int .i64 (.ofNat j)),.b true]) (by kernel_rfl)<| .cons H1<| .cons aE<| .cons (⟨by kernel_rfl,a3,rfl⟩:some 1=some 1/\aB.storeCells h a 0 [I.int IntKind.i64 (Int.ofNat j)]=some g/\I.aP []=I.aP [])<| .cons aX<| .cons bA<| .nil
theorem QU(call:aF->List I->J->ao)(l a i j:Nat)(h g:J)
  (H1:au h a 0=some (.int .i64 (.ofNat i)))
  (aE:arith .add .i64 (.ofNat i) (.ofNat 1)=some (.int .i64 (.ofNat j)))
  (a3:aB.storeCells h a 0 [.int .i64 (.ofNat j)]=some g)
  (aX:au g a 0=some (.int .i64 (.ofNat j)))
  (bA:bD (.ofNat 60) (.ofNat j)=false):
  az Tryz.prog Tryz.f70 (some l) call [1,1,0,1,0,1] (ah.mk [(3,.ptr a 0)] [] .none h) (.nrm)
   (ah.mk [(3,.ptr a 0)] [] .none g):=
 bh [3] (hs:=[.v (.int .i64 (.ofNat i)),.v (.int .i64 (.ofNat j)),.h3 (.aP []) g,.v (.int .i64 (.ofNat j)),.b false]) (by kernel_rfl)<| .cons H1<| .cons aE<| .cons (⟨by kernel_rfl,a3,rfl⟩:some 1=some 1/\aB.storeCells h a 0 [I.int IntKind.i64 (Int.ofNat j)]=some g/\I.aP []=I.aP [])<| .cons aX<| .cons bA<| .nil
theorem QV(call:aF->List I->J->ao)(a j dR:Nat)(h:J)
  (H1:au h a 0=some (.int .i64 (.ofNat j))):
  az Tryz.prog Tryz.f70 none call [1,1,1] (ah.mk [(3,.ptr a 0)] [.collected dR] .none h) (.ret)
   (ah.mk [(2,.int .i64 (.ofNat j))] [.collected dR] .none h):=
 bh [2] (hs:=[.v (.int .i64 (.ofNat j))]) (by kernel_rfl)<| .cons H1<| .nil
theorem QW(call:aF->List I->J->ao)(r:Nat)(h:J):
  az Tryz.prog Tryz.f86 none call [] (ah.mk [(0,.ptr r 0)] [] .none h) (.ret)
   (ah.mk [(2,.fn 99 [] [.ptr (J.n h) 0])] [] .none (J.push h (.cells [.ptr r 0] 47 .own 0 0))):=
 bh [2] (hs:=[]) (by kernel_rfl)<| .nil
theorem QX(call:aF->List I->J->ao)(h:J):
  az Tryz.prog Tryz.f86 none call [] (ah.mk [(0,.bm)] [] .none h) (.ret)
   (ah.mk [(2,.fn 99 [] [.ptr (J.n h) 0])] [] .none (J.push h (.cells [.bm] 47 .own 0 0))):=
 bh [2] (hs:=[]) (by kernel_rfl)<| .nil
theorem QY(call:aF->List I->J->ao)(l a:Nat)(v w:I)(h aa ad:J)
  (H1:aB.storeCells (J.push (J.push h (.cells [.b8 l] 139 .own 0 0)) (.cells [.e4] 139 .own 0 0)) (J.n (J.push h (.cells [.b8 l] 139 .own 0 0))) 0 [.fn 100 [] [.ptr (J.n h) 0,.ptr (J.n (J.push h (.cells [.b8 l] 139 .own 0 0))) 0]]=some aa)
  (aE:au aa (J.n (J.push h (.cells [.b8 l] 139 .own 0 0))) 0=some (.fn 100 [] [.ptr (J.n h) 0,.ptr (J.n h+1) 0]))
  (a3:au aa a 0=some v)
  (aX:call (.fn 100) [v,.ptr (J.n h) 0,.ptr (J.n h+1) 0] aa=ao.ret w ad):
  az Tryz.prog Tryz.f99 none call [] (ah.mk [(0,.b8 l),(1,.ptr a 0)] [] .none h) (.nrm)
   (ah.mk [] [] .none ad):=
 bh [] (hs:=[.h3 (.aP []) aa,.v (.fn 100 [] [.ptr (J.n h) 0,.ptr (J.n h+1) 0]),.v v,.c w ad]) (by kernel_rfl)<| .cons (⟨by kernel_rfl,H1,rfl⟩:some 1=some 1/\aB.storeCells (J.push (J.push h (cp.cells [I.b8 l] 139 ey.own 0 0)) (cp.cells [I.e4] 139 ey.own 0 0)) (J.n (J.push h (cp.cells [I.b8 l] 139 ey.own 0 0))) 0 [I.fn 100 [] [I.ptr (J.n h) 0,I.ptr (J.n (J.push h (cp.cells [I.b8 l] 139 ey.own 0 0))) 0]]=some aa/\I.aP []=I.aP [])<| .cons aE<| .cons a3<| .cons aX<| .nil
theorem QZ(call:aF->List I->J->ao)(y z:Nat)(h:J):
  az Tryz.prog Tryz.f100 none call [] (ah.mk [(0,.bm),(1,.ptr y 0),(2,.ptr z 0)] [] .none h) (.ret)
   (ah.mk [(4,.bool true)] [] .none h):=
 bh [4] (hs:=[.v (.bool true),.b true]) (by kernel_rfl)<| .cons (by kernel_rfl:ej Tryz.prog h BinOp.eql 47 (Operand.tmp 7) (Operand.const (Value.pointer none)) I.bm I.bm=some (I.bool true))<| .cons (by kernel_rfl:true=true)<| .nil
theorem Q0(call:aF->List I->J->ao)(r y z:Nat)(h:J):
  az Tryz.prog Tryz.f100 none call [0] (ah.mk [(0,.ptr r 0),(1,.ptr y 0),(2,.ptr z 0)] [] .none h) (.nrm)
   (ah.mk [(0,.ptr r 0),(1,.ptr y 0),(2,.ptr z 0)] [] .none h):=
 bh [0,1,2] (hs:=[]) (by kernel_rfl)<| .nil
theorem Q1(call:aF->List I->J->ao)(r y z:Nat)(h:J):
  az Tryz.prog Tryz.f100 none call [1,0] (ah.mk [(0,.ptr r 0),(1,.ptr y 0),(2,.ptr z 0)] [] .none h) (.nrm)
   (ah.mk [(0,.ptr r 0),(1,.ptr y 0),(2,.ptr z 0)] [] .none h):=
 bh [0,1,2] (hs:=[.v (.bool false),.b false]) (by kernel_rfl)<| .cons (by kernel_rfl:ej Tryz.prog h BinOp.eql 47 (Operand.tmp 7) (Operand.const (Value.pointer none)) (I.ptr r 0) I.bm=some (I.bool false))<| .cons (by kernel_rfl:false=false)<| .nil
theorem Q2(call:aF->List I->J->ao)(r y z l:Nat)(h g:J)
  (H1:au h y 0=some (.b8 l))
  (aE:call (.b8 l) [.ptr r 0] h=ao.ret (.bool true) g):
  az Tryz.prog Tryz.f100 none call [1,1,0] (ah.mk [(0,.ptr r 0),(1,.ptr y 0),(2,.ptr z 0)] [] .none h) (.nrm)
   (ah.mk [(0,.ptr r 0),(1,.ptr y 0),(2,.ptr z 0)] [] .none g):=
 bh [0,1,2] (hs:=[.v (.b8 l),.c (.bool true) g,.b false]) (by kernel_rfl)<| .cons H1<| .cons aE<| .cons (by kernel_rfl:(!true)=false)<| .nil
theorem Q3(call:aF->List I->J->ao)(r y z l:Nat)(h g:J)
  (H1:au h y 0=some (.b8 l))
  (aE:call (.b8 l) [.ptr r 0] h=ao.ret (.bool false) g):
  az Tryz.prog Tryz.f100 none call [1,1,0] (ah.mk [(0,.ptr r 0),(1,.ptr y 0),(2,.ptr z 0)] [] .none h) (.ret)
   (ah.mk [(4,.bool false)] [] .none g):=
 bh [4] (hs:=[.v (.b8 l),.c (.bool false) g,.b true]) (by kernel_rfl)<| .cons H1<| .cons aE<| .cons (by kernel_rfl:(!false)=true)<| .nil
theorem Q4(call:aF->List I->J->ao)(r y z b off N:Nat)(aH:ch)(h:J)
  (H1:au h r (0+3)=some (.slice b off N aH)):
  az Tryz.prog Tryz.f100 none call [1,1,1,0,0] (ah.mk [(0,.ptr r 0),(1,.ptr y 0),(2,.ptr z 0)] [] .none h) (.nrm)
   (ah.mk [(0,.ptr r 0),(1,.ptr y 0),(2,.ptr z 0),(16,.slice b off N aH),(17,.int .i64 (.ofNat N)),(18,.int .i64 (.ofNat 0))] [] .none h):=
 bh [0,1,2,16,17,18] (hs:=[.v (.slice b off N aH)]) (by kernel_rfl)<| .cons H1<| .nil
theorem Q5(call:aF->List I->J->ao)(r y z:Nat)(h:J)
  (H1:au h r (0+3)=some .bf):
  az Tryz.prog Tryz.f100 none call [1,1,1,0,0] (ah.mk [(0,.ptr r 0),(1,.ptr y 0),(2,.ptr z 0)] [] .none h) (.nrm)
   (ah.mk [(0,.ptr r 0),(1,.ptr y 0),(2,.ptr z 0),(16,.bf),(17,.int .i64 (.ofNat 0)),(18,.int .i64 (.ofNat 0))] [] .none h):=
 bh [0,1,2,16,17,18] (hs:=[.v .bf]) (by kernel_rfl)<| .cons H1<| .nil
theorem IX(call:aF->List I->J->ao)(r y z N i:Nat)(v:I)(h:J)
  (H1:bD (.ofNat i) (.ofNat N)=false):
  az Tryz.prog Tryz.f100 none call [1,1,1,0,1,0,0] (ah.mk [(0,.ptr r 0),(1,.ptr y 0),(2,.ptr z 0),(16,v),(17,.int .i64 (.ofNat N)),(18,.int .i64 (.ofNat i))] [] .none h) (.exit 0)
   (ah.mk [(0,.ptr r 0),(1,.ptr y 0),(2,.ptr z 0)] [] .none h):=
 bh [0,1,2] (hs:=[.b false]) (by kernel_rfl)<| .cons H1<| .nil
theorem Q6(call:aF->List I->J->ao)(r y z b off N i q j:Nat)(aH:ch)(x:I)(h g:J)
  (H1:bD (.ofNat i) (.ofNat N)=true)
  (aE:Nat.le (Nat.succ i) N/\I.ptr b q=I.ptr b (off+i*1))
  (a3:au h b q=some x)
  (aX:au h z 0=some (.fn 100 [] [.ptr y 0,.ptr z 0]))
  (bA:call (.fn 100) [x,.ptr y 0,.ptr z 0] h=ao.ret (.bool true) g)
  (b_:arith .add .i64 (.ofNat i) (.ofNat 1)=some (.int .i64 (.ofNat j))):
  az Tryz.prog Tryz.f100 none call [1,1,1,0,1,0,0] (ah.mk [(0,.ptr r 0),(1,.ptr y 0),(2,.ptr z 0),(16,.slice b off N aH),(17,.int .i64 (.ofNat N)),(18,.int .i64 (.ofNat i))] [] .none h) (.nrm)
   (ah.mk [(0,.ptr r 0),(1,.ptr y 0),(2,.ptr z 0),(16,.slice b off N aH),(17,.int .i64 (.ofNat N)),(18,.int .i64 (.ofNat j))] [] .none g):=
 bh [0,1,2,16,17,18] (hs:=[.b true,.v (.ptr b q),.v x,.v (.fn 100 [] [.ptr y 0,.ptr z 0]),.c (.bool true) g,.b false,.v (.int .i64 (.ofNat j))]) (by kernel_rfl)<| .cons H1<| .cons aE<| .cons a3<| .cons aX<| .cons bA<| .cons (by kernel_rfl:(!true)=false)<| .cons b_<| .nil
theorem Q7(call:aF->List I->J->ao)(r y z b off N i q:Nat)(aH:ch)(x:I)(h g:J)
  (H1:bD (.ofNat i) (.ofNat N)=true)
  (aE:Nat.le (Nat.succ i) N/\I.ptr b q=I.ptr b (off+i*1))
  (a3:au h b q=some x)
  (aX:au h z 0=some (.fn 100 [] [.ptr y 0,.ptr z 0]))
  (bA:call (.fn 100) [x,.ptr y 0,.ptr z 0] h=ao.ret (.bool false) g):
  az Tryz.prog Tryz.f100 none call [1,1,1,0,1,0,0] (ah.mk [(0,.ptr r 0),(1,.ptr y 0),(2,.ptr z 0),(16,.slice b off N aH),(17,.int .i64 (.ofNat N)),(18,.int .i64 (.ofNat i))] [] .none h) (.ret)
   (ah.mk [(4,.bool false)] [] .none g):=
 bh [4] (hs:=[.b true,.v (.ptr b q),.v x,.v (.fn 100 [] [.ptr y 0,.ptr z 0]),.c (.bool false) g,.b true]) (by kernel_rfl)<| .cons H1<| .cons aE<| .cons a3<| .cons aX<| .cons bA<| .cons (by kernel_rfl:(!false)=true)<| .nil
theorem Q8(call:aF->List I->J->ao)(r y z:Nat)(x v:I)(h g:J)
  (H1:au (J.room h 7) z 0=some (.fn 100 [] [.ptr y 0,.ptr z 0]))
  (aE:au (J.room h 7) r (0+4)=some x)
  (a3:call (.fn 100) [x,.ptr y 0,.ptr z 0] (J.room h 7)=ao.ret v g)
  (aX:I.sound x=true:=by first|with_reducible assumption|rfl|exact c7.snd (by with_reducible assumption)|exact c7.fU (by with_reducible assumption)|exact dE.snd (by with_reducible assumption)|exact dE.fU (by with_reducible assumption)|exact cW.snd (by with_reducible assumption)|exact cW.fU (by with_reducible assumption))
  (bA:I.sound v=true:=by first|with_reducible assumption|rfl|exact c7.snd (by with_reducible assumption)|exact c7.fU (by with_reducible assumption)|exact dE.snd (by with_reducible assumption)|exact dE.fU (by with_reducible assumption)|exact cW.snd (by with_reducible assumption)|exact cW.fU (by with_reducible assumption)):
  az Tryz.prog Tryz.f100 none call [1,1,1,1] (ah.mk [(0,.ptr r 0),(1,.ptr y 0),(2,.ptr z 0)] [] .none h) (.ret)
   (ah.mk [(4,v)] [] .none g):=
 bh [4] (hs:=[.v (.fn 100 [] [.ptr y 0,.ptr z 0]),.v x,.c v g]) (by kernel_rfl)<| .cons H1<| .cons aE<| .cons a3<| .cons (by kernel_rfl:I.sound (I.fn 100 [] [I.ptr y 0,I.ptr z 0])=true)<| .cons H1<| .cons (by kernel_rfl:I.sound (I.ptr r 0)=true)<| .cons (by kernel_rfl:I.ptr r 0=I.ptr r 0)<| .cons (by kernel_rfl:I.sound (I.ptr r 0)=true)<| .cons (by kernel_rfl:I.ptr r 0=I.ptr r 0)<| .cons (by kernel_rfl:I.sound (I.ptr r (0+4))=true)<| .cons (by kernel_rfl:I.ptr r (0+4)=I.ptr r (0+4))<| .cons aX<| .cons aE<| .cons bA<| .cons (by kernel_rfl:v=v)<| .nil
noncomputable def Dq:Code:=sub (fF Tryz.f70) [1,1,0,1,0,0]
noncomputable def Q9:Code:=sub (fF Tryz.f70) [1,1,0,1,0,1]
theorem Q_:Dq=.skip:=by kernel_rfl
noncomputable abbrev uF(s:LoopState)(p:Option Code)(r:aR)(N:Nat):cp:=.loop s p (dM Tryz.f70) r [6] Dq Q9 (N+2)
structure pB(N:Nat)(h:J)(r:aR)(c:Nat)(x:J):Prop where
 w4:x.get N=some (.cells [.int .i64 (Int.ofNat c)] 3 .own 0 0)
 jn:x.get (N+2)=some (.defrd (some []))
 pC:x.get (N+3)=some (uF .ready none r N)
 b8:x.get (N+4)=some (.cells [.b8 (N+3)] 139 .own 0 0)
 uG:x.get (N+5)=some (.cells [.fn 100 [] [.ptr (N+4) 0,.ptr (N+5) 0]] 139 .own 0 0)
 ext:Ext N h x
structure IY(N:Nat)(h:J)(r:aR)(x:J):Prop where
 w4:x.get N=some (.cells [.int .i64 (Int.ofNat 61)] 3 .own 0 0)
 jn:x.get (N+2)=some (.defrd (some []))
 pC:x.get (N+3)=some (uF .done (some (.exit 0)) r N)
 ext:Ext N h x
theorem pB.room{N:Nat}{h:J}{r:aR}{c:Nat}{x:J}(ae:pB N h r c x)(k:Nat):pB N h r c (x.room k):=⟨ae.w4,ae.jn,ae.pC,ae.b8,ae.uG,ae.ext.il⟩
theorem Ra(m:Nat){N:Nat}{h:J}{r:aR}{c:Nat}{x:J}(ai:aB.Mod r [(3,.ptr N 0)])(ae:pB N h r c x)(ag:c<=60)(v:I):
  ∃b y,Y (m+1) (.b8 (N+3)) [v] x=.ret (.bool b) y/\((b=true/\c+1<=60/\pB N h r (c+1) y)\/(b=false/\60<c+1/\IY N h r y)):=by
 have a2:Y (m+1) (.b8 (N+3)) [v] x=n4 Tryz.prog (Y m) (N+3) [v] x:=rfl
 rw[a2]
 have ba:∀q,cC Tryz.prog (dM Tryz.f70) (some (N+3)) (Y m) Dq ⟨put 6 v [(3,.ptr N 0)],[],q,x⟩ .nrm ⟨[(3,.ptr N 0)],[],q,x⟩:=λq r' hm=>by
  rw[Q_]
  exact⟨r',rfl,hm.sub ⟨rfl,trivial⟩⟩
 have eW:(x.set (N+3) (some (uF .busy none r N))).get N=some (.cells [.int .i64 (Int.ofNat c)] 3 .own 0 0):=by
  rw[J.b2,if_neg (by omega)];exact ae.w4
 by_cases nJ:c+1<=60
 · have af:=QU (Y m) (N+3) N c (c+1) _ _ (lp eW) (jz (m:=100) (by omega) (by decide)) (zm (y:=.int .i64 (Int.ofNat (c+1))) rfl eW) (lp (t:=3) (by rw[J.b2,if_pos rfl])) (eg (by omega))
   have e:=HH ae.pC ai (ba _) af (by rw[J.b2,if_neg (by omega),J.b2,if_pos rfl])
   rw[e]
   refine⟨true,_,rfl,.inl ⟨rfl,nJ,?_,?_,?_,?_,?_,?_⟩⟩
   · simp only[J.b2];rw[if_neg (by omega),if_pos trivial]
   · simp only[J.b2];rw[if_neg (by omega),if_neg (by omega),if_neg (by omega)];exact ae.jn
   · simp only[J.b2];rw[if_pos trivial]
   · simp only[J.b2];rw[if_neg (by omega),if_neg (by omega),if_neg (by omega)];exact ae.b8
   · simp only[J.b2];rw[if_neg (by omega),if_neg (by omega),if_neg (by omega)];exact ae.uG
   · exact((ae.ext.hg (by omega)).hg (by omega)).hg (by omega)
 · have af:=QT (Y m) (N+3) N c (c+1) _ _ (lp eW) (jz (m:=100) (by omega) (by decide)) (zm (y:=.int .i64 (Int.ofNat (c+1))) rfl eW) (lp (t:=3) (by rw[J.b2,if_pos rfl])) (dx (by omega))
   have e:=HH ae.pC ai (ba _) af (by rw[J.b2,if_neg (by omega),J.b2,if_pos rfl])
   rw[e]
   have vU:c+1=61:=by omega
   refine⟨false,_,rfl,.inr ⟨rfl,by omega,?_,?_,?_,?_⟩⟩
   · simp only[J.b2];rw[if_neg (by omega),if_pos trivial,vU]
   · simp only[J.b2];rw[if_neg (by omega),if_neg (by omega),if_neg (by omega)];exact ae.jn
   · simp only[J.b2];rw[if_pos trivial]
   · exact((ae.ext.hg (by omega)).hg (by omega)).hg (by omega)
def s0(N:Nat)(h:J)(r:aR)(c s:Nat)(b:Bool)(y:J):Prop:=(b=true/\c+s<=60/\pB N h r (c+s) y)\/(b=false/\60<c+s/\IY N h r y)
def Dr(m:Nat)(N:Nat)(h:J)(r:aR)(B:Nat)(ot:Option a6):Prop:=∀(v:I) (c:Nat) (x:J),c<=60->dE B h ot v->pB N h r c x->∃b y,Y m (.fn 100) [v,.ptr (N+4) 0,.ptr (N+5) 0] x=.ret (.bool b) y/\s0 N h r c (ei ot) b y
theorem IZ{m N B R b off:Nat}{h:J}{r:aR}{xs:List a6}{vs:List I}(aH:ch)(bI:B<=N)(af:b<B)(ab:dq B h xs vs)(aq:∀i (ae:i<vs.length),au h b (off+i*1)=some vs[i])(hlen:vs.length<=1000000)
  (bd:∀i (ad:i<xs.length),Dr m N h r B (some xs[i])):∀(k i c:Nat) (x:J),vs.length-i=k->i<=vs.length->c<=60->pB N h r c x->
  ∃e Γ y,ef Tryz.prog Tryz.f100 none (Y m) [1,1,1,0,1,0] (k+1) ⟨[(0,.ptr R 0),(1,.ptr (N+4) 0),(2,.ptr (N+5) 0),(16,.slice b off vs.length aH),(17,.int .i64 (Int.ofNat vs.length)),(18,.int .i64 (Int.ofNat i))],[],.none,x⟩ e ⟨Γ,[],.none,y⟩/\
   ((e=.exit 0/\Γ=[(0,.ptr R 0),(1,.ptr (N+4) 0),(2,.ptr (N+5) 0)]/\s0 N h r c (eZ (xs.drop i)) true y)\/(e=.ret/\Γ=[(4,.bool false)]/\s0 N h r c (eZ (xs.drop i)) false y))
 |0,i,c,x,av,ae,ag,m2=>by
  have gM:=dq.len ab
  obtain rfl:i=vs.length:=by omega
  rw[List.drop_of_length_le (by omega)]
  exact⟨_,_,_,.exit (IX (Y m) R (N+4) (N+5) _ _ _ x (eg (by omega))) (by simp),.inl ⟨rfl,rfl,.inl ⟨rfl,ag,m2⟩⟩⟩
 |k+1,i,c,x,av,ae,ag,m2=>by
  have gM:=dq.len ab
  have aa:i<vs.length:=by omega
  have ad:i<xs.length:=by omega
  have aA:eZ (xs.drop i)=sz xs[i]+eZ (xs.drop (i+1)):=by
   rw[List.drop_eq_getElem_cons ad];rfl
  have fA:au x b (off+i*1)=some vs[i]:=by
   rw[<-aq i aa]
   unfold au
   rw[m2.ext.get b (by omega)]
  obtain⟨dT,y,ax,ay⟩:=bd i ad vs[i] c x ag (dq.get ab i aa ad) m2
  have eU:ei (some xs[i])=sz xs[i]:=by unfold ei;rfl
  rw[eU] at ay
  rcases ay with⟨rfl,bF,en⟩|⟨rfl,bF,en⟩
  · have st:=Q6 (Y m) R (N+4) (N+5) b off vs.length i (off+i*1) (i+1) aH vs[i] x y (dx aa) ⟨aa,rfl⟩ fA (lp m2.uG) ax (jz aa (by omega))
    obtain⟨e,Γ,z,bl,bB⟩:=IZ (R:=R) aH bI af ab aq hlen bd k (i+1) (c+sz xs[i]) y (by omega) (by omega) bF en
    refine⟨e,Γ,z,.step st bl,?_⟩
    unfold s0 at bB⊢
    rw[aA,<-Nat.add_assoc]
    exact bB
  · have st:=Q7 (Y m) R (N+4) (N+5) b off vs.length i (off+i*1) aH vs[i] x y (dx aa) ⟨aa,rfl⟩ fA (lp m2.uG) ax
    exact⟨_,_,_,.exit st (by simp),.inr ⟨rfl,rfl,.inr ⟨rfl,by omega,en⟩⟩⟩
theorem Ds{N B:Nat}{h:J}{r:aR}(ai:aB.Mod r [(3,.ptr N 0)])(bI:B<=N):∀(K:Nat) (ot:Option a6),ei ot<=K->ei ot<=90000->∀m,ei ot+3<=m->Dr m N h r B ot
 |K,none,_,_,m,hm=>λv c x ag aC m2=>by
  obtain rfl:v=.bm:=aC
  obtain⟨m,rfl⟩:∃j,m=j+1:=⟨m-1,by omega⟩
  exact⟨true,x,ed (intr:=bW) (n:=m) (args:=[.bm,.ptr (N+4) 0,.ptr (N+5) 0]) Tryz.func100 (by kernel_rfl) rfl (by kernel_rfl) (QZ (Y m) (N+4) (N+5) x) (.inl rfl) (by kernel_rfl),.inl ⟨rfl,ag,m2⟩⟩
 |0,some t,du,_,m,hm=>by
  have eU:ei (some t)=sz t:=by unfold ei;rfl
  have:=py t
  omega
 |K+1,some (.mk k bK aJ xs rt),du,fX,m,hm=>λv c x ag aC m2=>by
  have hs:ei (some (.mk k bK aJ xs rt))=1+eZ xs+ei rt:=by rw[m1,q3]
  obtain⟨R,c5,bZ,cG,vs,bV,bk,up,rfl,ad,aw,aQ,bS,dm,eG⟩:=aC
  rw[hs] at du fX hm⊢
  obtain⟨m,rfl⟩:∃j,m=j+1:=⟨m-1,by omega⟩
  obtain⟨m,rfl⟩:∃j,m=j+1:=⟨m-1,by omega⟩
  have gM:=dq.len dm
  have jS:=pz xs
  have hb:=Q0 (Y (m+1)) R (N+4) (N+5) x
  have s1:=Q1 (Y (m+1)) R (N+4) (N+5) x
  obtain⟨dT,y,ax,ay⟩:=Ra m ai m2 ag (.ptr R 0)
  rcases ay with⟨rfl,bF,en⟩|⟨rfl,bF,en⟩
  · have s2:=Q2 (Y (m+1)) R (N+4) (N+5) (N+3) x y (lp m2.b8) ax
    have Rb:y.get R=some (.cells [.int .i64 (Int.ofNat k),.str bK,c5,bZ,cG] 51 bV bk up):=by
     rw[en.ext.get R (by omega)];exact aw
    have fA:au y R (0+3)=some bZ:=aL Rb rfl
    have bd:∀i (ad:i<xs.length),Dr (m+1) N h r B (some xs[i]):=λi ad=>by
     have mN:=kR (List.getElem_mem ad)
     have eU:ei (some xs[i])=sz xs[i]:=by unfold ei;rfl
     exact Ds ai bI K (some xs[i]) (by omega) (by omega) (m+1) (by omega)
    have loop:∃e Γ z,az Tryz.prog Tryz.f100 none (Y (m+1)) [1,1,1,0] ⟨[(0,.ptr R 0),(1,.ptr (N+4) 0),(2,.ptr (N+5) 0)],[],.none,y⟩ e ⟨Γ,[],.none,z⟩/\
      ((e=.nrm/\Γ=[(0,.ptr R 0),(1,.ptr (N+4) 0),(2,.ptr (N+5) 0)]/\s0 N h r (c+1) (eZ xs) true z)\/(e=.ret/\Γ=[(4,.bool false)]/\s0 N h r (c+1) (eZ xs) false z)):=by
     rcases bS with⟨rfl,rfl⟩|⟨b,off,aH,rfl,af,aq,_⟩
     · have jV:xs=[]:=List.eq_nil_of_length_eq_zero (by simpa using gM.symm)
       subst jV
       refine⟨_,_,_,az.seq (p:=[1,1,1,0]) (by kernel_rfl) (Q5 (Y (m+1)) R (N+4) (N+5) y fA) (az.block (p:=[1,1,1,0,1]) (id:=0) (by kernel_rfl) (ef.run (p:=[1,1,1,0,1,0]) (n:=1) (by kernel_rfl) (.exit (IX (Y (m+1)) R (N+4) (N+5) 0 0 _ y (by kernel_rfl)) (by simp)) (by omega))),.inl ⟨rfl,rfl,.inl ⟨rfl,bF,en⟩⟩⟩
     · obtain⟨e,Γ,z,bl,bB⟩:=IZ (R:=R) aH bI af dm aq (by omega) bd vs.length 0 (c+1) y (by omega) (by omega) bF en
       rw[List.drop_zero] at bB
       have de:=ef.run (p:=[1,1,1,0,1,0]) (by kernel_rfl) bl (by omega)
       have jH:=Q4 (Y (m+1)) R (N+4) (N+5) b off vs.length aH y fA
       rcases bB with⟨rfl,hh,Dt⟩|⟨rfl,hh,Dt⟩
       · exact⟨_,_,_,az.seq (p:=[1,1,1,0]) (by kernel_rfl) jH (az.block (p:=[1,1,1,0,1]) (id:=0) (by kernel_rfl) de),.inl ⟨rfl,hh,Dt⟩⟩
       · exact⟨_,_,_,az.seq (p:=[1,1,1,0]) (by kernel_rfl) jH (az.qL (p:=[1,1,1,0,1]) (id:=0) (by kernel_rfl) de (by simp)),.inr ⟨rfl,hh,Dt⟩⟩
    obtain⟨e,Γ,z,bl,bB⟩:=loop
    rcases bB with⟨rfl,rfl,bB⟩|⟨rfl,rfl,bB⟩
    · rcases bB with⟨_,de,jH⟩|⟨de,_⟩
      · have hh:=jH.room 7
        have Rc:(z.room 7).get R=some (.cells [.int .i64 (Int.ofNat k),.str bK,c5,bZ,cG] 51 bV bk up):=by
         rw[hh.ext.get R (by omega)];exact aw
        obtain⟨dT,w,dw,cT⟩:=Ds ai bI K rt (by omega) (by omega) (m+1) (by omega) cG (c+1+eZ xs) _ de eG hh
        have eK:I.sound cG=true:=by
         cases rt with
         |none=>obtain rfl:cG=.bm:=eG;rfl
         |some u=>
          cases u with
          |mk k bK aJ eS rt=>obtain⟨r,c5,bZ,_,vs,bV,bk,up,rfl,_⟩:=eG;rfl
        have bL:=Q8 (Y (m+1)) R (N+4) (N+5) cG (.bool dT) z w (lp hh.uG) (aL Rc rfl) dw eK rfl
        refine⟨dT,w,ed (intr:=bW) (n:=m+1) (args:=[.ptr R 0,.ptr (N+4) 0,.ptr (N+5) 0]) Tryz.func100 (by kernel_rfl) rfl (by kernel_rfl) (az.seq (p:=[]) (by kernel_rfl) hb (az.seq (p:=[1]) (by kernel_rfl) s1 (az.seq (p:=[1,1]) (by kernel_rfl) s2 (az.seq (p:=[1,1,1]) (by kernel_rfl) bl bL)))) (.inl rfl) rfl,?_⟩
        have fZ:c+1+eZ xs+ei rt=c+(1+eZ xs+ei rt):=by omega
        unfold s0 at cT⊢
        rw[fZ] at cT
        exact cT
      · simp at de
    · rcases bB with⟨de,_⟩|⟨_,de,jH⟩
      · simp at de
      · exact⟨false,z,ed (intr:=bW) (n:=m+1) (args:=[.ptr R 0,.ptr (N+4) 0,.ptr (N+5) 0]) Tryz.func100 (by kernel_rfl) rfl (by kernel_rfl) (az.seq (p:=[]) (by kernel_rfl) hb (az.seq (p:=[1]) (by kernel_rfl) s1 (az.seq (p:=[1,1]) (by kernel_rfl) s2 (az.h4 (p:=[1,1,1]) (by kernel_rfl) bl (by simp))))) (.inl rfl) (by kernel_rfl),.inr ⟨rfl,by omega,jH⟩⟩
  · have s2:=Q3 (Y (m+1)) R (N+4) (N+5) (N+3) x y (lp m2.b8) ax
    exact⟨false,y,ed (intr:=bW) (n:=m+1) (args:=[.ptr R 0,.ptr (N+4) 0,.ptr (N+5) 0]) Tryz.func100 (by kernel_rfl) rfl (by kernel_rfl) (az.seq (p:=[]) (by kernel_rfl) hb (az.seq (p:=[1]) (by kernel_rfl) s1 (az.h4 (p:=[1,1]) (by kernel_rfl) s2 (by simp)))) (.inl rfl) (by kernel_rfl),.inr ⟨rfl,by omega,en⟩⟩
end Go.Proofs.cD
namespace Go.Proofs.cD
open Go aB Go.Proofs df
set_option maxRecDepth 100000
set_option maxHeartbeats 1000000
theorem Rd{call:aF->List I->J->ao}(j N:Nat)(r:aR)(q:bE)(h:J)(hm:aB.Mod r [(2,.int .i64 (Int.ofNat j))])(aA:h.get (N+2)=some (.defrd (some []))):
  lN Tryz.prog call Tryz.f70 (.ok .ret r [.collected (N+2)] q h)=.ret (.int .i64 (Int.ofNat j)) (h.set (N+2) (some (.defrd none))):=by
 have ai:=Cv hm (rfl:mV Tryz.prog (dM Tryz.f70) Tryz.f70 [(2,.int .i64 (Int.ofNat j))] (h.set (N+2) (some (.defrd none)))=some (.int .i64 (Int.ofNat j)))
 simp only[lN,jv,aA,List.nil_append,ai]
theorem Re{ot:Option a6}{B:Nat}{h:J}{v:I}(m:Nat)(fX:ei ot<=90000)(bI:B<=h.n)(aC:dE B h ot v)(hm:ei ot+3<=m):
  ∃an,Y (m+2) (.fn 70) [v] h=.ret (.int .i64 (Int.ofNat (min (ei ot) 61))) an/\Ext h.n h an:=by
 have Rf:=aC.sZ
 let aa:=(h.push (.cells [.int .i64 (Int.ofNat 0)] 3 .own 0 0)).set h.n (some (.cells [.int .i64 (Int.ofNat 0)] 3 .own 0 0))
 let ad:=aa.push (.cells [v] 47 .own 0 0)
 have aN:aa.n=h.n+1:=rfl
 have bz:ad.n=h.n+2:=rfl
 have c1:aB.storeCells (h.push (.cells [.int .i64 (Int.ofNat 0)] 3 .own 0 0)) h.n 0 [.int .i64 (Int.ofNat 0)]=some aa:=
  zm (x:=.int .i64 (Int.ofNat 0)) (t:=3) rfl (by rw[J.eB,if_pos rfl])
 have Rg:Y (m+1) (.fn 86) [v] aa=.ret (.fn 99 [] [.ptr (h.n+1) 0]) ad:=by
  rcases Rf with rfl|⟨R,rfl⟩
  · exact ed (intr:=bW) (n:=m) (args:=[.bm]) Tryz.func86 (by kernel_rfl) rfl (by kernel_rfl) (QX (Y m) aa) (.inl rfl) rfl
  · exact ed (intr:=bW) (n:=m) (args:=[.ptr R 0]) Tryz.func86 (by kernel_rfl) rfl (by kernel_rfl) (QW (Y m) R aa) (.inl rfl) rfl
 have w:WF Tryz.prog Tryz.f70 none (Y (m+1)) [] (λe r d q an=>∃iF,lN Tryz.prog (Y (m+1)) Tryz.f70 (.ok e r d q an)=.ret (.int .i64 (Int.ofNat (min (ei ot) 61))) iF/\Ext h.n h iF) (nh 0 [v] .leaf) [] .none h:=by
  refine WF.seq (p:=[]) (by kernel_rfl) (W.of (QQ (Y (m+1)) v h) (zi [v]) λr1 cM=>.inl ⟨rfl,?_⟩)
  refine WF.seq (p:=[1]) (by kernel_rfl) (W.of (QR (Y (m+1)) v h aa c1) cM λr2 ic=>.inl ⟨rfl,?_⟩)
  refine WF.seq (p:=[1,1]) (by kernel_rfl) ?_
  refine WF.seq (p:=[1,1,0]) (by kernel_rfl) (W.of (QS (Y (m+1)) v _ h.n aa ad Rg) ic λgB zS=>.inl ⟨rfl,?_⟩)
  refine WF.block (p:=[1,1,0,1]) (id:=0) (by kernel_rfl) ?_
  refine WF.range (p:=[1,1,0,1,0]) (t:=5) (ps:=[6]) (by kernel_rfl) (by kernel_rfl) (hf:=rfl) (hm:=zS) ?_
  let h7:=(ad.push (.defrd (some []))).push (uF .ready none gB h.n)
  let a8:=((h7.push (.cells [.b8 (h.n+3)] 139 .own 0 0)).push (.cells [.e4] 139 .own 0 0)).set (h.n+5) (some (.cells [.fn 100 [] [.ptr (h.n+4) 0,.ptr (h.n+5) 0]] 139 .own 0 0))
  have I0:aB.Mod gB [(3,.ptr h.n 0)]:=zS.sub ⟨rfl,trivial⟩
  have Yy:h7.n=h.n+4:=rfl
  have fZ:Ext h.n h aa:=(Ext.push (Nat.le_refl _) _).hg (Nat.le_refl _)
  have ux:Ext h.n h ad:=fZ.po (by omega)
  have q4:Ext h.n h h7:=(ux.po (by omega)).po (by show h.n<=h.n+3;omega)
  have uH:Ext h.n h a8:=((q4.po (by omega)).po (by show h.n<=h.n+5;omega)).hg (by omega)
  have i0:pB h.n h gB 0 a8:=by
   refine⟨?_,?_,?_,?_,?_,?_⟩
   · simp only[a8,h7,ad,aa,J.eB,J.b2,J.mB,J.tz];grind
   · simp only[a8,h7,ad,aa,J.eB,J.b2,J.mB,J.tz];grind
   · simp only[a8,h7,ad,aa,J.eB,J.b2,J.mB,J.tz];grind
   · simp only[a8,h7,ad,aa,J.eB,J.b2,J.mB,J.tz];grind
   · simp only[a8,h7,ad,aa,J.eB,J.b2,J.mB,J.tz];grind
   · exact uH
  obtain⟨dT,y,ax,ay⟩:=Ds I0 bI (ei ot) ot (Nat.le_refl _) fX m hm v 0 a8 (by decide) aC i0
  have cf:aB.storeCells ((h7.push (.cells [.b8 (h.n+3)] 139 .own 0 0)).push (.cells [.e4] 139 .own 0 0)) (h.n+5) 0 [.fn 100 [] [.ptr (h.n+4) 0,.ptr (h.n+5) 0]]=some a8:=
   zm (x:=.e4) rfl (by rw[J.eB];exact if_pos rfl)
  have hT:a8.get (h.n+1)=some (.cells [v] 47 .own 0 0):=by
   simp only[a8,h7,ad,aa,J.eB,J.b2,J.mB,J.tz];grind
  have Rh:=QY (Y m) (h.n+3) (h.n+1) v (.bool dT) h7 a8 y cf (lp i0.uG) (lp hT) ax
  have I1:Y (m+1) (.fn 99) [.b8 (h.n+3),.ptr (h.n+1) 0] h7=.ret (.aP []) y:=
   ed (intr:=bW) (n:=m) (args:=[.b8 (h.n+3),.ptr (h.n+1) 0]) Tryz.func99 (by kernel_rfl) rfl (by kernel_rfl) Rh (.inr rfl) (by kernel_rfl)
  have fin:∀(j:Nat) (z:J),j=min (ei ot) 61->z.get h.n=some (.cells [.int .i64 (Int.ofNat j)] 3 .own 0 0)->z.get (h.n+2)=some (.defrd (some []))->Ext h.n h z->
    WF Tryz.prog Tryz.f70 none (Y (m+1)) [1,1,1] (λe r d q an=>∃iF,lN Tryz.prog (Y (m+1)) Tryz.f70 (.ok e r d q an)=.ret (.int .i64 (Int.ofNat (min (ei ot) 61))) iF/\Ext h.n h iF) gB [.collected (h.n+2)] .none z:=λj z aG a4 lO Ri=>by
   refine W.of (QV (Y (m+1)) h.n j (h.n+2) _ (lp a4)) I0 λh1 Rj=>?_
   subst aG
   exact⟨_,Rd (min (ei ot) 61) h.n h1 _ _ Rj lO,Ri.hg (by omega)⟩
  rcases ay with⟨rfl,bF,en⟩|⟨rfl,bF,en⟩
  · have w5:kA (h.n+3) gB [.collected (h.n+2)] .none (.ret (.aP []) y)=.ok .nrm gB [.collected (h.n+2)] .none (y.set (h.n+3) (some (uF .exhausted none gB h.n))):=by
      simp only[kA,en.pC]
    refine⟨.nrm,_,(congrArg (kA (h.n+3) gB [.collected (h.n+2)] .none) I1).trans w5,.inr ⟨by simp,.inl ⟨rfl,?_⟩⟩⟩
    exact fin (0+ei ot) _ (by omega) (by rw[J.b2,if_neg (by omega)];exact en.w4) (by rw[J.b2,if_neg (by omega)];exact en.jn) (en.ext.hg (by omega))
  · have w5:kA (h.n+3) gB [.collected (h.n+2)] .none (.ret (.aP []) y)=.ok (.exit 0) gB [.collected (h.n+2)] .none (y.set (h.n+3) (some (uF .exhausted (some (.exit 0)) gB h.n))):=by
      simp only[kA,en.pC]
    refine⟨.exit 0,_,(congrArg (kA (h.n+3) gB [.collected (h.n+2)] .none) I1).trans w5,.inl ⟨rfl,.inl ⟨rfl,?_⟩⟩⟩
    exact fin 61 _ (by omega) (by rw[J.b2,if_neg (by omega)];exact en.w4) (by rw[J.b2,if_neg (by omega)];exact en.jn) (en.ext.hg (by omega))
 obtain⟨e,r,d,q,an,dw,iF,cT,vZ⟩:=w
 exact⟨iF,HI (intr:=bW) (n:=m+1) (args:=[v]) Tryz.func70 (by kernel_rfl) rfl (by kernel_rfl) ⟨e,r,d,q,an,dw,cT⟩,vZ⟩
end Go.Proofs.cD
namespace Go.Proofs.cD
open Go aB Go.Proofs df
set_option maxRecDepth 100000
set_option maxHeartbeats 1000000
theorem Du{a b:Nat}(h:a≠b):(!a0 (Int.ofNat a) (Int.ofNat b))=true:=by
 rw[kM h];rfl
theorem zT{a b:Nat}(h:a=b):(!a0 (Int.ofNat a) (Int.ofNat b))=false:=by
 rw[ss h];rfl
theorem c7.strs{B:Nat}{h:J}{v:I}{us:List aO}(hs:c7 B h v (us.map .str)):(v=.bf/\us=[])\/∃b off aH,v=.slice b off us.length aH/\b<B/\∀i (ae:i<us.length),au h b (off+i*1)=some (.str us[i]):=by
 rcases hs with⟨aa,ad⟩|⟨b,off,aH,aa,ad,aw,_⟩
 · exact .inl ⟨aa,by simpa using ad⟩
 · refine .inr ⟨b,off,aH,by simpa using aa,ad,λi ae=>?_⟩
   have:=aw i (by simpa using ae)
   simpa using this
theorem m3{B b i:Nat}{h x:J}(e:Ext B h x)(af:b<B):au x b i=au h b i:=by
 unfold au;rw[e.get b af]
end Go.Proofs.cD
namespace Go.Proofs.cD
open Go aB Go.Proofs df
set_option maxRecDepth 100000
set_option maxHeartbeats 1000000
end Go.Proofs.cD
namespace Go.Proofs.cD
open Go aB Go.Proofs df
set_option maxRecDepth 100000
set_option maxHeartbeats 1000000
end Go.Proofs.cD
namespace Go.Proofs.cD
open Go aB Go.Proofs df
set_option maxRecDepth 100000
set_option maxHeartbeats 1000000
theorem c7.uI{B:Nat}{h g:J}{v:I}{us:List aO}(hs:c7 B h v (us.map .str)):bO Tryz.prog g 48 v=some (.int .i64 (Int.ofNat us.length)):=by
 have:=c7.len (g:=g) (t:=48) (e:=9) (by kernel_rfl) hs
 rwa [List.length_map] at this
theorem c7.nK{B:Nat}{h g:J}{v:I}{vs:List I}(hs:c7 B h v vs):bO Tryz.prog g 49 v=some (.int .i64 (Int.ofNat vs.length)):=c7.len (e:=47) (by kernel_rfl) hs
end Go.Proofs.cD
namespace Go.Proofs.cD
open Go aB Go.Proofs df
set_option maxRecDepth 100000
set_option maxHeartbeats 1000000
theorem Rk{ot:Option a6}{B:Nat}{h:J}{v:I}{m:Nat}(af:ei ot<=90000)(hm:ei ot<m)(aC:dE B h ot v):Y (m+1) (.fn 79) [v] h=.ret (.int .i64 (Int.ofNat (min (ei ot) 61))) h:=by
 cases ot with
 |none=>
  obtain rfl:v=.bm:=aC
  obtain⟨m,rfl⟩:∃j,m=j+1:=⟨m-1,by omega⟩
  exact ed (intr:=bW) (n:=m+1) (args:=[.bm]) Tryz.func79 (by kernel_rfl) rfl (by kernel_rfl) (IU (Y (m+1)) _ .bm h h (IW m 0 h)) (.inl rfl) (by kernel_rfl)
 |some t=>
  rw[m1] at af hm⊢
  exact QP af hm aC
end Go.Proofs.cD
