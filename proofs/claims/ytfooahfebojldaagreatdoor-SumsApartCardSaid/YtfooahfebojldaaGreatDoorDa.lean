/-
  PROVED HERE: contracts of functions (Da). No condition beside each statement's own.
-/
import Derived.Test.YtfooahfebojldaaGreatDoorAx
import Derived.Test.YtfooahfebojldaaGreatDoorProg
import Derived.Test.YtfooahfebojldaaGreatDoorSxa
import Derived.Test.YtfooahfebojldaaGreatDoorTx
set_option linter.unusedVariables false
set_option linter.unusedSimpArgs false
namespace Go.Proofs.b0
open Go aw Go.Proofs
set_option maxRecDepth 100000
set_option maxHeartbeats 1000000
noncomputable def kg:uo:=⟨69,[],.slice 5503 0 27 (.aN 1),5504,[(3,.cells [.int .i64 (2),.str [],.a0,.a0,.bd] 51 .own 0 0),(4,.cells [.int .i64 (4),.str [],.a0,.a0,.bd] 51 .own 0 0),(5,.cells [.int .i64 (3),.str [],.a0,.a0,.bd] 51 .own 0 0),(6,.cells [.int .i64 (6),.str [109,46,78],.a0,.a0,.bd] 51 .own 0 0),(7,.cells [.int .i64 (1),.str [],.a0,.a0,.bd] 51 .own 0 0),(8,.cells [.int .i64 (5),.str [],.a0,.a0,.bd] 51 .own 0 0),(119,.cells [.int .i64 (7),.str [],.slice 246 0 2 (.aN 1),.slice 249 0 2 (.aN 1),.bd] 51 .own 0 0),(246,.cells [.str [97],.str [98]] 9 .aN 0 0),(249,.cells [.ptr 3 0,.ptr 4 0] 47 .aN 0 0),(429,.cells [.int .i64 (8),.str [],.a0,.slice 430 0 2 (.aN 1),.ptr 6 0] 51 .own 0 0),(430,.cells [.ptr 3 0,.ptr 4 0] 47 .aN 0 0),(1110,.cells [.ptr 3 0,.ptr 4 0,.ptr 119 0] 47 .aN 0 0),(1111,.cells [.int .i64 (9),.str [],.a0,.slice 1110 0 3 (.aN 1),.bd] 51 .own 0 0),(1223,.cells [.int .i64 (7),.str [],.slice 1350 0 2 (.aN 1),.slice 1353 0 2 (.aN 1),.bd] 51 .own 0 0),(1350,.cells [.str [97],.str [98]] 9 .aN 0 0),(1353,.cells [.ptr 4 0,.ptr 5 0] 47 .aN 0 0),(1533,.cells [.int .i64 (8),.str [],.a0,.slice 1534 0 2 (.aN 1),.ptr 7 0] 51 .own 0 0),(1534,.cells [.ptr 4 0,.ptr 5 0] 47 .aN 0 0),(2199,.cells [.ptr 5 0,.ptr 4 0,.ptr 1223 0] 47 .aN 0 0),(2200,.cells [.int .i64 (9),.str [],.a0,.slice 2199 0 3 (.aN 1),.bd] 51 .own 0 0),(2312,.cells [.int .i64 (7),.str [],.slice 2439 0 2 (.aN 1),.slice 2442 0 2 (.aN 1),.bd] 51 .own 0 0),(2439,.cells [.str [97],.str [98]] 9 .aN 0 0),(2442,.cells [.ptr 5 0,.ptr 6 0] 47 .aN 0 0),(2622,.cells [.int .i64 (8),.str [],.a0,.slice 2623 0 2 (.aN 1),.ptr 8 0] 51 .own 0 0),(2623,.cells [.ptr 5 0,.ptr 6 0] 47 .aN 0 0),(3303,.cells [.ptr 5 0,.ptr 6 0,.ptr 2312 0] 47 .aN 0 0),(3304,.cells [.int .i64 (9),.str [],.a0,.slice 3303 0 3 (.aN 1),.bd] 51 .own 0 0),(3416,.cells [.int .i64 (7),.str [],.slice 3543 0 2 (.aN 1),.slice 3546 0 2 (.aN 1),.bd] 51 .own 0 0),(3543,.cells [.str [97],.str [98]] 9 .aN 0 0),(3546,.cells [.ptr 6 0,.ptr 7 0] 47 .aN 0 0),(3726,.cells [.int .i64 (8),.str [],.a0,.slice 3727 0 2 (.aN 1),.ptr 3 0] 51 .own 0 0),(3727,.cells [.ptr 6 0,.ptr 7 0] 47 .aN 0 0),(4108,.cells [.int .i64 (1),.str [],.a0,.a0,.bd] 51 .own 0 0),(4220,.cells [.int .i64 (7),.str [],.slice 4347 0 2 (.aN 1),.slice 4350 0 2 (.aN 1),.bd] 51 .own 0 0),(4347,.cells [.str [97],.str [98]] 9 .aN 0 0),(4350,.cells [.ptr 7 0,.ptr 8 0] 47 .aN 0 0),(4530,.cells [.int .i64 (8),.str [],.a0,.slice 4531 0 2 (.aN 1),.ptr 4 0] 51 .own 0 0),(4531,.cells [.ptr 7 0,.ptr 8 0] 47 .aN 0 0),(4910,.cells [.int .i64 (1),.str [],.a0,.a0,.bd] 51 .own 0 0),(4913,.cells [.int .i64 (7),.str [],.a0,.a0,.bd] 51 .own 0 0),(5497,.cells [.int .i64 (8),.str [],.a0,.a0,.ptr 1111 0] 51 .own 0 0),(5498,.cells [.int .i64 (0),.str [],.a0,.a0,.bd] 51 .own 0 0),(5499,.cells [.ptr 3 0] 47 .own 0 0),(5500,.cells [.int .i64 (9),.str [],.a0,.slice 5499 0 1 (.exact 1),.bd] 51 .own 0 0),(5501,.cells [.int .i64 (6),.str [],.a0,.a0,.bd] 51 .own 0 0),(5503,.cells [.ptr 3 0,.ptr 4 0,.ptr 5 0,.ptr 6 0,.ptr 7 0,.ptr 8 0,.ptr 119 0,.ptr 429 0,.ptr 1111 0,.ptr 1223 0,.ptr 1533 0,.ptr 2200 0,.ptr 2312 0,.ptr 2622 0,.ptr 3304 0,.ptr 3416 0,.ptr 3726 0,.ptr 4108 0,.ptr 4220 0,.ptr 4530 0,.ptr 4910 0,.ptr 4913 0,.ptr 5497 0,.bd,.ptr 5498 0,.ptr 5500 0,.ptr 5501 0] 47 .aN 0 0)]⟩
theorem Qd(hf:Fit Tryz.prog):C3 Tryz.prog [] kg.sF:=⟨λ_ _ _=>none,200,(by intro _ _ _ _ _ h;cases h),rfl,λer=>by kernel_rfl⟩
end Go.Proofs.b0
namespace cu
open aw
abbrev aJ:=List UInt8
inductive aZ where
 |mk (k:Nat) (bP:aJ) (aW:List aJ) (xs:List aZ) (rt:Option aZ)
def aZ.k:aZ->Nat|.mk k _ _ _ _=>k
mutual
def sz:aZ->Nat
 |.mk _ _ _ xs rt=>1+eL xs+dA rt
def eL:List aZ->Nat
 |[]=>0
 |t::ts=>sz t+eL ts
def dA:Option aZ->Nat
 |none=>0
 |some t=>sz t
end
def gL:List aJ->List aJ->Bool
 |[],[]=>true
 |x::xs,y::ys=>bR x y&&gL xs ys
 |_,_=>false
mutual
def pf:aZ->aZ->Bool
 |.mk k bP aW xs rt,.mk dH pg qM od ph=>Nat.beq k dH&&(bR bP pg&&(gL aW qM&&(gk xs od&&gU rt ph)))
def gk:List aZ->List aZ->Bool
 |[],[]=>true
 |x::xs,y::ys=>pf x y&&gk xs ys
 |_,_=>false
def gU:Option aZ->Option aZ->Bool
 |none,none=>true
 |some x,some y=>pf x y
 |_,_=>false
end
theorem sI(k:Nat)(bP:aJ)(aW:List aJ)(xs:List aZ)(rt:Option aZ):sz (.mk k bP aW xs rt)=1+eL xs+dA rt:=by rw[sz]
theorem kU(t:aZ):dA (some t)=sz t:=by rw[dA]
theorem qN:∀t:aZ,0<sz t
 |.mk _ _ _ _ _=>by unfold sz;omega
theorem m7{t:aZ}:∀{l:List aZ},t∈l->sz t<=eL l
 |[],h=>by cases h
 |x::l,h=>by
  unfold eL
  rcases List.mem_cons.1 h with rfl|h
  · omega
  · have:=m7 h;omega
theorem uq:∀l:List aZ,l.length<=eL l
 |[]=>Nat.le_refl _
 |x::l=>by
  have:=uq l
  have:=qN x
  unfold eL
  simp;omega
mutual
def jv:aZ->Nat
 |.mk _ _ aW xs rt=>aW.length+zr xs+ur rt
def zr:List aZ->Nat
 |[]=>0
 |t::ts=>jv t+zr ts
def ur:Option aZ->Nat
 |none=>0
 |some t=>jv t
end
theorem wL{t:aZ}:∀{l:List aZ},t∈l->jv t<=zr l
 |[],h=>by cases h
 |x::l,h=>by
  rw[zr]
  rcases List.mem_cons.1 h with rfl|h
  · omega
  · have:=wL h;omega
def oe(n:Nat):Bool:=(decide (97<=n)&&decide (n<=122))||((decide (65<=n)&&decide (n<=90))||decide (n=95))
def mg(n:Nat):Bool:=decide (48<=n)&&decide (n<=57)
def qO(n:Nat):Bool:=oe n||mg n||decide (n=45)||decide (n=47)||decide (n=46)
def Ij:aJ->Bool
 |[]=>false
 |c::_=>oe c.toNat
def lB(s:aJ):Bool:=decide (1<=s.length)&&decide (s.length<=24)&&Ij s&&s.all (λc=>oe c.toNat||mg c.toNat)
def qP(s:aJ):Bool:=decide (1<=s.length)&&decide (s.length<=161)&&s.all (λc=>qO c.toNat)
theorem C9(x y:UInt8)(a b:aJ):eA (x::a) (y::b)=if x.toNat=y.toNat then eA a b else decide (x.toNat<y.toNat):=by
 by_cases h:x.toNat=y.toNat
 · rw[if_pos h];simp only[eA,h,Nat.beq_refl]
 · rw[if_neg h]
   have af:Nat.beq x.toNat y.toNat=false:=by
    cases ab:Nat.beq x.toNat y.toNat with
    |false=>rfl
    |true=>exact absurd (Nat.eq_of_beq_eq_true ab) h
   simp only[eA,af]
   exact Bool.eq_iff_iff.2 (by rw[Nat.blt_eq];simp)
def m8:aJ:=(List.range 26).map (λi=>UInt8.ofNat (97+i))++(List.range 26).map (λi=>UInt8.ofNat (65+i))++(List.range 10).map (λi=>UInt8.ofNat (48+i))++[95]
def og(n:Nat):Bool:=oe n||mg n
def iW(p:Nat->Bool):List I:=(List.range 256).map λn=>.bool (p n)
def fP(sep:aJ):List aJ->aJ
 |[]=>[]
 |x::l=>x++l.flatMap (λy=>sep++y)
theorem Qe(sep:aJ):∀(l:List aJ) (y:aJ),l≠[]->fP sep (l++[y])=fP sep l++sep++y
 |[],y,h=>absurd rfl h
 |x::l,y,_=>by
  show x++(l++[y]).flatMap _=x++l.flatMap _++sep++y
  rw[List.flatMap_append]
  simp
theorem Qf(sep y:aJ):fP sep ([]++[y])=y:=by simp[fP]
theorem Ik(sep:aJ)(l:List aJ){i:Nat}(h:i<l.length):fP sep (l.take (i+1))=if 0<i then fP sep (l.take i)++sep++l[i] else l[i]:=by
 rw[List.take_succ_eq_append_getElem h]
 by_cases h0:0<i
 · rw[if_pos h0,Qe]
   intro e
   have an:(l.take i).length=i:=by rw[List.length_take];omega
   rw[e] at an
   simp at an
   omega
 · rw[if_neg h0]
   obtain rfl:i=0:=by omega
   exact Qf sep _
theorem Il(sep:aJ)(l:List aJ):∀(i:Nat),(fP sep (l.take i)).length<=(fP sep l).length:=by
 intro i
 cases l with
 |nil=>simp
 |cons x l=>
  cases i with
  |zero=>simp[fP]
  |succ i=>
   show(x++(l.take i).flatMap _).length<=(x++l.flatMap _).length
   have e:l.flatMap (λy=>sep++y)=(l.take i).flatMap (λy=>sep++y)++(l.drop i).flatMap (λy=>sep++y):=by
    rw[<-List.flatMap_append,List.take_append_drop]
   rw[e]
   simp only[List.length_append]
   omega
theorem Qg(sep:aJ)(l:List aJ){i:Nat}(h:i<l.length):l[i].length<=(fP sep l).length:=by
 have aa:=Il sep l (i+1)
 rw[Ik sep l h] at aa
 split at aa
 · simp at aa;omega
 · exact aa
def word:Nat->aJ
 |1=>[97,110,121]
 |2=>[105,110,116]
 |3=>[98,111,111,108]
 |4=>[115,116,114]
 |5=>[110,105,108]
 |_=>[]
def kV(aW ws:List aJ):List aJ:=List.zipWith (λn w=>n++[58,32]++w) aW ws
def mh(hE:List Nat)(ws:List aJ):List aJ:=List.zipWith (λk w=>if k=8 then[40]++w++[41] else w) hE ws
def shape(k:Nat)(bP:aJ)(aW:List aJ)(hE:List Nat)(ws:List aJ)(r:aJ):aJ:=
 if k=6 then bP else if k=7 then[123]++fP [44,32] (kV aW ws)++[125] else if k=8 then[102,110,40]++fP [44,32] ws++[41,32,45,62,32]++r
 else if k=9 then fP [32,124,32] (mh hE ws) else word k
mutual
def wr:aZ->aJ
 |.mk k bP aW xs rt=>shape k bP aW (xs.map aZ.k) (c9 xs) (lC rt)
def c9:List aZ->List aJ
 |[]=>[]
 |t::ts=>wr t::c9 ts
def lC:Option aZ->aJ
 |none=>[]
 |some t=>wr t
end
mutual
def okW:aZ->Bool
 |.mk k bP aW xs rt=>decide (1<=k)&&decide (k<=9)&&(decide (k≠7)||decide (xs.length=aW.length))&&(decide (k≠8)||rt.isSome)&&sJ xs&&uu rt
def sJ:List aZ->Bool
 |[]=>true
 |t::ts=>okW t&&sJ ts
def uu:Option aZ->Bool
 |none=>true
 |some t=>okW t
end
theorem zs:∀l:List aZ,(c9 l).length=l.length
 |[]=>by rw[c9];rfl
 |x::l=>by rw[c9];simp[zs l]
theorem C_:∀(l:List aZ) (i:Nat) (h:i<l.length) (ak:i<(c9 l).length),(c9 l)[i]=wr l[i]
 |[],i,h,_=>by simp at h
 |x::l,0,_,_=>by simp only[c9];rfl
 |x::l,i+1,h,ak=>by
  have:=C_ l i (by simpa using h) (by rw[zs];simpa using h)
  simpa only[c9,List.getElem_cons_succ] using this
def pj(p:Option aJ)(x:aJ):Bool:=match p with
 |none=>true
 |some q=>eA q x
def m9(p:Option aJ):List aJ->Bool
 |[]=>true
 |x::l=>lB x&&(pj p x&&m9 (some x) l)
def sK(p:Option aJ):List Nat->List aJ->Bool
 |k::hE,w::ws=>(decide (k≠9)&&decide (k≠1))&&(pj p w&&sK (some w) hE ws)
 |_,_=>true
theorem Im{s:aJ}(h:lB s=true):s.length<=24:=by
 unfold lB at h
 simp only[Bool.and_eq_true,decide_eq_true_eq] at h
 exact h.1.1.2
def uv(k:Nat)(s:aJ)(N M:Nat)(o:Bool):Bool:=(!((!bR s []) !=decide (k=6)))&&(!(decide (0<N)&&decide (k≠7)))&&(!(decide (0<M)&&decide (k<7)))&&(!(o !=decide (k=8)))
def hF(k:Nat)(bP:aJ)(aW:List aJ)(hE:List Nat)(ws:List aJ)(n:Nat)(r:Bool):Bool:=
 if k=6 then qP bP else if k=7 then decide (aW.length=n)&&m9 none aW else if k=8 then r else if k=9 then sK none hE ws&&decide (2<=n) else true
mutual
def fQ:aZ->Bool
 |.mk k bP aW xs rt=>(decide (1<=k)&&decide (k<=9))&&(uv k bP aW.length xs.length rt.isSome&&(kW xs&&hF k bP aW (xs.map aZ.k) (c9 xs) xs.length (lD rt)))
def kW:List aZ->Bool
 |[]=>true
 |t::ts=>fQ t&&kW ts
def lD:Option aZ->Bool
 |none=>false
 |some t=>fQ t
end
theorem zt{t:aZ}:∀{l:List aZ},kW l=true->t∈l->fQ t=true
 |[],_,h=>by cases h
 |x::l,an,h=>by
  rw[kW,Bool.and_eq_true] at an
  rcases List.mem_cons.1 h with rfl|h
  · exact an.1
  · exact zt an.2 h
theorem zu(k:Nat)(bP:aJ)(aW:List aJ)(xs:List aZ)(rt:Option aZ):fQ (.mk k bP aW xs rt)=((decide (1<=k)&&decide (k<=9))&&(uv k bP aW.length xs.length rt.isSome&&(kW xs&&hF k bP aW (xs.map aZ.k) (c9 xs) xs.length (lD rt)))):=by rw[fQ]
mutual
theorem zv:∀t:aZ,fQ t=true->okW t=true
 |.mk k bP aW xs rt,h=>by
  rw[zu] at h
  simp only[Bool.and_eq_true,decide_eq_true_eq] at h
  obtain⟨⟨bG,sL⟩,a6,ab,aq⟩:=h
  have uw:=Io xs ab
  have Ip:rt.isSome=decide (k=8):=by
   unfold uv at a6
   simp only[Bool.and_eq_true] at a6
   have:=a6.2
   revert this
   cases rt.isSome<;>cases az:decide (k=8)<;>simp
  have a2:uu rt=true:=by
   cases rt with
   |none=>rw[uu]
   |some u=>
    have Qh:k=8:=by simpa using Ip.symm
    subst Qh
    have hu:fQ u=true:=by simpa[hF,lD] using aq
    rw[uu]
    exact zv u hu
  rw[okW]
  simp only[Bool.and_eq_true,Bool.or_eq_true,decide_eq_true_eq]
  refine⟨⟨⟨⟨⟨bG,sL⟩,?_⟩,?_⟩,uw⟩,a2⟩
  · by_cases e:k=7
    · subst e
      right
      have:aW.length=xs.length/\m9 none aW=true:=by simpa[hF] using aq
      exact this.1.symm
    · exact .inl e
  · by_cases e:k=8
    · right;rw[Ip];simp[e]
    · exact .inl e
theorem Io:∀l:List aZ,kW l=true->sJ l=true
 |[],_=>by rw[sJ]
 |t::l,h=>by
  rw[kW,Bool.and_eq_true] at h
  rw[sJ,zv t h.1,Io l h.2];rfl
end
def iX(c:Nat):List aJ->Nat
 |[]=>0
 |x::l=>x.length+c+iX c l
theorem Iq(sep:aJ):∀l:List aJ,(l.flatMap (λy=>sep++y)).length=iX sep.length l
 |[]=>rfl
 |x::l=>by
  rw[List.flatMap_cons,List.length_append,Iq sep l,List.length_append,iX]
  omega
theorem Da(sep:aJ):∀l:List aJ,(fP sep l).length<=iX sep.length l
 |[]=>Nat.le_refl _
 |x::l=>by
  show(x++l.flatMap _).length<=_
  rw[List.length_append,Iq,iX]
  omega
theorem Ir:∀(p:Option aJ) (aW:List aJ),m9 p aW=true->∀n∈aW,n.length<=24
 |_,[],_,n,aG=>by cases aG
 |p,x::l,h,n,aG=>by
  rw[m9,Bool.and_eq_true,Bool.and_eq_true] at h
  rcases List.mem_cons.1 aG with rfl|aG
  · exact Im h.1
  · exact Ir (some x) l h.2.2 n aG
def wM:List aZ->Prop
 |[]=>True
 |t::l=>(wr t).length+30<=300*sz t/\wM l
theorem Is:∀xs:List aZ,wM xs->iX 2 (c9 xs)<=300*eL xs
 |[],_=>by rw[c9,iX];omega
 |t::l,h=>by
  have aa:=h.1
  have:=Is l h.2
  rw[c9,iX,eL];omega
theorem It:∀(aW:List aJ) (xs:List aZ),wM xs->(∀n∈aW,n.length<=24)->iX 2 (kV aW (c9 xs))<=300*eL xs
 |[],xs,_,_=>by simp[kV,iX]
 |n::aW,[],_,_=>by simp[kV,c9,iX]
 |n::aW,t::l,h,aG=>by
  have aa:=h.1
  have ad:=aG n (by simp)
  have:=It aW l h.2 (λm hm=>aG m (by simp[hm]))
  unfold kV at this⊢
  rw[c9,List.zipWith_cons_cons,iX,eL]
  simp only[List.length_append,List.length_cons,List.length_nil]
  omega
theorem Iu:∀(xs:List aZ),wM xs->iX 3 (mh (xs.map aZ.k) (c9 xs))<=300*eL xs
 |[],_=>by simp[mh,c9,iX]
 |t::l,h=>by
  have aa:=h.1
  have:=Iu l h.2
  unfold mh at this⊢
  rw[List.map_cons,c9,List.zipWith_cons_cons,iX,eL]
  split
  · simp only[List.length_append,List.length_cons,List.length_nil]
    omega
  · omega
mutual
theorem Db:∀t:aZ,fQ t=true->(wr t).length+30<=300*sz t
 |.mk k bP aW xs rt,h=>by
  rw[zu] at h
  simp only[Bool.and_eq_true,decide_eq_true_eq] at h
  obtain⟨⟨bG,sL⟩,a6,ab,aq⟩:=h
  have hs:=Iv xs ab
  rw[wr,sI]
  unfold shape
  split
  · rename_i e
    subst e
    have:qP bP=true:=by simpa[hF] using aq
    unfold qP at this
    simp only[Bool.and_eq_true,decide_eq_true_eq] at this
    omega
  split
  · rename_i e
    subst e
    have hf:aW.length=xs.length/\m9 none aW=true:=by simpa[hF] using aq
    have a4:=It aW xs hs (Ir none aW hf.2)
    have a_:(fP [44,32] (kV aW (c9 xs))).length<=iX 2 (kV aW (c9 xs)):=Da [44,32] _
    simp only[List.length_append,List.length_cons,List.length_nil]
    omega
  split
  · rename_i e
    subst e
    have a4:=Is xs hs
    have a_:(fP [44,32] (c9 xs)).length<=iX 2 (c9 xs):=Da [44,32] _
    have ai:(lC rt).length<=300*dA rt:=by
     cases rt with
     |none=>rw[lC];simp
     |some u=>
      have hu:fQ u=true:=by simpa[hF,lD] using aq
      have:=Db u hu
      rw[lC,kU];omega
    simp only[List.length_append,List.length_cons,List.length_nil]
    omega
  split
  · have a4:=Iu xs hs
    have a_:(fP [32,124,32] (mh (xs.map aZ.k) (c9 xs))).length<=iX 3 (mh (xs.map aZ.k) (c9 xs)):=Da [32,124,32] _
    omega
  · have:(word k).length<=4:=by
      unfold word;split<;>simp
    omega
theorem Iv:∀l:List aZ,kW l=true->wM l
 |[],_=>trivial
 |t::l,h=>by
  rw[kW,Bool.and_eq_true] at h
  exact⟨Db t h.1,Iv l h.2⟩
end
end cu
namespace Go.Proofs.b0
open Go aw Go.Proofs cu
set_option maxRecDepth 100000
set_option maxHeartbeats 1000000
def dZ(B:Nat)(h:J)(v:I)(vs:List I):Prop:=(v=.a0/\vs=[])\/∃b off aE,v=.slice b off vs.length aE/\b<B/\(∀i (ae:i<vs.length),ay h b (off+i*1)=some vs[i])/\0<vs.length/\aE≠ .dead
mutual
def ef(B:Nat)(h:J):aZ->I->Prop
 |.mk k bP aW xs rt,v=>∃r dF cB dg vs b3 a9 up,v=.ptr r 0/\r<B/\h.get r=some (.cells [.int .i64 (Int.ofNat k),.str bP,dF,cB,dg] 51 b3 a9 up)/\dZ B h dF (aW.map .str)/\dZ B h cB vs/\eg B h xs vs/\dB B h rt dg
def eg(B:Nat)(h:J):List aZ->List I->Prop
 |[],vs=>vs=[]
 |t::ts,vs=>∃v ws,vs=v::ws/\ef B h t v/\eg B h ts ws
def dB(B:Nat)(h:J):Option aZ->I->Prop
 |none,v=>v=.bd
 |some t,v=>ef B h t v
end
def ey(B:Nat)(h g:J):Prop:=∀b,b<B->g.get b=h.get b
theorem ey.ext{B C:Nat}{h g:J}(e:Ext C h g)(bM:B<=C):ey B h g:=λb af=>e.get b (by omega)
theorem dZ.bZ{B:Nat}{h g:J}{v:I}{vs:List I}(e:ey B h g)(hs:dZ B h v vs):dZ B g v vs:=by
 rcases hs with hs|⟨b,off,aE,aa,ad,ar,aM⟩
 · exact .inl hs
 · refine .inr ⟨b,off,aE,aa,ad,λi ae=>?_,aM⟩
   rw[<-ar i ae]
   unfold ay
   rw[e b ad]
theorem dZ.le{B C:Nat}{h:J}{v:I}{vs:List I}(e:B<=C)(hs:dZ B h v vs):dZ C h v vs:=by
 rcases hs with hs|⟨b,off,aE,aa,ad,ar,aM⟩
 · exact .inl hs
 · exact .inr ⟨b,off,aE,aa,by omega,ar,aM⟩
mutual
theorem ef.bZ{B:Nat}{h g:J}(e:ey B h g):∀(t:aZ) (v:I),ef B h t v->ef B g t v
 |.mk k bP aW xs rt,v,ab=>by
  obtain⟨r,dF,cB,dg,vs,b3,a9,up,aa,ad,ar,aM,bS,cK,ew⟩:=ab
  exact⟨r,dF,cB,dg,vs,b3,a9,up,aa,ad,(e r ad).trans ar,aM.bZ e,bS.bZ e,eg.bZ e xs vs cK,dB.bZ e rt dg ew⟩
theorem eg.bZ{B:Nat}{h g:J}(e:ey B h g):∀(ts:List aZ) (vs:List I),eg B h ts vs->eg B g ts vs
 |[],vs,ab=>ab
 |t::ts,vs,ab=>by
  obtain⟨v,ws,aa,ad,ar⟩:=ab
  exact⟨v,ws,aa,ef.bZ e t v ad,eg.bZ e ts ws ar⟩
theorem dB.bZ{B:Nat}{h g:J}(e:ey B h g):∀(t:Option aZ) (v:I),dB B h t v->dB B g t v
 |none,v,ab=>ab
 |some t,v,ab=>ef.bZ e t v ab
end
mutual
theorem ef.le{B C:Nat}{h:J}(e:B<=C):∀(t:aZ) (v:I),ef B h t v->ef C h t v
 |.mk k bP aW xs rt,v,ab=>by
  obtain⟨r,dF,cB,dg,vs,b3,a9,up,aa,ad,ar,aM,bS,cK,ew⟩:=ab
  exact⟨r,dF,cB,dg,vs,b3,a9,up,aa,by omega,ar,aM.le e,bS.le e,eg.le e xs vs cK,dB.le e rt dg ew⟩
theorem eg.le{B C:Nat}{h:J}(e:B<=C):∀(ts:List aZ) (vs:List I),eg B h ts vs->eg C h ts vs
 |[],vs,ab=>ab
 |t::ts,vs,ab=>by
  obtain⟨v,ws,aa,ad,ar⟩:=ab
  exact⟨v,ws,aa,ef.le e t v ad,eg.le e ts ws ar⟩
theorem dB.le{B C:Nat}{h:J}(e:B<=C):∀(t:Option aZ) (v:I),dB B h t v->dB C h t v
 |none,v,ab=>ab
 |some t,v,ab=>ef.le e t v ab
end
theorem eg.len{B:Nat}{h:J}:∀{ts:List aZ} {vs:List I},eg B h ts vs->vs.length=ts.length
 |[],vs,ab=>by
  have e:vs=[]:=ab
  subst e;rfl
 |s::ts,vs,ab=>by
  obtain⟨u,ws,rfl,ad,ar⟩:=ab
  simp[eg.len ar]
theorem eg.get{B:Nat}{h:J}:∀{ts:List aZ} {vs:List I},eg B h ts vs->∀i (aa:i<vs.length) (ad:i<ts.length),ef B h ts[i] vs[i]
 |[],vs,ab,i,aa,ad=>by simp at ad
 |s::ts,vs,ab,i,aa,ad=>by
  obtain⟨u,ws,rfl,ar,aM⟩:=ab
  cases i with
  |zero=>exact ar
  |succ i=>exact eg.get aM i (by simpa using aa) (by simpa using ad)
theorem dZ.snd{B:Nat}{h:J}{v:I}{vs:List I}(hs:dZ B h v vs):I.sound v=true:=by
 rcases hs with⟨rfl,_⟩|⟨b,off,aE,rfl,_⟩<;>rfl
theorem dZ.len{B:Nat}{h g:J}{v:I}{vs:List I}{t e:TypeId}(hu:Tryz.prog.underlying t=some (.slice e))(hs:dZ B h v vs):cb Tryz.prog g t v=some (.int .i64 (Int.ofNat vs.length)):=by
 rcases hs with⟨rfl,rfl⟩|⟨b,off,aE,rfl,_⟩
 · simp only[cb,hu];rfl
 · simp only[cb,hu]
theorem dB.ux{B:Nat}{h:J}{ot:Option aZ}{v:I}(aB:dB B h ot v):v=.bd\/∃R,v=.ptr R 0:=by
 cases ot with
 |none=>exact .inl aB
 |some u=>
  cases u with
  |mk k bP aW ys rt=>obtain⟨r,dF,cB,_,vs,b3,a9,up,rfl,_⟩:=aB;exact .inr ⟨r,rfl⟩
theorem dB.snd{B:Nat}{h:J}{ot:Option aZ}{v:I}(aB:dB B h ot v):I.sound v=true:=by
 rcases aB.ux with rfl|⟨R,rfl⟩<;>rfl
theorem ef.snd{B:Nat}{h:J}{t:aZ}{v:I}(aB:ef B h t v):I.sound v=true:=dB.snd (ot:=some t) aB
theorem mi{p:Prop}(h:p:=by first|with_reducible assumption|rfl|exact dZ.snd (by with_reducible assumption)|exact dZ.qQ (by with_reducible assumption)|exact dB.snd (by with_reducible assumption)|exact dB.qQ (by with_reducible assumption)|exact ef.snd (by with_reducible assumption)|exact ef.qQ (by with_reducible assumption)):p:=h
noncomputable def bW:Nat->List I->J->Option (I×J):=C1 (o1 [⟨12,[],.bool true⟩,⟨139,[.str m8],.aK [.agg (iW og),.bool true]⟩,⟨139,[.str (m8++[45,47,46])],.aK [.agg (iW qO),.bool true]⟩]) (sG Tryz.prog.globals.size [] [kg])
noncomputable def Y(n:Nat):aP->List I->J->av:=e4 Tryz.prog bW n
end Go.Proofs.b0
namespace Go.Proofs.b0
open Go aw Go.Proofs cu
set_option maxRecDepth 100000
set_option maxHeartbeats 1000000
end Go.Proofs.b0
namespace Go.Proofs.b0
open Go aw Go.Proofs cu
set_option maxRecDepth 100000
set_option maxHeartbeats 1000000
theorem Qi(call:aP->List I->J->av)(v:I)(h:J):
  aV Tryz.prog Tryz.f70 none call [0] (ao.mk [(0,v)] [] .none h) (.nrm)
   (ao.mk [(0,v)] [] .none h):=
 bY [0] (hs:=[]) (by kernel_rfl)<| .nil
theorem Qj(call:aP->List I->J->av)(v:I)(h g:J)
  (H1:aw.storeCells (J.push h (.cells [.int .i64 (.ofNat 0)] 3 .own 0 0)) (J.n h) 0 [.int .i64 (.ofNat 0)]=some g):
  aV Tryz.prog Tryz.f70 none call [1,0] (ao.mk [(0,v)] [] .none h) (.nrm)
   (ao.mk [(0,v),(3,.ptr (J.n h) 0)] [] .none g):=
 bY [0,3] (hs:=[.hT (.aK []) g]) (by kernel_rfl)<| .cons (⟨by kernel_rfl,H1,rfl⟩:some 1=some 1/\aw.storeCells (J.push h (ca.cells [I.int IntKind.i64 (Int.ofNat 0)] 3 fB.own 0 0)) (J.n h) 0 [I.int IntKind.i64 (Int.ofNat 0)]=some g/\I.aK []=I.aK [])<| .nil
theorem Qk(call:aP->List I->J->av)(v w:I)(a:Nat)(h g:J)
  (H1:call (.fn 86) [v] h=av.ret w g):
  aV Tryz.prog Tryz.f70 none call [1,1,0,0] (ao.mk [(0,v),(3,.ptr a 0)] [] .none h) (.nrm)
   (ao.mk [(3,.ptr a 0),(5,w)] [] .none g):=
 bY [3,5] (hs:=[.c w g]) (by kernel_rfl)<| .cons H1<| .nil
theorem Ql(call:aP->List I->J->av)(l a i j:Nat)(h g:J)
  (H1:ay h a 0=some (.int .i64 (.ofNat i)))
  (bl:arith .add .i64 (.ofNat i) (.ofNat 1)=some (.int .i64 (.ofNat j)))
  (cz:aw.storeCells h a 0 [.int .i64 (.ofNat j)]=some g)
  (cv:ay g a 0=some (.int .i64 (.ofNat j)))
  (dR:et (.ofNat 60) (.ofNat j)=true):
  aV Tryz.prog Tryz.f70 (some l) call [1,1,0,1,0,1] (ao.mk [(3,.ptr a 0)] [] .none h) (.exit 0)
   (ao.mk [(3,.ptr a 0)] [] .none g):=
 bY [3] (hs:=[.v (.int .i64 (.ofNat i)),.v (.int .i64 (.ofNat j)),.hT (.aK []) g,.v (.int .i64 (.ofNat j)),.b true]) (by kernel_rfl)<| .cons H1<| .cons bl<| .cons (⟨by kernel_rfl,cz,rfl⟩:some 1=some 1/\aw.storeCells h a 0 [I.int IntKind.i64 (Int.ofNat j)]=some g/\I.aK []=I.aK [])<| .cons cv<| .cons dR<| .nil
theorem Qm(call:aP->List I->J->av)(l a i j:Nat)(h g:J)
  (H1:ay h a 0=some (.int .i64 (.ofNat i)))
  (bl:arith .add .i64 (.ofNat i) (.ofNat 1)=some (.int .i64 (.ofNat j)))
  (cz:aw.storeCells h a 0 [.int .i64 (.ofNat j)]=some g)
  (cv:ay g a 0=some (.int .i64 (.ofNat j)))
  (dR:et (.ofNat 60) (.ofNat j)=false):
  aV Tryz.prog Tryz.f70 (some l) call [1,1,0,1,0,1] (ao.mk [(3,.ptr a 0)] [] .none h) (.nrm)
   (ao.mk [(3,.ptr a 0)] [] .none g):=
 bY [3] (hs:=[.v (.int .i64 (.ofNat i)),.v (.int .i64 (.ofNat j)),.hT (.aK []) g,.v (.int .i64 (.ofNat j)),.b false]) (by kernel_rfl)<| .cons H1<| .cons bl<| .cons (⟨by kernel_rfl,cz,rfl⟩:some 1=some 1/\aw.storeCells h a 0 [I.int IntKind.i64 (Int.ofNat j)]=some g/\I.aK []=I.aK [])<| .cons cv<| .cons dR<| .nil
theorem Qn(call:aP->List I->J->av)(a j dD:Nat)(h:J)
  (H1:ay h a 0=some (.int .i64 (.ofNat j))):
  aV Tryz.prog Tryz.f70 none call [1,1,1] (ao.mk [(3,.ptr a 0)] [.collected dD] .none h) (.ret)
   (ao.mk [(2,.int .i64 (.ofNat j))] [.collected dD] .none h):=
 bY [2] (hs:=[.v (.int .i64 (.ofNat j))]) (by kernel_rfl)<| .cons H1<| .nil
theorem Qo(call:aP->List I->J->av)(r:Nat)(h:J):
  aV Tryz.prog Tryz.f86 none call [] (ao.mk [(0,.ptr r 0)] [] .none h) (.ret)
   (ao.mk [(2,.fn 99 [] [.ptr (J.n h) 0])] [] .none (J.push h (.cells [.ptr r 0] 47 .own 0 0))):=
 bY [2] (hs:=[]) (by kernel_rfl)<| .nil
theorem Qp(call:aP->List I->J->av)(h:J):
  aV Tryz.prog Tryz.f86 none call [] (ao.mk [(0,.bd)] [] .none h) (.ret)
   (ao.mk [(2,.fn 99 [] [.ptr (J.n h) 0])] [] .none (J.push h (.cells [.bd] 47 .own 0 0))):=
 bY [2] (hs:=[]) (by kernel_rfl)<| .nil
theorem Qq(call:aP->List I->J->av)(l a:Nat)(v w:I)(h aa ad:J)
  (H1:aw.storeCells (J.push (J.push h (.cells [.bQ l] 139 .own 0 0)) (.cells [.eN] 139 .own 0 0)) (J.n (J.push h (.cells [.bQ l] 139 .own 0 0))) 0 [.fn 100 [] [.ptr (J.n h) 0,.ptr (J.n (J.push h (.cells [.bQ l] 139 .own 0 0))) 0]]=some aa)
  (bl:ay aa (J.n (J.push h (.cells [.bQ l] 139 .own 0 0))) 0=some (.fn 100 [] [.ptr (J.n h) 0,.ptr (J.n h+1) 0]))
  (cz:ay aa a 0=some v)
  (cv:call (.fn 100) [v,.ptr (J.n h) 0,.ptr (J.n h+1) 0] aa=av.ret w ad):
  aV Tryz.prog Tryz.f99 none call [] (ao.mk [(0,.bQ l),(1,.ptr a 0)] [] .none h) (.nrm)
   (ao.mk [] [] .none ad):=
 bY [] (hs:=[.hT (.aK []) aa,.v (.fn 100 [] [.ptr (J.n h) 0,.ptr (J.n h+1) 0]),.v v,.c w ad]) (by kernel_rfl)<| .cons (⟨by kernel_rfl,H1,rfl⟩:some 1=some 1/\aw.storeCells (J.push (J.push h (ca.cells [I.bQ l] 139 fB.own 0 0)) (ca.cells [I.eN] 139 fB.own 0 0)) (J.n (J.push h (ca.cells [I.bQ l] 139 fB.own 0 0))) 0 [I.fn 100 [] [I.ptr (J.n h) 0,I.ptr (J.n (J.push h (ca.cells [I.bQ l] 139 fB.own 0 0))) 0]]=some aa/\I.aK []=I.aK [])<| .cons bl<| .cons cz<| .cons cv<| .nil
theorem Qr(call:aP->List I->J->av)(y z:Nat)(h:J):
  aV Tryz.prog Tryz.f100 none call [] (ao.mk [(0,.bd),(1,.ptr y 0),(2,.ptr z 0)] [] .none h) (.ret)
   (ao.mk [(4,.bool true)] [] .none h):=
 bY [4] (hs:=[.v (.bool true),.b true]) (by kernel_rfl)<| .cons (by kernel_rfl:dX Tryz.prog h BinOp.eql 47 (Operand.tmp 7) (Operand.const (Value.pointer none)) I.bd I.bd=some (I.bool true))<| .cons (by kernel_rfl:true=true)<| .nil
theorem Qs(call:aP->List I->J->av)(r y z:Nat)(h:J):
  aV Tryz.prog Tryz.f100 none call [0] (ao.mk [(0,.ptr r 0),(1,.ptr y 0),(2,.ptr z 0)] [] .none h) (.nrm)
   (ao.mk [(0,.ptr r 0),(1,.ptr y 0),(2,.ptr z 0)] [] .none h):=
 bY [0,1,2] (hs:=[]) (by kernel_rfl)<| .nil
theorem Qt(call:aP->List I->J->av)(r y z:Nat)(h:J):
  aV Tryz.prog Tryz.f100 none call [1,0] (ao.mk [(0,.ptr r 0),(1,.ptr y 0),(2,.ptr z 0)] [] .none h) (.nrm)
   (ao.mk [(0,.ptr r 0),(1,.ptr y 0),(2,.ptr z 0)] [] .none h):=
 bY [0,1,2] (hs:=[.v (.bool false),.b false]) (by kernel_rfl)<| .cons (by kernel_rfl:dX Tryz.prog h BinOp.eql 47 (Operand.tmp 7) (Operand.const (Value.pointer none)) (I.ptr r 0) I.bd=some (I.bool false))<| .cons (by kernel_rfl:false=false)<| .nil
theorem Qu(call:aP->List I->J->av)(r y z l:Nat)(h g:J)
  (H1:ay h y 0=some (.bQ l))
  (bl:call (.bQ l) [.ptr r 0] h=av.ret (.bool true) g):
  aV Tryz.prog Tryz.f100 none call [1,1,0] (ao.mk [(0,.ptr r 0),(1,.ptr y 0),(2,.ptr z 0)] [] .none h) (.nrm)
   (ao.mk [(0,.ptr r 0),(1,.ptr y 0),(2,.ptr z 0)] [] .none g):=
 bY [0,1,2] (hs:=[.v (.bQ l),.c (.bool true) g,.b false]) (by kernel_rfl)<| .cons H1<| .cons bl<| .cons (by kernel_rfl:(!true)=false)<| .nil
theorem Qv(call:aP->List I->J->av)(r y z l:Nat)(h g:J)
  (H1:ay h y 0=some (.bQ l))
  (bl:call (.bQ l) [.ptr r 0] h=av.ret (.bool false) g):
  aV Tryz.prog Tryz.f100 none call [1,1,0] (ao.mk [(0,.ptr r 0),(1,.ptr y 0),(2,.ptr z 0)] [] .none h) (.ret)
   (ao.mk [(4,.bool false)] [] .none g):=
 bY [4] (hs:=[.v (.bQ l),.c (.bool false) g,.b true]) (by kernel_rfl)<| .cons H1<| .cons bl<| .cons (by kernel_rfl:(!false)=true)<| .nil
theorem Qw(call:aP->List I->J->av)(r y z b off N:Nat)(aE:cf)(h:J)
  (H1:ay h r (0+3)=some (.slice b off N aE)):
  aV Tryz.prog Tryz.f100 none call [1,1,1,0,0] (ao.mk [(0,.ptr r 0),(1,.ptr y 0),(2,.ptr z 0)] [] .none h) (.nrm)
   (ao.mk [(0,.ptr r 0),(1,.ptr y 0),(2,.ptr z 0),(16,.slice b off N aE),(17,.int .i64 (.ofNat N)),(18,.int .i64 (.ofNat 0))] [] .none h):=
 bY [0,1,2,16,17,18] (hs:=[.v (.slice b off N aE)]) (by kernel_rfl)<| .cons H1<| .nil
theorem Qx(call:aP->List I->J->av)(r y z:Nat)(h:J)
  (H1:ay h r (0+3)=some .a0):
  aV Tryz.prog Tryz.f100 none call [1,1,1,0,0] (ao.mk [(0,.ptr r 0),(1,.ptr y 0),(2,.ptr z 0)] [] .none h) (.nrm)
   (ao.mk [(0,.ptr r 0),(1,.ptr y 0),(2,.ptr z 0),(16,.a0),(17,.int .i64 (.ofNat 0)),(18,.int .i64 (.ofNat 0))] [] .none h):=
 bY [0,1,2,16,17,18] (hs:=[.v .a0]) (by kernel_rfl)<| .cons H1<| .nil
theorem Iw(call:aP->List I->J->av)(r y z N i:Nat)(v:I)(h:J)
  (H1:et (.ofNat i) (.ofNat N)=false):
  aV Tryz.prog Tryz.f100 none call [1,1,1,0,1,0,0] (ao.mk [(0,.ptr r 0),(1,.ptr y 0),(2,.ptr z 0),(16,v),(17,.int .i64 (.ofNat N)),(18,.int .i64 (.ofNat i))] [] .none h) (.exit 0)
   (ao.mk [(0,.ptr r 0),(1,.ptr y 0),(2,.ptr z 0)] [] .none h):=
 bY [0,1,2] (hs:=[.b false]) (by kernel_rfl)<| .cons H1<| .nil
theorem Qy(call:aP->List I->J->av)(r y z b off N i q j:Nat)(aE:cf)(x:I)(h g:J)
  (H1:et (.ofNat i) (.ofNat N)=true)
  (bl:Nat.le (Nat.succ i) N/\I.ptr b q=I.ptr b (off+i*1))
  (cz:ay h b q=some x)
  (cv:ay h z 0=some (.fn 100 [] [.ptr y 0,.ptr z 0]))
  (dR:call (.fn 100) [x,.ptr y 0,.ptr z 0] h=av.ret (.bool true) g)
  (gV:arith .add .i64 (.ofNat i) (.ofNat 1)=some (.int .i64 (.ofNat j))):
  aV Tryz.prog Tryz.f100 none call [1,1,1,0,1,0,0] (ao.mk [(0,.ptr r 0),(1,.ptr y 0),(2,.ptr z 0),(16,.slice b off N aE),(17,.int .i64 (.ofNat N)),(18,.int .i64 (.ofNat i))] [] .none h) (.nrm)
   (ao.mk [(0,.ptr r 0),(1,.ptr y 0),(2,.ptr z 0),(16,.slice b off N aE),(17,.int .i64 (.ofNat N)),(18,.int .i64 (.ofNat j))] [] .none g):=
 bY [0,1,2,16,17,18] (hs:=[.b true,.v (.ptr b q),.v x,.v (.fn 100 [] [.ptr y 0,.ptr z 0]),.c (.bool true) g,.b false,.v (.int .i64 (.ofNat j))]) (by kernel_rfl)<| .cons H1<| .cons bl<| .cons cz<| .cons cv<| .cons dR<| .cons (by kernel_rfl:(!true)=false)<| .cons gV<| .nil
theorem Qz(call:aP->List I->J->av)(r y z b off N i q:Nat)(aE:cf)(x:I)(h g:J)
  (H1:et (.ofNat i) (.ofNat N)=true)
  (bl:Nat.le (Nat.succ i) N/\I.ptr b q=I.ptr b (off+i*1))
  (cz:ay h b q=some x)
  (cv:ay h z 0=some (.fn 100 [] [.ptr y 0,.ptr z 0]))
  (dR:call (.fn 100) [x,.ptr y 0,.ptr z 0] h=av.ret (.bool false) g):
  aV Tryz.prog Tryz.f100 none call [1,1,1,0,1,0,0] (ao.mk [(0,.ptr r 0),(1,.ptr y 0),(2,.ptr z 0),(16,.slice b off N aE),(17,.int .i64 (.ofNat N)),(18,.int .i64 (.ofNat i))] [] .none h) (.ret)
   (ao.mk [(4,.bool false)] [] .none g):=
 bY [4] (hs:=[.b true,.v (.ptr b q),.v x,.v (.fn 100 [] [.ptr y 0,.ptr z 0]),.c (.bool false) g,.b true]) (by kernel_rfl)<| .cons H1<| .cons bl<| .cons cz<| .cons cv<| .cons dR<| .cons (by kernel_rfl:(!false)=true)<| .nil
theorem QA(call:aP->List I->J->av)(r y z:Nat)(x v:I)(h g:J)
  (H1:ay (J.room h 7) z 0=some (.fn 100 [] [.ptr y 0,.ptr z 0]))
  (bl:ay (J.room h 7) r (0+4)=some x)
  (cz:call (.fn 100) [x,.ptr y 0,.ptr z 0] (J.room h 7)=av.ret v g)
  (cv:I.sound x=true:=by first|with_reducible assumption|rfl|exact dZ.snd (by with_reducible assumption)|exact dZ.qQ (by with_reducible assumption)|exact dB.snd (by with_reducible assumption)|exact dB.qQ (by with_reducible assumption)|exact ef.snd (by with_reducible assumption)|exact ef.qQ (by with_reducible assumption))
  (dR:I.sound v=true:=by first|with_reducible assumption|rfl|exact dZ.snd (by with_reducible assumption)|exact dZ.qQ (by with_reducible assumption)|exact dB.snd (by with_reducible assumption)|exact dB.qQ (by with_reducible assumption)|exact ef.snd (by with_reducible assumption)|exact ef.qQ (by with_reducible assumption)):
  aV Tryz.prog Tryz.f100 none call [1,1,1,1] (ao.mk [(0,.ptr r 0),(1,.ptr y 0),(2,.ptr z 0)] [] .none h) (.ret)
   (ao.mk [(4,v)] [] .none g):=
 bY [4] (hs:=[.v (.fn 100 [] [.ptr y 0,.ptr z 0]),.v x,.c v g]) (by kernel_rfl)<| .cons H1<| .cons bl<| .cons cz<| .cons (by kernel_rfl:I.sound (I.fn 100 [] [I.ptr y 0,I.ptr z 0])=true)<| .cons H1<| .cons (by kernel_rfl:I.sound (I.ptr r 0)=true)<| .cons (by kernel_rfl:I.ptr r 0=I.ptr r 0)<| .cons (by kernel_rfl:I.sound (I.ptr r 0)=true)<| .cons (by kernel_rfl:I.ptr r 0=I.ptr r 0)<| .cons (by kernel_rfl:I.sound (I.ptr r (0+4))=true)<| .cons (by kernel_rfl:I.ptr r (0+4)=I.ptr r (0+4))<| .cons cv<| .cons bl<| .cons dR<| .cons (by kernel_rfl:v=v)<| .nil
noncomputable def Dc:Code:=sub (fm Tryz.f70) [1,1,0,1,0,0]
noncomputable def QB:Code:=sub (fm Tryz.f70) [1,1,0,1,0,1]
theorem QC:Dc=.skip:=by kernel_rfl
noncomputable abbrev uy(s:LoopState)(p:Option Code)(r:aL)(N:Nat):ca:=.loop s p (dx Tryz.f70) r [6] Dc QB (N+2)
structure pk(N:Nat)(h:J)(r:aL)(c:Nat)(x:J):Prop where
 wN:x.get N=some (.cells [.int .i64 (Int.ofNat c)] 3 .own 0 0)
 iI:x.get (N+2)=some (.defrd (some []))
 pn:x.get (N+3)=some (uy .ready none r N)
 bQ:x.get (N+4)=some (.cells [.bQ (N+3)] 139 .own 0 0)
 uz:x.get (N+5)=some (.cells [.fn 100 [] [.ptr (N+4) 0,.ptr (N+5) 0]] 139 .own 0 0)
 ext:Ext N h x
structure Ix(N:Nat)(h:J)(r:aL)(x:J):Prop where
 wN:x.get N=some (.cells [.int .i64 (Int.ofNat 61)] 3 .own 0 0)
 iI:x.get (N+2)=some (.defrd (some []))
 pn:x.get (N+3)=some (uy .done (some (.exit 0)) r N)
 ext:Ext N h x
theorem pk.room{N:Nat}{h:J}{r:aL}{c:Nat}{x:J}(ae:pk N h r c x)(k:Nat):pk N h r c (x.room k):=⟨ae.wN,ae.iI,ae.pn,ae.bQ,ae.uz,ae.ext.hC⟩
theorem QD(m:Nat){N:Nat}{h:J}{r:aL}{c:Nat}{x:J}(ai:aw.Mod r [(3,.ptr N 0)])(ae:pk N h r c x)(ag:c<=60)(v:I):
  ∃b y,Y (m+1) (.bQ (N+3)) [v] x=.ret (.bool b) y/\((b=true/\c+1<=60/\pk N h r (c+1) y)\/(b=false/\60<c+1/\Ix N h r y)):=by
 have aU:Y (m+1) (.bQ (N+3)) [v] x=nD Tryz.prog (Y m) (N+3) [v] x:=rfl
 rw[aU]
 have aX:∀q,cW Tryz.prog (dx Tryz.f70) (some (N+3)) (Y m) Dc ⟨put 6 v [(3,.ptr N 0)],[],q,x⟩ .nrm ⟨[(3,.ptr N 0)],[],q,x⟩:=λq r' hm=>by
  rw[QC]
  exact⟨r',rfl,hm.sub ⟨rfl,trivial⟩⟩
 have fG:(x.set (N+3) (some (uy .busy none r N))).get N=some (.cells [.int .i64 (Int.ofNat c)] 3 .own 0 0):=by
  rw[J.bL,if_neg (by omega)];exact ae.wN
 by_cases wO:c+1<=60
 · have af:=Qm (Y m) (N+3) N c (c+1) _ _ (kO fG) (wi (m:=100) (by omega) (by decide)) (y3 (y:=.int .i64 (Int.ofNat (c+1))) rfl fG) (kO (t:=3) (by rw[J.bL,if_pos rfl])) (o4 (by omega))
   have e:=Hm ae.pn ai (aX _) af (by rw[J.bL,if_neg (by omega),J.bL,if_pos rfl])
   rw[e]
   refine⟨true,_,rfl,.inl ⟨rfl,wO,?_,?_,?_,?_,?_,?_⟩⟩
   · simp only[J.bL];rw[if_neg (by omega),if_pos trivial]
   · simp only[J.bL];rw[if_neg (by omega),if_neg (by omega),if_neg (by omega)];exact ae.iI
   · simp only[J.bL];rw[if_pos trivial]
   · simp only[J.bL];rw[if_neg (by omega),if_neg (by omega),if_neg (by omega)];exact ae.bQ
   · simp only[J.bL];rw[if_neg (by omega),if_neg (by omega),if_neg (by omega)];exact ae.uz
   · exact((ae.ext.gK (by omega)).gK (by omega)).gK (by omega)
 · have af:=Ql (Y m) (N+3) N c (c+1) _ _ (kO fG) (wi (m:=100) (by omega) (by decide)) (y3 (y:=.int .i64 (Int.ofNat (c+1))) rfl fG) (kO (t:=3) (by rw[J.bL,if_pos rfl])) (kM (by omega))
   have e:=Hm ae.pn ai (aX _) af (by rw[J.bL,if_neg (by omega),J.bL,if_pos rfl])
   rw[e]
   have vF:c+1=61:=by omega
   refine⟨false,_,rfl,.inr ⟨rfl,by omega,?_,?_,?_,?_⟩⟩
   · simp only[J.bL];rw[if_neg (by omega),if_pos trivial,vF]
   · simp only[J.bL];rw[if_neg (by omega),if_neg (by omega),if_neg (by omega)];exact ae.iI
   · simp only[J.bL];rw[if_pos trivial]
   · exact((ae.ext.gK (by omega)).gK (by omega)).gK (by omega)
def sM(N:Nat)(h:J)(r:aL)(c s:Nat)(b:Bool)(y:J):Prop:=(b=true/\c+s<=60/\pk N h r (c+s) y)\/(b=false/\60<c+s/\Ix N h r y)
def Dd(m:Nat)(N:Nat)(h:J)(r:aL)(B:Nat)(ot:Option aZ):Prop:=∀(v:I) (c:Nat) (x:J),c<=60->dB B h ot v->pk N h r c x->∃b y,Y m (.fn 100) [v,.ptr (N+4) 0,.ptr (N+5) 0] x=.ret (.bool b) y/\sM N h r c (dA ot) b y
theorem Iy{m N B R b off:Nat}{h:J}{r:aL}{xs:List aZ}{vs:List I}(aE:cf)(bM:B<=N)(af:b<B)(ab:eg B h xs vs)(an:∀i (ae:i<vs.length),ay h b (off+i*1)=some vs[i])(hlen:vs.length<=1000000)
  (bg:∀i (ad:i<xs.length),Dd m N h r B (some xs[i])):∀(k i c:Nat) (x:J),vs.length-i=k->i<=vs.length->c<=60->pk N h r c x->
  ∃e Γ y,fw Tryz.prog Tryz.f100 none (Y m) [1,1,1,0,1,0] (k+1) ⟨[(0,.ptr R 0),(1,.ptr (N+4) 0),(2,.ptr (N+5) 0),(16,.slice b off vs.length aE),(17,.int .i64 (Int.ofNat vs.length)),(18,.int .i64 (Int.ofNat i))],[],.none,x⟩ e ⟨Γ,[],.none,y⟩/\
   ((e=.exit 0/\Γ=[(0,.ptr R 0),(1,.ptr (N+4) 0),(2,.ptr (N+5) 0)]/\sM N h r c (eL (xs.drop i)) true y)\/(e=.ret/\Γ=[(4,.bool false)]/\sM N h r c (eL (xs.drop i)) false y))
 |0,i,c,x,aq,ae,ag,mj=>by
  have gH:=eg.len ab
  obtain rfl:i=vs.length:=by omega
  rw[List.drop_of_length_le (by omega)]
  exact⟨_,_,_,.exit (Iw (Y m) R (N+4) (N+5) _ _ _ x (o4 (by omega))) (by simp),.inl ⟨rfl,rfl,.inl ⟨rfl,ag,mj⟩⟩⟩
 |k+1,i,c,x,aq,ae,ag,mj=>by
  have gH:=eg.len ab
  have aa:i<vs.length:=by omega
  have ad:i<xs.length:=by omega
  have az:eL (xs.drop i)=sz xs[i]+eL (xs.drop (i+1)):=by
   rw[List.drop_eq_getElem_cons ad];rfl
  have gj:ay x b (off+i*1)=some vs[i]:=by
   rw[<-an i aa]
   unfold ay
   rw[mj.ext.get b (by omega)]
  obtain⟨dh,y,aC,ax⟩:=bg i ad vs[i] c x ag (eg.get ab i aa ad) mj
  have eR:dA (some xs[i])=sz xs[i]:=by unfold dA;rfl
  rw[eR] at ax
  rcases ax with⟨rfl,bp,ds⟩|⟨rfl,bp,ds⟩
  · have st:=Qy (Y m) R (N+4) (N+5) b off vs.length i (off+i*1) (i+1) aE vs[i] x y (kM aa) ⟨aa,rfl⟩ gj (kO mj.uz) aC (wi aa (by omega))
    obtain⟨e,Γ,z,bq,bT⟩:=Iy (R:=R) aE bM af ab an hlen bg k (i+1) (c+sz xs[i]) y (by omega) (by omega) bp ds
    refine⟨e,Γ,z,.step st bq,?_⟩
    unfold sM at bT⊢
    rw[az,<-Nat.add_assoc]
    exact bT
  · have st:=Qz (Y m) R (N+4) (N+5) b off vs.length i (off+i*1) aE vs[i] x y (kM aa) ⟨aa,rfl⟩ gj (kO mj.uz) aC
    exact⟨_,_,_,.exit st (by simp),.inr ⟨rfl,rfl,.inr ⟨rfl,by omega,ds⟩⟩⟩
theorem De{N B:Nat}{h:J}{r:aL}(ai:aw.Mod r [(3,.ptr N 0)])(bM:B<=N):∀(K:Nat) (ot:Option aZ),dA ot<=K->dA ot<=90000->∀m,dA ot+3<=m->Dd m N h r B ot
 |K,none,_,_,m,hm=>λv c x ag aB mj=>by
  obtain rfl:v=.bd:=aB
  obtain⟨m,rfl⟩:∃j,m=j+1:=⟨m-1,by omega⟩
  exact⟨true,x,eY (intr:=bW) (n:=m) (args:=[.bd,.ptr (N+4) 0,.ptr (N+5) 0]) Tryz.func100 (by kernel_rfl) rfl (by kernel_rfl) (Qr (Y m) (N+4) (N+5) x) (.inl rfl) (by kernel_rfl),.inl ⟨rfl,ag,mj⟩⟩
 |0,some t,dj,_,m,hm=>by
  have eR:dA (some t)=sz t:=by unfold dA;rfl
  have:=qN t
  omega
 |K+1,some (.mk k bP aW xs rt),dj,gQ,m,hm=>λv c x ag aB mj=>by
  have hs:dA (some (.mk k bP aW xs rt))=1+eL xs+dA rt:=by rw[kU,sI]
  obtain⟨R,dF,cB,dg,vs,b3,a9,up,rfl,ad,ar,aM,bS,cK,ew⟩:=aB
  rw[hs] at dj gQ hm⊢
  obtain⟨m,rfl⟩:∃j,m=j+1:=⟨m-1,by omega⟩
  obtain⟨m,rfl⟩:∃j,m=j+1:=⟨m-1,by omega⟩
  have gH:=eg.len cK
  have nI:=uq xs
  have rH:=Qs (Y (m+1)) R (N+4) (N+5) x
  have s1:=Qt (Y (m+1)) R (N+4) (N+5) x
  obtain⟨dh,y,aC,ax⟩:=QD m ai mj ag (.ptr R 0)
  rcases ax with⟨rfl,bp,ds⟩|⟨rfl,bp,ds⟩
  · have s2:=Qu (Y (m+1)) R (N+4) (N+5) (N+3) x y (kO mj.bQ) aC
    have wP:y.get R=some (.cells [.int .i64 (Int.ofNat k),.str bP,dF,cB,dg] 51 b3 a9 up):=by
     rw[ds.ext.get R (by omega)];exact ar
    have gj:ay y R (0+3)=some cB:=ba wP rfl
    have bg:∀i (ad:i<xs.length),Dd (m+1) N h r B (some xs[i]):=λi ad=>by
     have rJ:=m7 (List.getElem_mem ad)
     have eR:dA (some xs[i])=sz xs[i]:=by unfold dA;rfl
     exact De ai bM K (some xs[i]) (by omega) (by omega) (m+1) (by omega)
    have loop:∃e Γ z,aV Tryz.prog Tryz.f100 none (Y (m+1)) [1,1,1,0] ⟨[(0,.ptr R 0),(1,.ptr (N+4) 0),(2,.ptr (N+5) 0)],[],.none,y⟩ e ⟨Γ,[],.none,z⟩/\
      ((e=.nrm/\Γ=[(0,.ptr R 0),(1,.ptr (N+4) 0),(2,.ptr (N+5) 0)]/\sM N h r (c+1) (eL xs) true z)\/(e=.ret/\Γ=[(4,.bool false)]/\sM N h r (c+1) (eL xs) false z)):=by
     rcases bS with⟨rfl,rfl⟩|⟨b,off,aE,rfl,af,an,_⟩
     · have j4:xs=[]:=List.eq_nil_of_length_eq_zero (by simpa using gH.symm)
       subst j4
       refine⟨_,_,_,aV.seq (p:=[1,1,1,0]) (by kernel_rfl) (Qx (Y (m+1)) R (N+4) (N+5) y gj) (aV.block (p:=[1,1,1,0,1]) (id:=0) (by kernel_rfl) (fw.run (p:=[1,1,1,0,1,0]) (n:=1) (by kernel_rfl) (.exit (Iw (Y (m+1)) R (N+4) (N+5) 0 0 _ y (by kernel_rfl)) (by simp)) (by omega))),.inl ⟨rfl,rfl,.inl ⟨rfl,bp,ds⟩⟩⟩
     · obtain⟨e,Γ,z,bq,bT⟩:=Iy (R:=R) aE bM af cK an (by omega) bg vs.length 0 (c+1) y (by omega) (by omega) bp ds
       rw[List.drop_zero] at bT
       have eI:=fw.run (p:=[1,1,1,0,1,0]) (by kernel_rfl) bq (by omega)
       have iY:=Qw (Y (m+1)) R (N+4) (N+5) b off vs.length aE y gj
       rcases bT with⟨rfl,jw,m_⟩|⟨rfl,jw,m_⟩
       · exact⟨_,_,_,aV.seq (p:=[1,1,1,0]) (by kernel_rfl) iY (aV.block (p:=[1,1,1,0,1]) (id:=0) (by kernel_rfl) eI),.inl ⟨rfl,jw,m_⟩⟩
       · exact⟨_,_,_,aV.seq (p:=[1,1,1,0]) (by kernel_rfl) iY (aV.tQ (p:=[1,1,1,0,1]) (id:=0) (by kernel_rfl) eI (by simp)),.inr ⟨rfl,jw,m_⟩⟩
    obtain⟨e,Γ,z,bq,bT⟩:=loop
    rcases bT with⟨rfl,rfl,bT⟩|⟨rfl,rfl,bT⟩
    · rcases bT with⟨_,eI,iY⟩|⟨eI,_⟩
      · have jw:=iY.room 7
        have QE:(z.room 7).get R=some (.cells [.int .i64 (Int.ofNat k),.str bP,dF,cB,dg] 51 b3 a9 up):=by
         rw[jw.ext.get R (by omega)];exact ar
        obtain⟨dh,w,dp,cC⟩:=De ai bM K rt (by omega) (by omega) (m+1) (by omega) dg (c+1+eL xs) _ eI ew jw
        have eK:I.sound dg=true:=by
         cases rt with
         |none=>obtain rfl:dg=.bd:=ew;rfl
         |some u=>
          cases u with
          |mk k bP aW ys rt=>obtain⟨r,dF,cB,_,vs,b3,a9,up,rfl,_⟩:=ew;rfl
        have cq:=QA (Y (m+1)) R (N+4) (N+5) dg (.bool dh) z w (kO jw.uz) (ba QE rfl) dp eK rfl
        refine⟨dh,w,eY (intr:=bW) (n:=m+1) (args:=[.ptr R 0,.ptr (N+4) 0,.ptr (N+5) 0]) Tryz.func100 (by kernel_rfl) rfl (by kernel_rfl) (aV.seq (p:=[]) (by kernel_rfl) rH (aV.seq (p:=[1]) (by kernel_rfl) s1 (aV.seq (p:=[1,1]) (by kernel_rfl) s2 (aV.seq (p:=[1,1,1]) (by kernel_rfl) bq cq)))) (.inl rfl) rfl,?_⟩
        have fJ:c+1+eL xs+dA rt=c+(1+eL xs+dA rt):=by omega
        unfold sM at cC⊢
        rw[fJ] at cC
        exact cC
      · simp at eI
    · rcases bT with⟨eI,_⟩|⟨_,eI,iY⟩
      · simp at eI
      · exact⟨false,z,eY (intr:=bW) (n:=m+1) (args:=[.ptr R 0,.ptr (N+4) 0,.ptr (N+5) 0]) Tryz.func100 (by kernel_rfl) rfl (by kernel_rfl) (aV.seq (p:=[]) (by kernel_rfl) rH (aV.seq (p:=[1]) (by kernel_rfl) s1 (aV.seq (p:=[1,1]) (by kernel_rfl) s2 (aV.iT (p:=[1,1,1]) (by kernel_rfl) bq (by simp))))) (.inl rfl) (by kernel_rfl),.inr ⟨rfl,by omega,iY⟩⟩
  · have s2:=Qv (Y (m+1)) R (N+4) (N+5) (N+3) x y (kO mj.bQ) aC
    exact⟨false,y,eY (intr:=bW) (n:=m+1) (args:=[.ptr R 0,.ptr (N+4) 0,.ptr (N+5) 0]) Tryz.func100 (by kernel_rfl) rfl (by kernel_rfl) (aV.seq (p:=[]) (by kernel_rfl) rH (aV.seq (p:=[1]) (by kernel_rfl) s1 (aV.iT (p:=[1,1]) (by kernel_rfl) s2 (by simp)))) (.inl rfl) (by kernel_rfl),.inr ⟨rfl,by omega,ds⟩⟩
end Go.Proofs.b0
namespace Go.Proofs.b0
open Go aw Go.Proofs cu
set_option maxRecDepth 100000
set_option maxHeartbeats 1000000
theorem QF{call:aP->List I->J->av}(j N:Nat)(r:aL)(q:bt)(h:J)(hm:aw.Mod r [(2,.int .i64 (Int.ofNat j))])(az:h.get (N+2)=some (.defrd (some []))):
  k9 Tryz.prog call Tryz.f70 (.ok .ret r [.collected (N+2)] q h)=.ret (.int .i64 (Int.ofNat j)) (h.set (N+2) (some (.defrd none))):=by
 have ai:=Cf hm (rfl:m1 Tryz.prog (dx Tryz.f70) Tryz.f70 [(2,.int .i64 (Int.ofNat j))] (h.set (N+2) (some (.defrd none)))=some (.int .i64 (Int.ofNat j)))
 simp only[k9,iO,az,List.nil_append,ai]
theorem Df{ot:Option aZ}{B:Nat}{h:J}{v:I}(m:Nat)(gQ:dA ot<=90000)(bM:B<=h.n)(aB:dB B h ot v)(hm:dA ot+3<=m):
  ∃ak,Y (m+2) (.fn 70) [v] h=.ret (.int .i64 (Int.ofNat (min (dA ot) 61))) ak/\Ext h.n h ak:=by
 have QG:=aB.ux
 let aa:=(h.push (.cells [.int .i64 (Int.ofNat 0)] 3 .own 0 0)).set h.n (some (.cells [.int .i64 (Int.ofNat 0)] 3 .own 0 0))
 let ad:=aa.push (.cells [v] 47 .own 0 0)
 have aI:aa.n=h.n+1:=rfl
 have bw:ad.n=h.n+2:=rfl
 have c1:aw.storeCells (h.push (.cells [.int .i64 (Int.ofNat 0)] 3 .own 0 0)) h.n 0 [.int .i64 (Int.ofNat 0)]=some aa:=
  y3 (x:=.int .i64 (Int.ofNat 0)) (t:=3) rfl (by rw[J.ec,if_pos rfl])
 have QH:Y (m+1) (.fn 86) [v] aa=.ret (.fn 99 [] [.ptr (h.n+1) 0]) ad:=by
  rcases QG with rfl|⟨R,rfl⟩
  · exact eY (intr:=bW) (n:=m) (args:=[.bd]) Tryz.func86 (by kernel_rfl) rfl (by kernel_rfl) (Qp (Y m) aa) (.inl rfl) rfl
  · exact eY (intr:=bW) (n:=m) (args:=[.ptr R 0]) Tryz.func86 (by kernel_rfl) rfl (by kernel_rfl) (Qo (Y m) R aa) (.inl rfl) rfl
 have w:WF Tryz.prog Tryz.f70 none (Y (m+1)) [] (λe r d q ak=>∃ib,k9 Tryz.prog (Y (m+1)) Tryz.f70 (.ok e r d q ak)=.ret (.int .i64 (Int.ofNat (min (dA ot) 61))) ib/\Ext h.n h ib) (mG 0 [v] .leaf) [] .none h:=by
  refine WF.seq (p:=[]) (by kernel_rfl) (W.of (Qi (Y (m+1)) v h) (yY [v]) λr1 cm=>.inl ⟨rfl,?_⟩)
  refine WF.seq (p:=[1]) (by kernel_rfl) (W.of (Qj (Y (m+1)) v h aa c1) cm λr2 fY=>.inl ⟨rfl,?_⟩)
  refine WF.seq (p:=[1,1]) (by kernel_rfl) ?_
  refine WF.seq (p:=[1,1,0]) (by kernel_rfl) (W.of (Qk (Y (m+1)) v _ h.n aa ad QH) fY λeU uA=>.inl ⟨rfl,?_⟩)
  refine WF.block (p:=[1,1,0,1]) (id:=0) (by kernel_rfl) ?_
  refine WF.range (p:=[1,1,0,1,0]) (t:=5) (ps:=[6]) (by kernel_rfl) (by kernel_rfl) (hf:=rfl) (hm:=uA) ?_
  let hG:=(ad.push (.defrd (some []))).push (uy .ready none eU h.n)
  let bb:=((hG.push (.cells [.bQ (h.n+3)] 139 .own 0 0)).push (.cells [.eN] 139 .own 0 0)).set (h.n+5) (some (.cells [.fn 100 [] [.ptr (h.n+4) 0,.ptr (h.n+5) 0]] 139 .own 0 0))
  have Iz:aw.Mod eU [(3,.ptr h.n 0)]:=uA.sub ⟨rfl,trivial⟩
  have XL:hG.n=h.n+4:=rfl
  have fJ:Ext h.n h aa:=(Ext.push (Nat.le_refl _) _).gK (Nat.le_refl _)
  have ui:Ext h.n h ad:=fJ.lp (by omega)
  have po:Ext h.n h hG:=(ui.lp (by omega)).lp (by show h.n<=h.n+3;omega)
  have kX:Ext h.n h bb:=((po.lp (by omega)).lp (by show h.n<=h.n+5;omega)).gK (by omega)
  have i0:pk h.n h eU 0 bb:=by
   refine⟨?_,?_,?_,?_,?_,?_⟩
   · simp only[bb,hG,ad,aa,J.ec,J.bL,J.lT,J.tk];grind
   · simp only[bb,hG,ad,aa,J.ec,J.bL,J.lT,J.tk];grind
   · simp only[bb,hG,ad,aa,J.ec,J.bL,J.lT,J.tk];grind
   · simp only[bb,hG,ad,aa,J.ec,J.bL,J.lT,J.tk];grind
   · simp only[bb,hG,ad,aa,J.ec,J.bL,J.lT,J.tk];grind
   · exact kX
  obtain⟨dh,y,aC,ax⟩:=De Iz bM (dA ot) ot (Nat.le_refl _) gQ m hm v 0 bb (by decide) aB i0
  have b5:aw.storeCells ((hG.push (.cells [.bQ (h.n+3)] 139 .own 0 0)).push (.cells [.eN] 139 .own 0 0)) (h.n+5) 0 [.fn 100 [] [.ptr (h.n+4) 0,.ptr (h.n+5) 0]]=some bb:=
   y3 (x:=.eN) rfl (by rw[J.ec];exact if_pos rfl)
  have oh:bb.get (h.n+1)=some (.cells [v] 47 .own 0 0):=by
   simp only[bb,hG,ad,aa,J.ec,J.bL,J.lT,J.tk];grind
  have QI:=Qq (Y m) (h.n+3) (h.n+1) v (.bool dh) hG bb y b5 (kO i0.uz) (kO oh) aC
  have IA:Y (m+1) (.fn 99) [.bQ (h.n+3),.ptr (h.n+1) 0] hG=.ret (.aK []) y:=
   eY (intr:=bW) (n:=m) (args:=[.bQ (h.n+3),.ptr (h.n+1) 0]) Tryz.func99 (by kernel_rfl) rfl (by kernel_rfl) QI (.inr rfl) (by kernel_rfl)
  have fin:∀(j:Nat) (z:J),j=min (dA ot) 61->z.get h.n=some (.cells [.int .i64 (Int.ofNat j)] 3 .own 0 0)->z.get (h.n+2)=some (.defrd (some []))->Ext h.n h z->
    WF Tryz.prog Tryz.f70 none (Y (m+1)) [1,1,1] (λe r d q ak=>∃ib,k9 Tryz.prog (Y (m+1)) Tryz.f70 (.ok e r d q ak)=.ret (.int .i64 (Int.ofNat (min (dA ot) 61))) ib/\Ext h.n h ib) eU [.collected (h.n+2)] .none z:=λj z aD aT oL QJ=>by
   refine W.of (Qn (Y (m+1)) h.n j (h.n+2) _ (kO aT)) Iz λhN IB=>?_
   subst aD
   exact⟨_,QF (min (dA ot) 61) h.n hN _ _ IB oL,QJ.gK (by omega)⟩
  rcases ax with⟨rfl,bp,ds⟩|⟨rfl,bp,ds⟩
  · have wQ:jV (h.n+3) eU [.collected (h.n+2)] .none (.ret (.aK []) y)=.ok .nrm eU [.collected (h.n+2)] .none (y.set (h.n+3) (some (uy .exhausted none eU h.n))):=by
      simp only[jV,ds.pn]
    refine⟨.nrm,_,(congrArg (jV (h.n+3) eU [.collected (h.n+2)] .none) IA).trans wQ,.inr ⟨by simp,.inl ⟨rfl,?_⟩⟩⟩
    exact fin (0+dA ot) _ (by omega) (by rw[J.bL,if_neg (by omega)];exact ds.wN) (by rw[J.bL,if_neg (by omega)];exact ds.iI) (ds.ext.gK (by omega))
  · have wQ:jV (h.n+3) eU [.collected (h.n+2)] .none (.ret (.aK []) y)=.ok (.exit 0) eU [.collected (h.n+2)] .none (y.set (h.n+3) (some (uy .exhausted (some (.exit 0)) eU h.n))):=by
      simp only[jV,ds.pn]
    refine⟨.exit 0,_,(congrArg (jV (h.n+3) eU [.collected (h.n+2)] .none) IA).trans wQ,.inl ⟨rfl,.inl ⟨rfl,?_⟩⟩⟩
    exact fin 61 _ (by omega) (by rw[J.bL,if_neg (by omega)];exact ds.wN) (by rw[J.bL,if_neg (by omega)];exact ds.iI) (ds.ext.gK (by omega))
 obtain⟨e,r,d,q,ak,dp,ib,cC,vL⟩:=w
 exact⟨ib,Hn (intr:=bW) (n:=m+1) (args:=[v]) Tryz.func70 (by kernel_rfl) rfl (by kernel_rfl) ⟨e,r,d,q,ak,dp,cC⟩,vL⟩
end Go.Proofs.b0
namespace Go.Proofs.b0
open Go aw Go.Proofs cu
set_option maxRecDepth 100000
set_option maxHeartbeats 1000000
theorem QK(call:aP->List I->J->av)(v w:I)(h:J):
  aV Tryz.prog Tryz.f87 none call [0] (ao.mk [(0,v),(1,w)] [] .none h) (.nrm)
   (ao.mk [(0,v),(1,w)] [] .none h):=
 bY [0,1] (hs:=[]) (by kernel_rfl)<| .nil
theorem QL(call:aP->List I->J->av)(b off N a_ cc M:Nat)(aE cy:cf)(h:J)
  (H1:(!cU (.ofNat N) (.ofNat M))=true):
  aV Tryz.prog Tryz.f87 none call [1,0] (ao.mk [(0,.slice b off N aE),(1,.slice a_ cc M cy)] [] .none h) (.ret)
   (ao.mk [(0,.slice b off N aE),(1,.slice a_ cc M cy),(4,.bool false)] [] .none h):=
 bY [0,1,4] (hs:=[.b true]) (by kernel_rfl)<| .cons H1<| .nil
theorem QM(call:aP->List I->J->av)(b off N a_ cc M:Nat)(aE cy:cf)(h:J)
  (H1:(!cU (.ofNat N) (.ofNat M))=false):
  aV Tryz.prog Tryz.f87 none call [1,0] (ao.mk [(0,.slice b off N aE),(1,.slice a_ cc M cy)] [] .none h) (.nrm)
   (ao.mk [(0,.slice b off N aE),(1,.slice a_ cc M cy)] [] .none h):=
 bY [0,1,4] (hs:=[.b false]) (by kernel_rfl)<| .cons H1<| .nil
theorem QN(call:aP->List I->J->av)(a_ cc M:Nat)(cy:cf)(h:J)
  (H1:(!cU (.ofNat 0) (.ofNat M))=true):
  aV Tryz.prog Tryz.f87 none call [1,0] (ao.mk [(0,.a0),(1,.slice a_ cc M cy)] [] .none h) (.ret)
   (ao.mk [(0,.a0),(1,.slice a_ cc M cy),(4,.bool false)] [] .none h):=
 bY [0,1,4] (hs:=[.b true]) (by kernel_rfl)<| .cons H1<| .nil
theorem QO(call:aP->List I->J->av)(a_ cc M:Nat)(cy:cf)(h:J)
  (H1:(!cU (.ofNat 0) (.ofNat M))=false):
  aV Tryz.prog Tryz.f87 none call [1,0] (ao.mk [(0,.a0),(1,.slice a_ cc M cy)] [] .none h) (.nrm)
   (ao.mk [(0,.a0),(1,.slice a_ cc M cy)] [] .none h):=
 bY [0,1,4] (hs:=[.b false]) (by kernel_rfl)<| .cons H1<| .nil
theorem QP(call:aP->List I->J->av)(b off N:Nat)(aE:cf)(h:J)
  (H1:(!cU (.ofNat N) (.ofNat 0))=true):
  aV Tryz.prog Tryz.f87 none call [1,0] (ao.mk [(0,.slice b off N aE),(1,.a0)] [] .none h) (.ret)
   (ao.mk [(0,.slice b off N aE),(1,.a0),(4,.bool false)] [] .none h):=
 bY [0,1,4] (hs:=[.b true]) (by kernel_rfl)<| .cons H1<| .nil
theorem QQ(call:aP->List I->J->av)(b off N:Nat)(aE:cf)(h:J)
  (H1:(!cU (.ofNat N) (.ofNat 0))=false):
  aV Tryz.prog Tryz.f87 none call [1,0] (ao.mk [(0,.slice b off N aE),(1,.a0)] [] .none h) (.nrm)
   (ao.mk [(0,.slice b off N aE),(1,.a0)] [] .none h):=
 bY [0,1,4] (hs:=[.b false]) (by kernel_rfl)<| .cons H1<| .nil
theorem QR(call:aP->List I->J->av)(h:J):
  aV Tryz.prog Tryz.f87 none call [1,0] (ao.mk [(0,.a0),(1,.a0)] [] .none h) (.nrm)
   (ao.mk [(0,.a0),(1,.a0)] [] .none h):=
 bY [0,1,4] (hs:=[.b false]) (by kernel_rfl)<| .cons (by kernel_rfl:(!cU (Int.ofNat 0) (Int.ofNat 0))=false)<| .nil
theorem Dg(call:aP->List I->J->av)(b off N:Nat)(aE:cf)(w:I)(h:J):
  aV Tryz.prog Tryz.f87 none call [1,1,0,0] (ao.mk [(0,.slice b off N aE),(1,w)] [] .none h) (.nrm)
   (ao.mk [(0,.slice b off N aE),(1,w),(12,.int .i64 (.ofNat N)),(13,.int .i64 (.ofNat 0))] [] .none h):=
 bY [0,1,12,13] (hs:=[]) (by kernel_rfl)<| .nil
theorem IC(call:aP->List I->J->av)(w:I)(h:J):
  aV Tryz.prog Tryz.f87 none call [1,1,0,0] (ao.mk [(0,.a0),(1,w)] [] .none h) (.nrm)
   (ao.mk [(0,.a0),(1,w),(12,.int .i64 (.ofNat 0)),(13,.int .i64 (.ofNat 0))] [] .none h):=
 bY [0,1,12,13] (hs:=[]) (by kernel_rfl)<| .nil
theorem zw(call:aP->List I->J->av)(N i:Nat)(v w:I)(h:J)
  (H1:et (.ofNat i) (.ofNat N)=false):
  aV Tryz.prog Tryz.f87 none call [1,1,0,1,0,0] (ao.mk [(0,v),(1,w),(12,.int .i64 (.ofNat N)),(13,.int .i64 (.ofNat i))] [] .none h) (.exit 0)
   (ao.mk [] [] .none h):=
 bY [] (hs:=[.b false]) (by kernel_rfl)<| .cons H1<| .nil
theorem QS(call:aP->List I->J->av)(b off N a_ cc M i q a3 j:Nat)(s t:List UInt8)(aE cy:cf)(h:J)
  (H1:et (.ofNat i) (.ofNat N)=true)
  (bl:Nat.le (Nat.succ i) N/\I.ptr b q=I.ptr b (off+i*1))
  (cz:ay (J.room h 9) b q=some (.str s))
  (cv:Nat.le (Nat.succ i) M/\I.ptr a_ a3=I.ptr a_ (cc+i*1))
  (dR:ay (J.room h 9) a_ a3=some (.str t))
  (gV:(!bR s t)=true):
  aV Tryz.prog Tryz.f87 none call [1,1,0,1,0,0] (ao.mk [(0,.slice b off N aE),(1,.slice a_ cc M cy),(12,.int .i64 (.ofNat N)),(13,.int .i64 (.ofNat i))] [] .none h) (.ret)
   (ao.mk [(0,.slice b off N aE),(1,.slice a_ cc M cy),(4,.bool false),(12,.int .i64 (.ofNat N)),(13,.int .i64 (.ofNat i))] [] .none (J.room h 9)):=
 bY [0,1,4,12,13] (hs:=[.b true,.v (.ptr b q),.v (.str s),.v (.ptr a_ a3),.v (.str t),.b true]) (by kernel_rfl)<| .cons H1<| .cons bl<| .cons cz<| .cons cv<| .cons dR<| .cons (by kernel_rfl:I.sound (I.slice b off N aE)=true)<| .cons (by kernel_rfl:I.slice b off N aE=I.slice b off N aE)<| .cons (by kernel_rfl:I.sound (I.int IntKind.i64 (Int.ofNat i))=true)<| .cons (by kernel_rfl:I.int IntKind.i64 (Int.ofNat i)=I.int IntKind.i64 (Int.ofNat i))<| .cons (by kernel_rfl:I.sound (I.ptr b q)=true)<| .cons bl<| .cons (by kernel_rfl:I.sound (I.str s)=true)<| .cons cz<| .cons (by kernel_rfl:I.sound (I.slice a_ cc M cy)=true)<| .cons (by kernel_rfl:I.slice a_ cc M cy=I.slice a_ cc M cy)<| .cons (by kernel_rfl:I.sound (I.int IntKind.i64 (Int.ofNat i))=true)<| .cons (by kernel_rfl:I.int IntKind.i64 (Int.ofNat i)=I.int IntKind.i64 (Int.ofNat i))<| .cons (by kernel_rfl:I.sound (I.ptr a_ a3)=true)<| .cons cv<| .cons (by kernel_rfl:I.sound (I.str t)=true)<| .cons dR<| .cons (by kernel_rfl:I.sound (I.bool !bR s t)=true)<| .cons (by kernel_rfl:(I.bool !bR s t)=I.bool !bR s t)<| .cons gV<| .nil
theorem QT(call:aP->List I->J->av)(b off N a_ cc M i q a3 j:Nat)(s t:List UInt8)(aE cy:cf)(h:J)
  (H1:et (.ofNat i) (.ofNat N)=true)
  (bl:Nat.le (Nat.succ i) N/\I.ptr b q=I.ptr b (off+i*1))
  (cz:ay (J.room h 9) b q=some (.str s))
  (cv:Nat.le (Nat.succ i) M/\I.ptr a_ a3=I.ptr a_ (cc+i*1))
  (dR:ay (J.room h 9) a_ a3=some (.str t))
  (gV:(!bR s t)=false)
  (na:arith .add .i64 (.ofNat i) (.ofNat 1)=some (.int .i64 (.ofNat j))):
  aV Tryz.prog Tryz.f87 none call [1,1,0,1,0,0] (ao.mk [(0,.slice b off N aE),(1,.slice a_ cc M cy),(12,.int .i64 (.ofNat N)),(13,.int .i64 (.ofNat i))] [] .none h) (.nrm)
   (ao.mk [(0,.slice b off N aE),(1,.slice a_ cc M cy),(12,.int .i64 (.ofNat N)),(13,.int .i64 (.ofNat j))] [] .none (J.room h 9)):=
 bY [0,1,4,12,13] (hs:=[.b true,.v (.ptr b q),.v (.str s),.v (.ptr a_ a3),.v (.str t),.b false,.v (.int .i64 (.ofNat j))]) (by kernel_rfl)<| .cons H1<| .cons bl<| .cons cz<| .cons cv<| .cons dR<| .cons (by kernel_rfl:I.sound (I.slice b off N aE)=true)<| .cons (by kernel_rfl:I.slice b off N aE=I.slice b off N aE)<| .cons (by kernel_rfl:I.sound (I.int IntKind.i64 (Int.ofNat i))=true)<| .cons (by kernel_rfl:I.int IntKind.i64 (Int.ofNat i)=I.int IntKind.i64 (Int.ofNat i))<| .cons (by kernel_rfl:I.sound (I.ptr b q)=true)<| .cons bl<| .cons (by kernel_rfl:I.sound (I.str s)=true)<| .cons cz<| .cons (by kernel_rfl:I.sound (I.slice a_ cc M cy)=true)<| .cons (by kernel_rfl:I.slice a_ cc M cy=I.slice a_ cc M cy)<| .cons (by kernel_rfl:I.sound (I.int IntKind.i64 (Int.ofNat i))=true)<| .cons (by kernel_rfl:I.int IntKind.i64 (Int.ofNat i)=I.int IntKind.i64 (Int.ofNat i))<| .cons (by kernel_rfl:I.sound (I.ptr a_ a3)=true)<| .cons cv<| .cons (by kernel_rfl:I.sound (I.str t)=true)<| .cons dR<| .cons (by kernel_rfl:I.sound (I.bool !bR s t)=true)<| .cons (by kernel_rfl:(I.bool !bR s t)=I.bool !bR s t)<| .cons gV<| .cons na<| .nil
theorem QU(call:aP->List I->J->av)(h:J):
  aV Tryz.prog Tryz.f87 none call [1,1,1] (ao.mk [] [] .none h) (.ret)
   (ao.mk [(4,.bool true)] [] .none h):=
 bY [4] (hs:=[]) (by kernel_rfl)<| .nil
theorem uB{a b:Nat}(h:a≠b):(!cU (Int.ofNat a) (Int.ofNat b))=true:=by
 rw[y8 h];rfl
theorem ID{a b:Nat}(h:a=b):(!cU (Int.ofNat a) (Int.ofNat b))=false:=by
 rw[Cn h];rfl
theorem zx:∀(us bs:List aJ),us.length≠bs.length->gL us bs=false
 |[],[],h=>absurd rfl h
 |[],_::_,_=>by rw[gL];all_goals simp
 |_::_,[],_=>by rw[gL];all_goals simp
 |x::us,y::bs,h=>by
  rw[gL,zx us bs (by simpa using h),Bool.and_false]
theorem dZ.strs{B:Nat}{h:J}{v:I}{us:List aJ}(hs:dZ B h v (us.map .str)):(v=.a0/\us=[])\/∃b off aE,v=.slice b off us.length aE/\b<B/\∀i (ae:i<us.length),ay h b (off+i*1)=some (.str us[i]):=by
 rcases hs with⟨aa,ad⟩|⟨b,off,aE,aa,ad,ar,_⟩
 · exact .inl ⟨aa,by simpa using ad⟩
 · refine .inr ⟨b,off,aE,by simpa using aa,ad,λi ae=>?_⟩
   have:=ar i (by simpa using ae)
   simpa using this
theorem zy{B b i:Nat}{h x:J}(e:Ext B h x)(af:b<B):ay x b i=ay h b i:=by
 unfold ay;rw[e.get b af]
theorem IE{B b off a_ cc:Nat}{h:J}{us bs:List aJ}(call:aP->List I->J->av)(aE cy:cf)(af:b<B)(dw:a_<B)(aX:∀i (ae:i<us.length),ay h b (off+i*1)=some (.str us[i]))(sH:∀i (ae:i<bs.length),ay h a_ (cc+i*1)=some (.str bs[i]))(an:us.length=bs.length)(hlen:us.length<=90000):∀(k i:Nat) (x:J),us.length-i=k->i<=us.length->Ext B h x->
  ∃e Γ y,fw Tryz.prog Tryz.f87 none call [1,1,0,1,0] (k+1) ⟨[(0,.slice b off us.length aE),(1,.slice a_ cc bs.length cy),(12,.int .i64 (Int.ofNat us.length)),(13,.int .i64 (Int.ofNat i))],[],.none,x⟩ e ⟨Γ,[],.none,y⟩/\
   ((e=.exit 0/\Γ=[]/\gL (us.drop i) (bs.drop i)=true)\/(e=.ret/\Γ=[(4,.bool false)]/\gL (us.drop i) (bs.drop i)=false))/\Ext B h y
 |0,i,x,aq,ae,ab=>by
  obtain rfl:i=us.length:=by omega
  rw[List.drop_of_length_le (Nat.le_refl _),an,List.drop_of_length_le (Nat.le_refl _)]
  exact⟨_,_,_,.exit (zw call _ _ _ _ x (o4 (by omega))) (by simp),.inl ⟨rfl,rfl,by rw[gL]⟩,ab⟩
 |k+1,i,x,aq,ae,ab=>by
  have aa:i<us.length:=by omega
  have ad:i<bs.length:=by omega
  have aC:ay (x.room 9) b (off+i*1)=some (.str us[i]):=(zy ab.hC af).trans (aX i aa)
  have ax:ay (x.room 9) a_ (cc+i*1)=some (.str bs[i]):=(zy ab.hC dw).trans (sH i ad)
  rw[List.drop_eq_getElem_cons aa,List.drop_eq_getElem_cons ad,gL]
  cases ag:bR us[i] bs[i] with
  |true=>
   obtain⟨e,Γ,y,bq,bT,eI⟩:=IE call aE cy af dw aX sH an hlen k (i+1) (x.room 9) (by omega) (by omega) ab.hC
   refine⟨e,Γ,y,.step (QT call b off us.length a_ cc bs.length i (off+i*1) (cc+i*1) (i+1) us[i] bs[i] aE cy x (kM aa) ⟨aa,rfl⟩ aC ⟨ad,rfl⟩ ax (by rw[ag];rfl) (wi aa (by omega))) bq,?_,eI⟩
   rw[Bool.true_and];exact bT
  |false=>
   exact⟨_,[(4,.bool false)],_,.exit (cW.post (QS call b off us.length a_ cc bs.length i (off+i*1) (cc+i*1) 0 us[i] bs[i] aE cy x (kM aa) ⟨aa,rfl⟩ aC ⟨ad,rfl⟩ ax (by rw[ag];rfl)) ⟨rfl,trivial⟩) (by simp),.inr ⟨rfl,rfl,by rw[Bool.false_and]⟩,ab.hC⟩
theorem QV(m:Nat){B:Nat}{h:J}{v w:I}{us bs:List aJ}(aX:dZ B h v (us.map .str))(af:dZ B h w (bs.map .str))(hlen:us.length<=90000):∃ak,Y (m+1) (.fn 87) [v,w] h=.ret (.bool (gL us bs)) ak/\Ext B h ak:=by
 have run:∃Γ y,aV Tryz.prog Tryz.f87 none (Y m) [1] ⟨[(0,v),(1,w)],[],.none,h⟩ .ret ⟨Γ,[],.none,y⟩/\Γ=[(4,.bool (gL us bs))]/\Ext B h y:=by
  have go:∀z,dZ B h v (us.map .str)->us.length=bs.length->aV Tryz.prog Tryz.f87 none (Y m) [1,0] ⟨[(0,v),(1,w)],[],.none,h⟩ .nrm ⟨[(0,v),(1,w)],[],.none,h⟩->(∃e Γ y,aV Tryz.prog Tryz.f87 none (Y m) [1,1,0] ⟨[(0,v),(1,w)],[],.none,h⟩ e ⟨Γ,[],.none,y⟩/\((e=.nrm/\Γ=[]/\gL us bs=true)\/(e=.ret/\Γ=[(4,.bool false)]/\gL us bs=false))/\Ext B h y)->z=0->∃Γ y,aV Tryz.prog Tryz.f87 none (Y m) [1] ⟨[(0,v),(1,w)],[],.none,h⟩ .ret ⟨Γ,[],.none,y⟩/\Γ=[(4,.bool (gL us bs))]/\Ext B h y:=by
   rintro z _ _ r1 ⟨e,Γ,y,r2,eU,hN⟩ _
   rcases eU with⟨rfl,rfl,sN⟩|⟨rfl,rfl,sN⟩
   · rw[sN]
     exact⟨_,y,aV.seq (p:=[1]) (by kernel_rfl) r1 (aV.seq (p:=[1,1]) (by kernel_rfl) r2 (QU (Y m) y)),rfl,hN⟩
   · rw[sN]
     exact⟨_,y,aV.seq (p:=[1]) (by kernel_rfl) r1 (aV.iT (p:=[1,1]) (by kernel_rfl) r2 (by simp)),rfl,hN⟩
  rcases aX.strs with⟨rfl,rfl⟩|⟨b,off,aE,rfl,jq,oh⟩
  · rcases af.strs with⟨rfl,rfl⟩|⟨a_,cc,cy,rfl,dw,lf⟩
    · refine go 0 aX rfl (QR (Y m) h) ⟨_,_,_,aV.seq (p:=[1,1,0]) (by kernel_rfl) (IC (Y m) _ h) (aV.block (p:=[1,1,0,1]) (id:=0) (by kernel_rfl) (fw.run (p:=[1,1,0,1,0]) (n:=1) (by kernel_rfl) (.exit (zw (Y m) 0 0 _ _ h (by kernel_rfl)) (by simp)) (by omega))),.inl ⟨rfl,rfl,by rw[gL]⟩,Ext.refl _ _⟩ rfl
    · by_cases aT:bs.length=0
      · obtain rfl:bs=[]:=List.eq_nil_of_length_eq_zero aT
        refine go 0 aX rfl (cW.post (QO (Y m) a_ cc 0 cy h (by kernel_rfl)) ⟨rfl,rfl,trivial⟩) ⟨_,_,_,aV.seq (p:=[1,1,0]) (by kernel_rfl) (IC (Y m) _ h) (aV.block (p:=[1,1,0,1]) (id:=0) (by kernel_rfl) (fw.run (p:=[1,1,0,1,0]) (n:=1) (by kernel_rfl) (.exit (zw (Y m) 0 0 _ _ h (by kernel_rfl)) (by simp)) (by omega))),.inl ⟨rfl,rfl,by rw[gL]⟩,Ext.refl _ _⟩ rfl
      · refine⟨[(4,.bool false)],_,aV.iT (p:=[1]) (by kernel_rfl) (cW.post (QN (Y m) a_ cc bs.length cy h (uB (λe=>aT e.symm))) ⟨rfl,trivial⟩) (by simp),?_,Ext.refl _ _⟩
        rw[zx [] bs (λe=>aT e.symm)]
  · rcases af.strs with⟨rfl,rfl⟩|⟨a_,cc,cy,rfl,dw,lf⟩
    · by_cases aT:us.length=0
      · obtain rfl:us=[]:=List.eq_nil_of_length_eq_zero aT
        refine go 0 aX rfl (cW.post (QQ (Y m) b off 0 aE h (by kernel_rfl)) ⟨rfl,rfl,trivial⟩) ⟨_,_,_,aV.seq (p:=[1,1,0]) (by kernel_rfl) (Dg (Y m) b off 0 aE _ h) (aV.block (p:=[1,1,0,1]) (id:=0) (by kernel_rfl) (fw.run (p:=[1,1,0,1,0]) (n:=1) (by kernel_rfl) (.exit (zw (Y m) 0 0 _ _ h (by kernel_rfl)) (by simp)) (by omega))),.inl ⟨rfl,rfl,by rw[gL]⟩,Ext.refl _ _⟩ rfl
      · refine⟨[(4,.bool false)],_,aV.iT (p:=[1]) (by kernel_rfl) (cW.post (QP (Y m) b off us.length aE h (uB aT)) ⟨rfl,trivial⟩) (by simp),?_,Ext.refl _ _⟩
        rw[zx us [] aT]
    · by_cases aT:us.length=bs.length
      · obtain⟨e,Γ,y,bq,bT,eI⟩:=IE (Y m) aE cy jq dw oh lf aT hlen us.length 0 h (by omega) (by omega) (Ext.refl _ _)
        have iY:=fw.run (p:=[1,1,0,1,0]) (by kernel_rfl) bq (by omega)
        rw[List.drop_zero,List.drop_zero] at bT
        refine go 0 aX aT (cW.post (QM (Y m) b off us.length a_ cc bs.length aE cy h (ID aT)) ⟨rfl,rfl,trivial⟩) ?_ rfl
        rcases bT with⟨rfl,jw,m_⟩|⟨rfl,jw,m_⟩
        · exact⟨_,_,_,aV.seq (p:=[1,1,0]) (by kernel_rfl) (Dg (Y m) b off us.length aE _ h) (aV.block (p:=[1,1,0,1]) (id:=0) (by kernel_rfl) iY),.inl ⟨rfl,jw,m_⟩,eI⟩
        · exact⟨_,_,_,aV.seq (p:=[1,1,0]) (by kernel_rfl) (Dg (Y m) b off us.length aE _ h) (aV.tQ (p:=[1,1,0,1]) (id:=0) (by kernel_rfl) iY (by simp)),.inr ⟨rfl,jw,m_⟩,eI⟩
      · refine⟨[(4,.bool false)],_,aV.iT (p:=[1]) (by kernel_rfl) (cW.post (QL (Y m) b off us.length a_ cc bs.length aE cy h (uB aT)) ⟨rfl,trivial⟩) (by simp),?_,Ext.refl _ _⟩
        rw[zx us bs aT]
 obtain⟨Γ,y,r1,rfl,eU⟩:=run
 exact⟨y,eY (intr:=bW) (n:=m) (args:=[v,w]) Tryz.func87 (by kernel_rfl) rfl (by kernel_rfl) (aV.seq (p:=[]) (by kernel_rfl) (QK (Y m) v w h) r1) (.inl rfl) rfl,eU⟩
end Go.Proofs.b0
namespace Go.Proofs.b0
open Go aw Go.Proofs cu
set_option maxRecDepth 100000
set_option maxHeartbeats 1000000
theorem QW(call:aP->List I->J->av)(v w:I)(h:J):
  aV Tryz.prog Tryz.f88 none call [0] (ao.mk [(0,v),(1,w),(2,.fn 71 [] [])] [] .none h) (.nrm)
   (ao.mk [(0,v),(1,w),(2,.fn 71 [] [])] [] .none h):=
 bY [0,1,2] (hs:=[]) (by kernel_rfl)<| .nil
theorem QX(call:aP->List I->J->av)(b off N a_ cc M:Nat)(aE cy:cf)(h:J)
  (H1:(!cU (.ofNat N) (.ofNat M))=true):
  aV Tryz.prog Tryz.f88 none call [1,0] (ao.mk [(0,.slice b off N aE),(1,.slice a_ cc M cy),(2,.fn 71 [] [])] [] .none h) (.ret)
   (ao.mk [(0,.slice b off N aE),(1,.slice a_ cc M cy),(2,.fn 71 [] []),(6,.bool false)] [] .none h):=
 bY [0,1,2,6] (hs:=[.b true]) (by kernel_rfl)<| .cons H1<| .nil
theorem QY(call:aP->List I->J->av)(b off N a_ cc M:Nat)(aE cy:cf)(h:J)
  (H1:(!cU (.ofNat N) (.ofNat M))=false):
  aV Tryz.prog Tryz.f88 none call [1,0] (ao.mk [(0,.slice b off N aE),(1,.slice a_ cc M cy),(2,.fn 71 [] [])] [] .none h) (.nrm)
   (ao.mk [(0,.slice b off N aE),(1,.slice a_ cc M cy),(2,.fn 71 [] [])] [] .none h):=
 bY [0,1,2,6] (hs:=[.b false]) (by kernel_rfl)<| .cons H1<| .nil
theorem QZ(call:aP->List I->J->av)(a_ cc M:Nat)(cy:cf)(h:J)
  (H1:(!cU (.ofNat 0) (.ofNat M))=true):
  aV Tryz.prog Tryz.f88 none call [1,0] (ao.mk [(0,.a0),(1,.slice a_ cc M cy),(2,.fn 71 [] [])] [] .none h) (.ret)
   (ao.mk [(0,.a0),(1,.slice a_ cc M cy),(2,.fn 71 [] []),(6,.bool false)] [] .none h):=
 bY [0,1,2,6] (hs:=[.b true]) (by kernel_rfl)<| .cons H1<| .nil
theorem Q0(call:aP->List I->J->av)(a_ cc M:Nat)(cy:cf)(h:J)
  (H1:(!cU (.ofNat 0) (.ofNat M))=false):
  aV Tryz.prog Tryz.f88 none call [1,0] (ao.mk [(0,.a0),(1,.slice a_ cc M cy),(2,.fn 71 [] [])] [] .none h) (.nrm)
   (ao.mk [(0,.a0),(1,.slice a_ cc M cy),(2,.fn 71 [] [])] [] .none h):=
 bY [0,1,2,6] (hs:=[.b false]) (by kernel_rfl)<| .cons H1<| .nil
theorem Q1(call:aP->List I->J->av)(b off N:Nat)(aE:cf)(h:J)
  (H1:(!cU (.ofNat N) (.ofNat 0))=true):
  aV Tryz.prog Tryz.f88 none call [1,0] (ao.mk [(0,.slice b off N aE),(1,.a0),(2,.fn 71 [] [])] [] .none h) (.ret)
   (ao.mk [(0,.slice b off N aE),(1,.a0),(2,.fn 71 [] []),(6,.bool false)] [] .none h):=
 bY [0,1,2,6] (hs:=[.b true]) (by kernel_rfl)<| .cons H1<| .nil
theorem Q2(call:aP->List I->J->av)(b off N:Nat)(aE:cf)(h:J)
  (H1:(!cU (.ofNat N) (.ofNat 0))=false):
  aV Tryz.prog Tryz.f88 none call [1,0] (ao.mk [(0,.slice b off N aE),(1,.a0),(2,.fn 71 [] [])] [] .none h) (.nrm)
   (ao.mk [(0,.slice b off N aE),(1,.a0),(2,.fn 71 [] [])] [] .none h):=
 bY [0,1,2,6] (hs:=[.b false]) (by kernel_rfl)<| .cons H1<| .nil
theorem Q3(call:aP->List I->J->av)(h:J):
  aV Tryz.prog Tryz.f88 none call [1,0] (ao.mk [(0,.a0),(1,.a0),(2,.fn 71 [] [])] [] .none h) (.nrm)
   (ao.mk [(0,.a0),(1,.a0),(2,.fn 71 [] [])] [] .none h):=
 bY [0,1,2,6] (hs:=[.b false]) (by kernel_rfl)<| .cons (by kernel_rfl:(!cU (Int.ofNat 0) (Int.ofNat 0))=false)<| .nil
theorem Dh(call:aP->List I->J->av)(b off N:Nat)(aE:cf)(w:I)(h:J):
  aV Tryz.prog Tryz.f88 none call [1,1,0,0] (ao.mk [(0,.slice b off N aE),(1,w),(2,.fn 71 [] [])] [] .none h) (.nrm)
   (ao.mk [(1,w),(2,.fn 71 [] []),(15,.slice b off N aE),(16,.int .i64 (.ofNat N)),(17,.int .i64 (.ofNat 0))] [] .none h):=
 bY [1,2,15,16,17] (hs:=[]) (by kernel_rfl)<| .nil
theorem IF(call:aP->List I->J->av)(w:I)(h:J):
  aV Tryz.prog Tryz.f88 none call [1,1,0,0] (ao.mk [(0,.a0),(1,w),(2,.fn 71 [] [])] [] .none h) (.nrm)
   (ao.mk [(1,w),(2,.fn 71 [] []),(15,.a0),(16,.int .i64 (.ofNat 0)),(17,.int .i64 (.ofNat 0))] [] .none h):=
 bY [1,2,15,16,17] (hs:=[]) (by kernel_rfl)<| .nil
theorem zz(call:aP->List I->J->av)(N i:Nat)(v w:I)(h:J)
  (H1:et (.ofNat i) (.ofNat N)=false):
  aV Tryz.prog Tryz.f88 none call [1,1,0,1,0,0] (ao.mk [(1,w),(2,.fn 71 [] []),(15,v),(16,.int .i64 (.ofNat N)),(17,.int .i64 (.ofNat i))] [] .none h) (.exit 0)
   (ao.mk [] [] .none h):=
 bY [] (hs:=[.b false]) (by kernel_rfl)<| .cons H1<| .nil
theorem Q4(call:aP->List I->J->av)(b off N a_ cc M i q a3 j:Nat)(x y:I)(aE cy:cf)(h g:J)
  (H1:et (.ofNat i) (.ofNat N)=true)
  (bl:Nat.le (Nat.succ i) N/\I.ptr b q=I.ptr b (off+i*1))
  (cz:ay h b q=some x)
  (cv:Nat.le (Nat.succ i) M/\I.ptr a_ a3=I.ptr a_ (cc+i*1))
  (dR:ay h a_ a3=some y)
  (gV:call (.fn 71) [x,y] h=av.ret (.bool true) g)
  (na:arith .add .i64 (.ofNat i) (.ofNat 1)=some (.int .i64 (.ofNat j))):
  aV Tryz.prog Tryz.f88 none call [1,1,0,1,0,0] (ao.mk [(1,.slice a_ cc M cy),(2,.fn 71 [] []),(15,.slice b off N aE),(16,.int .i64 (.ofNat N)),(17,.int .i64 (.ofNat i))] [] .none h) (.nrm)
   (ao.mk [(1,.slice a_ cc M cy),(2,.fn 71 [] []),(15,.slice b off N aE),(16,.int .i64 (.ofNat N)),(17,.int .i64 (.ofNat j))] [] .none g):=
 bY [1,2,15,16,17] (hs:=[.b true,.v (.ptr b q),.v x,.v (.ptr a_ a3),.v y,.c (.bool true) g,.b false,.v (.int .i64 (.ofNat j))]) (by kernel_rfl)<| .cons H1<| .cons bl<| .cons cz<| .cons cv<| .cons dR<| .cons gV<| .cons (by kernel_rfl:(!true)=false)<| .cons na<| .nil
theorem Q5(call:aP->List I->J->av)(b off N a_ cc M i q a3 j:Nat)(x y:I)(aE cy:cf)(h g:J)
  (H1:et (.ofNat i) (.ofNat N)=true)
  (bl:Nat.le (Nat.succ i) N/\I.ptr b q=I.ptr b (off+i*1))
  (cz:ay h b q=some x)
  (cv:Nat.le (Nat.succ i) M/\I.ptr a_ a3=I.ptr a_ (cc+i*1))
  (dR:ay h a_ a3=some y)
  (gV:call (.fn 71) [x,y] h=av.ret (.bool false) g):
  aV Tryz.prog Tryz.f88 none call [1,1,0,1,0,0] (ao.mk [(1,.slice a_ cc M cy),(2,.fn 71 [] []),(15,.slice b off N aE),(16,.int .i64 (.ofNat N)),(17,.int .i64 (.ofNat i))] [] .none h) (.ret)
   (ao.mk [(6,.bool false)] [] .none g):=
 bY [6] (hs:=[.b true,.v (.ptr b q),.v x,.v (.ptr a_ a3),.v y,.c (.bool false) g,.b true]) (by kernel_rfl)<| .cons H1<| .cons bl<| .cons cz<| .cons cv<| .cons dR<| .cons gV<| .cons (by kernel_rfl:(!false)=true)<| .nil
theorem Q6(call:aP->List I->J->av)(h:J):
  aV Tryz.prog Tryz.f88 none call [1,1,1] (ao.mk [] [] .none h) (.ret)
   (ao.mk [(6,.bool true)] [] .none h):=
 bY [6] (hs:=[]) (by kernel_rfl)<| .nil
theorem Di(call:aP->List I->J->av)(v w:I)(h:J):
  aV Tryz.prog Tryz.f71 none call [0] (ao.mk [(0,v),(1,w)] [] .none h) (.nrm)
   (ao.mk [(0,v),(1,w)] [] .none h):=
 bY [0,1] (hs:=[]) (by kernel_rfl)<| .nil
theorem Q7(call:aP->List I->J->av)(h:J):
  aV Tryz.prog Tryz.f71 none call [1,0] (ao.mk [(0,.bd),(1,.bd)] [] .none h) (.ret)
   (ao.mk [(4,.bool true)] [] .none h):=
 bY [4] (hs:=[.v (.bool true),.b true,.b true,.b true,.b true,.v (.bool true),.b true,.b true,.v (.bool true),.b true]) (by kernel_rfl)<| .cons (by kernel_rfl:dX Tryz.prog h BinOp.eql 47 (Operand.tmp 5) (Operand.const (Value.pointer none)) I.bd I.bd=some (I.bool true))<| .cons (by kernel_rfl:true=true)<| .cons (by kernel_rfl:true=true)<| .cons (by kernel_rfl:true=true)<| .cons (by kernel_rfl:true=true)<| .cons (by kernel_rfl:dX Tryz.prog h BinOp.eql 47 (Operand.tmp 11) (Operand.const (Value.pointer none)) I.bd I.bd=some (I.bool true))<| .cons (by kernel_rfl:true=true)<| .cons (by kernel_rfl:true=true)<| .cons (by kernel_rfl:dX Tryz.prog h BinOp.eql 47 (Operand.tmp 14) (Operand.const (Value.pointer none)) I.bd I.bd=some (I.bool true))<| .cons (by kernel_rfl:true=true)<| .nil
theorem Q8(call:aP->List I->J->av)(r:Nat)(h:J):
  aV Tryz.prog Tryz.f71 none call [1,0] (ao.mk [(0,.bd),(1,.ptr r 0)] [] .none h) (.ret)
   (ao.mk [(4,.bool false)] [] .none h):=
 bY [4] (hs:=[.v (.bool true),.b true,.b true,.b true,.b true,.v (.bool true),.b true,.b true,.v (.bool false),.b true]) (by kernel_rfl)<| .cons (by kernel_rfl:dX Tryz.prog h BinOp.eql 47 (Operand.tmp 5) (Operand.const (Value.pointer none)) I.bd I.bd=some (I.bool true))<| .cons (by kernel_rfl:true=true)<| .cons (by kernel_rfl:true=true)<| .cons (by kernel_rfl:true=true)<| .cons (by kernel_rfl:true=true)<| .cons (by kernel_rfl:dX Tryz.prog h BinOp.eql 47 (Operand.tmp 11) (Operand.const (Value.pointer none)) I.bd I.bd=some (I.bool true))<| .cons (by kernel_rfl:true=true)<| .cons (by kernel_rfl:true=true)<| .cons (by kernel_rfl:dX Tryz.prog h BinOp.eql 47 (Operand.tmp 14) (Operand.const (Value.pointer none)) (I.ptr r 0) I.bd=some (I.bool false))<| .cons (by kernel_rfl:true=true)<| .nil
theorem Q9(call:aP->List I->J->av)(r:Nat)(h:J):
  aV Tryz.prog Tryz.f71 none call [1,0] (ao.mk [(0,.ptr r 0),(1,.bd)] [] .none h) (.ret)
   (ao.mk [(4,.bool false)] [] .none h):=
 bY [4] (hs:=[.v (.bool false),.b false,.b false,.v (.bool true),.b false,.b true,.v (.bool false),.b false,.b false,.b false]) (by kernel_rfl)<| .cons (by kernel_rfl:dX Tryz.prog h BinOp.eql 47 (Operand.tmp 5) (Operand.const (Value.pointer none)) (I.ptr r 0) I.bd=some (I.bool false))<| .cons (by kernel_rfl:false=false)<| .cons (by kernel_rfl:false=false)<| .cons (by kernel_rfl:dX Tryz.prog h BinOp.eql 47 (Operand.tmp 8) (Operand.const (Value.pointer none)) I.bd I.bd=some (I.bool true))<| .cons (by kernel_rfl:false=false)<| .cons (by kernel_rfl:true=true)<| .cons (by kernel_rfl:dX Tryz.prog h BinOp.eql 47 (Operand.tmp 11) (Operand.const (Value.pointer none)) (I.ptr r 0) I.bd=some (I.bool false))<| .cons (by kernel_rfl:false=false)<| .cons (by kernel_rfl:false=false)<| .cons (by kernel_rfl:false=false)<| .nil
theorem zA:∀(us bs:List aZ),us.length≠bs.length->gk us bs=false
 |[],[],h=>absurd rfl h
 |[],_::_,_=>by rw[gk];all_goals simp
 |_::_,[],_=>by rw[gk];all_goals simp
 |x::us,y::bs,h=>by
  rw[gk,zA us bs (by simpa using h),Bool.and_false]
abbrev IG(m B:Nat)(h:J)(xs ys:List aZ)(vs ws:List I):Prop:=∀i (aa:i<vs.length) (ad:i<ws.length) (ar:i<xs.length) (aM:i<ys.length) x,Ext B h x->∃ak,Y m (.fn 71) [vs[i],ws[i]] x=.ret (.bool (pf xs[i] ys[i])) ak/\Ext B x ak
theorem IH{m B b off a_ cc:Nat}{h:J}{xs ys:List aZ}{vs ws:List I}(aE cy:cf)(af:b<B)(dw:a_<B)(aX:∀i (ae:i<vs.length),ay h b (off+i*1)=some vs[i])(sH:∀i (ae:i<ws.length),ay h a_ (cc+i*1)=some ws[i])(gH:vs.length=xs.length)(j2:ws.length=ys.length)(an:vs.length=ws.length)(hlen:vs.length<=90000)(bg:IG m B h xs ys vs ws):∀(k i:Nat) (x:J),vs.length-i=k->i<=vs.length->Ext B h x->
  ∃e Γ y,fw Tryz.prog Tryz.f88 none (Y m) [1,1,0,1,0] (k+1) ⟨[(1,.slice a_ cc ws.length cy),(2,.fn 71 [] []),(15,.slice b off vs.length aE),(16,.int .i64 (Int.ofNat vs.length)),(17,.int .i64 (Int.ofNat i))],[],.none,x⟩ e ⟨Γ,[],.none,y⟩/\
   ((e=.exit 0/\Γ=[]/\gk (xs.drop i) (ys.drop i)=true)\/(e=.ret/\Γ=[(6,.bool false)]/\gk (xs.drop i) (ys.drop i)=false))/\Ext B h y
 |0,i,x,aq,ae,ab=>by
  obtain rfl:i=vs.length:=by omega
  rw[List.drop_of_length_le (by omega),List.drop_of_length_le (by omega)]
  exact⟨_,_,_,.exit (zz (Y m) _ _ _ _ x (o4 (by omega))) (by simp),.inl ⟨rfl,rfl,by rw[gk]⟩,ab⟩
 |k+1,i,x,aq,ae,ab=>by
  have aa:i<vs.length:=by omega
  have ad:i<ws.length:=by omega
  have ar:i<xs.length:=by omega
  have aM:i<ys.length:=by omega
  have aC:ay x b (off+i*1)=some vs[i]:=(zy ab af).trans (aX i aa)
  have ax:ay x a_ (cc+i*1)=some ws[i]:=(zy ab dw).trans (sH i ad)
  rw[List.drop_eq_getElem_cons ar,List.drop_eq_getElem_cons aM,gk]
  obtain⟨g,c1,c2⟩:=bg i aa ad ar aM x ab
  have aj:Ext B h g:=ab.trans (Nat.le_refl _) c2
  cases ag:pf xs[i] ys[i] with
  |true=>
   rw[ag] at c1
   obtain⟨e,Γ,y,bq,bT,eI⟩:=IH aE cy af dw aX sH gH j2 an hlen bg k (i+1) g (by omega) (by omega) aj
   refine⟨e,Γ,y,.step (Q4 (Y m) b off vs.length a_ cc ws.length i (off+i*1) (cc+i*1) (i+1) vs[i] ws[i] aE cy x g (kM aa) ⟨aa,rfl⟩ aC ⟨ad,rfl⟩ ax c1 (wi aa (by omega))) bq,?_,eI⟩
   rw[Bool.true_and];exact bT
  |false=>
   rw[ag] at c1
   exact⟨_,_,_,.exit (Q5 (Y m) b off vs.length a_ cc ws.length i (off+i*1) (cc+i*1) 0 vs[i] ws[i] aE cy x g (kM aa) ⟨aa,rfl⟩ aC ⟨ad,rfl⟩ ax c1) (by simp),.inr ⟨rfl,rfl,by rw[Bool.false_and]⟩,aj⟩
theorem Q_(m:Nat){B:Nat}{h:J}{v w:I}{xs ys:List aZ}{vs ws:List I}(aX:dZ B h v vs)(af:dZ B h w ws)(gH:vs.length=xs.length)(j2:ws.length=ys.length)(hlen:vs.length<=90000)(bg:IG m B h xs ys vs ws):∃ak,Y (m+1) (.fn 88) [v,w,.fn 71 [] []] h=.ret (.bool (gk xs ys)) ak/\Ext B h ak:=by
 have run:∃Γ y,aV Tryz.prog Tryz.f88 none (Y m) [1] ⟨[(0,v),(1,w),(2,.fn 71 [] [])],[],.none,h⟩ .ret ⟨Γ,[],.none,y⟩/\Γ=[(6,.bool (gk xs ys))]/\Ext B h y:=by
  have go:∀z,aV Tryz.prog Tryz.f88 none (Y m) [1,0] ⟨[(0,v),(1,w),(2,.fn 71 [] [])],[],.none,h⟩ .nrm ⟨[(0,v),(1,w),(2,.fn 71 [] [])],[],.none,h⟩->(∃e Γ y,aV Tryz.prog Tryz.f88 none (Y m) [1,1,0] ⟨[(0,v),(1,w),(2,.fn 71 [] [])],[],.none,h⟩ e ⟨Γ,[],.none,y⟩/\((e=.nrm/\Γ=[]/\gk xs ys=true)\/(e=.ret/\Γ=[(6,.bool false)]/\gk xs ys=false))/\Ext B h y)->z=0->∃Γ y,aV Tryz.prog Tryz.f88 none (Y m) [1] ⟨[(0,v),(1,w),(2,.fn 71 [] [])],[],.none,h⟩ .ret ⟨Γ,[],.none,y⟩/\Γ=[(6,.bool (gk xs ys))]/\Ext B h y:=by
   rintro z r1 ⟨e,Γ,y,r2,eU,hN⟩ _
   rcases eU with⟨rfl,rfl,sN⟩|⟨rfl,rfl,sN⟩
   · rw[sN]
     exact⟨_,y,aV.seq (p:=[1]) (by kernel_rfl) r1 (aV.seq (p:=[1,1]) (by kernel_rfl) r2 (Q6 (Y m) y)),rfl,hN⟩
   · rw[sN]
     exact⟨_,y,aV.seq (p:=[1]) (by kernel_rfl) r1 (aV.iT (p:=[1,1]) (by kernel_rfl) r2 (by simp)),rfl,hN⟩
  have nil:∀(us bs:List aZ),us.length=0->bs.length=0->gk us bs=true:=λus bs aa ad=>by
   rw[List.eq_nil_of_length_eq_zero aa,List.eq_nil_of_length_eq_zero ad,gk]
  rcases aX with⟨rfl,rfl⟩|⟨b,off,aE,rfl,jq,oh,hV⟩
  · rcases af with⟨rfl,rfl⟩|⟨a_,cc,cy,rfl,dw,lf,gW⟩
    · refine go 0 (Q3 (Y m) h) ⟨_,_,_,aV.seq (p:=[1,1,0]) (by kernel_rfl) (IF (Y m) _ h) (aV.block (p:=[1,1,0,1]) (id:=0) (by kernel_rfl) (fw.run (p:=[1,1,0,1,0]) (n:=1) (by kernel_rfl) (.exit (zz (Y m) 0 0 _ _ h (by kernel_rfl)) (by simp)) (by omega))),.inl ⟨rfl,rfl,nil _ _ gH.symm j2.symm⟩,Ext.refl _ _⟩ rfl
    · by_cases aT:ws.length=0
      · obtain rfl:ws=[]:=List.eq_nil_of_length_eq_zero aT
        refine go 0 (cW.post (Q0 (Y m) a_ cc 0 cy h (by kernel_rfl)) ⟨rfl,rfl,rfl,trivial⟩) ⟨_,_,_,aV.seq (p:=[1,1,0]) (by kernel_rfl) (IF (Y m) _ h) (aV.block (p:=[1,1,0,1]) (id:=0) (by kernel_rfl) (fw.run (p:=[1,1,0,1,0]) (n:=1) (by kernel_rfl) (.exit (zz (Y m) 0 0 _ _ h (by kernel_rfl)) (by simp)) (by omega))),.inl ⟨rfl,rfl,nil _ _ gH.symm j2.symm⟩,Ext.refl _ _⟩ rfl
      · refine⟨[(6,.bool false)],_,aV.iT (p:=[1]) (by kernel_rfl) (cW.post (QZ (Y m) a_ cc ws.length cy h (uB (λe=>aT e.symm))) ⟨rfl,trivial⟩) (by simp),?_,Ext.refl _ _⟩
        rw[zA xs ys (by simp at gH;omega)]
  · rcases af with⟨rfl,rfl⟩|⟨a_,cc,cy,rfl,dw,lf,gW⟩
    · by_cases aT:vs.length=0
      · obtain rfl:vs=[]:=List.eq_nil_of_length_eq_zero aT
        refine go 0 (cW.post (Q2 (Y m) b off 0 aE h (by kernel_rfl)) ⟨rfl,rfl,rfl,trivial⟩) ⟨_,_,_,aV.seq (p:=[1,1,0]) (by kernel_rfl) (Dh (Y m) b off 0 aE _ h) (aV.block (p:=[1,1,0,1]) (id:=0) (by kernel_rfl) (fw.run (p:=[1,1,0,1,0]) (n:=1) (by kernel_rfl) (.exit (zz (Y m) 0 0 _ _ h (by kernel_rfl)) (by simp)) (by omega))),.inl ⟨rfl,rfl,nil _ _ gH.symm j2.symm⟩,Ext.refl _ _⟩ rfl
      · refine⟨[(6,.bool false)],_,aV.iT (p:=[1]) (by kernel_rfl) (cW.post (Q1 (Y m) b off vs.length aE h (uB aT)) ⟨rfl,trivial⟩) (by simp),?_,Ext.refl _ _⟩
        rw[zA xs ys (by simp at j2;omega)]
    · by_cases aT:vs.length=ws.length
      · obtain⟨e,Γ,y,bq,bT,eI⟩:=IH aE cy jq dw oh lf gH j2 aT hlen bg vs.length 0 h (by omega) (by omega) (Ext.refl _ _)
        have iY:=fw.run (p:=[1,1,0,1,0]) (by kernel_rfl) bq (by omega)
        rw[List.drop_zero,List.drop_zero] at bT
        refine go 0 (cW.post (QY (Y m) b off vs.length a_ cc ws.length aE cy h (ID aT)) ⟨rfl,rfl,rfl,trivial⟩) ?_ rfl
        rcases bT with⟨rfl,jw,m_⟩|⟨rfl,jw,m_⟩
        · exact⟨_,_,_,aV.seq (p:=[1,1,0]) (by kernel_rfl) (Dh (Y m) b off vs.length aE _ h) (aV.block (p:=[1,1,0,1]) (id:=0) (by kernel_rfl) iY),.inl ⟨rfl,jw,m_⟩,eI⟩
        · exact⟨_,_,_,aV.seq (p:=[1,1,0]) (by kernel_rfl) (Dh (Y m) b off vs.length aE _ h) (aV.tQ (p:=[1,1,0,1]) (id:=0) (by kernel_rfl) iY (by simp)),.inr ⟨rfl,jw,m_⟩,eI⟩
      · refine⟨[(6,.bool false)],_,aV.iT (p:=[1]) (by kernel_rfl) (cW.post (QX (Y m) b off vs.length a_ cc ws.length aE cy h (uB aT)) ⟨rfl,trivial⟩) (by simp),?_,Ext.refl _ _⟩
        rw[zA xs ys (by omega)]
 obtain⟨Γ,y,r1,rfl,eU⟩:=run
 exact⟨y,eY (intr:=bW) (n:=m) (args:=[v,w,.fn 71 [] []]) Tryz.func88 (by kernel_rfl) rfl (by kernel_rfl) (aV.seq (p:=[]) (by kernel_rfl) (QW (Y m) v w h) r1) (.inl rfl) rfl,eU⟩
end Go.Proofs.b0
namespace Go.Proofs.b0
open Go aw Go.Proofs cu
set_option maxRecDepth 100000
set_option maxHeartbeats 1000000
theorem Ra:gU none none=true:=by rw[gU]
theorem Rb(t:aZ):gU none (some t)=false:=by rw[gU]<;>simp
theorem Rc(t:aZ):gU (some t) none=false:=by rw[gU]<;>simp
theorem Rd(m:Nat)(h:J):Y (m+1) (.fn 71) [.bd,.bd] h=.ret (.bool true) h:=
 eY (intr:=bW) (n:=m) (args:=[.bd,.bd]) Tryz.func71 (by kernel_rfl) rfl (by kernel_rfl) (aV.seq (p:=[]) (by kernel_rfl) (Di (Y m) _ _ h) (aV.iT (p:=[1]) (by kernel_rfl) (Q7 (Y m) h) (by simp))) (.inl rfl) (by kernel_rfl)
theorem Re(m R:Nat)(h:J):Y (m+1) (.fn 71) [.bd,.ptr R 0] h=.ret (.bool false) h:=
 eY (intr:=bW) (n:=m) (args:=[.bd,.ptr R 0]) Tryz.func71 (by kernel_rfl) rfl (by kernel_rfl) (aV.seq (p:=[]) (by kernel_rfl) (Di (Y m) _ _ h) (aV.iT (p:=[1]) (by kernel_rfl) (Q8 (Y m) R h) (by simp))) (.inl rfl) (by kernel_rfl)
theorem Rf(m R:Nat)(h:J):Y (m+1) (.fn 71) [.ptr R 0,.bd] h=.ret (.bool false) h:=
 eY (intr:=bW) (n:=m) (args:=[.ptr R 0,.bd]) Tryz.func71 (by kernel_rfl) rfl (by kernel_rfl) (aV.seq (p:=[]) (by kernel_rfl) (Di (Y m) _ _ h) (aV.iT (p:=[1]) (by kernel_rfl) (Q9 (Y m) R h) (by simp))) (.inl rfl) (by kernel_rfl)
theorem Rg(m:Nat)(r:Nat)(r2:Nat)(h:J){R:av->Prop}(H:∃aI:Nat,ay (h.room 54) r (0+0)=some (.int .i64 (.ofNat aI))/\∃bw:Nat,ay (h.room 54) r2 (0+0)=some (.int .i64 (.ofNat bw))/\(aI=bw->∃s1:List UInt8,ay (h.room 54) r (0+1)=some (.str s1)/\∃s2:List UInt8,ay (h.room 54) r2 (0+1)=some (.str s2)/\(bR s1 s2=true->∃v1:I,ay (h.room 54) r (0+2)=some v1/\∃v2:I,ay (h.room 54) r2 (0+2)=some v2/\∃a4:Bool,∃al:J,(Y m) (.fn 87) [v1,v2] (h.room 54)=.ret (.bool a4) al/\(a4=true->∃cX:I,ay al r (0+3)=some cX/\∃v4:I,ay al r2 (0+3)=some v4/\∃a_:Bool,∃au:J,(Y m) (.fn 88) [cX,v4,.fn 71 [] []] al=.ret (.bool a_) au/\(a_=true->∃ie:I,ay au r (0+4)=some ie/\∃v6:I,ay au r2 (0+4)=some v6/\∃cO:Bool,∃a7:J,(Y m) (.fn 71) [ie,v6] au=.ret (.bool cO) a7/\I.sound v1=true/\I.sound v2=true/\I.sound cX=true/\I.sound v4=true/\I.sound ie=true/\I.sound v6=true/\R (.ret (.bool cO) a7))/\(a_=false->I.sound v1=true/\I.sound v2=true/\I.sound cX=true/\I.sound v4=true/\R (.ret (.bool false) au)))/\(a4=false->I.sound v1=true/\I.sound v2=true/\R (.ret (.bool false) al)))/\(bR s1 s2=false->R (.ret (.bool false) (h.room 54))))/\(¬aI=bw->R (.ret (.bool false) (h.room 54)))):
  R (Y (m+1) (.fn 71) [.ptr r 0,.ptr r2 0] h):=
 dd (intr:=bW) [(63,.b1 .o),(67,.b1 .o)] [(0,.v (.ptr r 0)),(1,.v (.ptr r2 0))] Tryz.func71 (by kernel_rfl) (by kernel_rfl) (by kernel_rfl) rfl (Eq.mp (by kernel_rfl) H)
theorem II:∀(K:Nat) (oa ob:Option aZ),dA oa<=K->dA oa<=90000->(∀t,oa=some t->jv t<=90000)->∀(m B:Nat) (h:J) (v w:I),2*dA oa+3<=m->dB B h oa v->dB B h ob w->∃ak,Y m (.fn 71) [v,w] h=.ret (.bool (gU oa ob)) ak/\Ext B h ak
 |K,none,none,_,_,_,m,B,h,v,w,hm,aB,hw=>by
  obtain rfl:v=.bd:=aB
  obtain rfl:w=.bd:=hw
  obtain⟨m,rfl⟩:∃j,m=j+1:=⟨m-1,by omega⟩
  rw[Ra]
  exact⟨h,Rd m h,Ext.refl _ _⟩
 |K,none,some (.mk bG bF eH nW vQ),_,_,_,m,B,h,v,w,hm,aB,hw=>by
  obtain rfl:v=.bd:=aB
  obtain⟨R,dF,cB,dg,vs,b3,a9,up,rfl,ad,ar,aM,bS,cK,ew⟩:=hw
  obtain⟨m,rfl⟩:∃j,m=j+1:=⟨m-1,by omega⟩
  rw[Rb]
  exact⟨h,Re m R h,Ext.refl _ _⟩
 |K,some (.mk bG bF eH nW vQ),none,_,_,_,m,B,h,v,w,hm,aB,hw=>by
  obtain rfl:w=.bd:=hw
  obtain⟨R,dF,cB,dg,vs,b3,a9,up,rfl,ad,ar,aM,bS,cK,ew⟩:=aB
  obtain⟨m,rfl⟩:∃j,m=j+1:=⟨m-1,by omega⟩
  rw[Rc]
  exact⟨h,Rf m R h,Ext.refl _ _⟩
 |0,some t,some u,dj,_,_,m,B,h,v,w,hm,aB,hw=>by
  rw[kU] at dj
  have:=qN t
  omega
 |K+1,some (.mk k bP aW xs rt),some (.mk dH pg qM od ph),dj,gQ,nN,m,B,h,v,w,hm,aB,hw=>by
  rw[kU,sI] at dj gQ hm
  obtain⟨R,dF,cB,dg,vs,b3,a9,up,rfl,ad,ar,aM,bS,cK,ew⟩:=aB
  obtain⟨rY,Rh,Ri,IJ,tw,XM,oM,XN,rfl,nX,Dj,A5,Rj,IK,Rk⟩:=hw
  obtain⟨m,rfl⟩:∃j,m=j+2:=⟨m-2,by omega⟩
  have aG:=nN _ rfl
  rw[jv] at aG
  have gH:=eg.len cK
  have j2:=eg.len IK
  have nI:=uq xs
  have po:Ext B h (h.room 54):=Ext.room B h 54
  have wP:=(po.get R ad).trans ar
  have Dk:=(po.get rY nX).trans Dj
  have bg:∀(oa ob:Option aZ),dA oa<=K->dA oa<=90000->(∀t,oa=some t->jv t<=90000)->∀(m B:Nat) (h:J) (v w:I),2*dA oa+3<=m->dB B h oa v->dB B h ob w->∃ak,Y m (.fn 71) [v,w] h=.ret (.bool (gU oa ob)) ak/\Ext B h ak:=II K
  obtain⟨al,c1,bb⟩:=QV m (aM.bZ (ey.ext po (Nat.le_refl _))) (A5.bZ (ey.ext po (Nat.le_refl _))) (by omega)
  have kX:Ext B h al:=po.trans (Nat.le_refl _) bb
  have Rl:=(kX.get R ad).trans ar
  have Rm:=(kX.get rY nX).trans Dj
  obtain⟨au,c2,bz⟩:=Q_ m (xs:=xs) (ys:=od) (bS.bZ (ey.ext kX (Nat.le_refl _))) (Rj.bZ (ey.ext kX (Nat.le_refl _))) gH j2 (by omega) (λi i1 i2 i3 i4 x ab=>by
   have rJ:=m7 (List.getElem_mem i3)
   have vq:=wL (List.getElem_mem i3)
   have ex:=kX.trans (Nat.le_refl _) ab
   have:=bg (some xs[i]) (some od[i]) (by rw[kU];omega) (by rw[kU];omega) (λt aQ=>by obtain rfl:=Option.some.inj aQ;omega) m B x vs[i] tw[i] (by rw[kU];omega) (ef.bZ (ey.ext ex (Nat.le_refl _)) _ _ (eg.get cK i i1 i3)) (ef.bZ (ey.ext ex (Nat.le_refl _)) _ _ (eg.get IK i i2 i4))
   simpa only[gU] using this)
  have nb:Ext B h au:=kX.trans (Nat.le_refl _) bz
  have Rn:=(nb.get R ad).trans ar
  have Ro:=(nb.get rY nX).trans Dj
  obtain⟨a7,c3,cP⟩:=bg rt ph (by omega) (by omega) (λt aQ=>by subst aQ;rw[ur] at aG;omega) (m+1) B au dg IJ (by omega) (dB.bZ (ey.ext nb (Nat.le_refl _)) _ _ ew) (dB.bZ (ey.ext nb (Nat.le_refl _)) _ _ Rk)
  have Rp:Ext B h a7:=nb.trans (Nat.le_refl _) cP
  have hB:gU (some (.mk k bP aW xs rt)) (some (.mk dH pg qM od ph))=(Nat.beq k dH&&(bR bP pg&&(gL aW qM&&(gk xs od&&gU rt ph)))):=by rw[gU,pf]
  rw[hB]
  have fin:∀b y,b=(Nat.beq k dH&&(bR bP pg&&(gL aW qM&&(gk xs od&&gU rt ph))))->Ext B h y->∃ak,av.ret (.bool b) y=.ret (.bool (Nat.beq k dH&&(bR bP pg&&(gL aW qM&&(gk xs od&&gU rt ph))))) ak/\Ext B h ak:=λb y e x=>⟨y,by rw[e],x⟩
  refine Rg (m+1) R rY h (R:=λx=>∃ak,x=.ret (.bool (Nat.beq k dH&&(bR bP pg&&(gL aW qM&&(gk xs od&&gU rt ph))))) ak/\Ext B h ak) ⟨k,ba wP rfl,dH,ba Dk rfl,λaq=>⟨bP,ba wP rfl,pg,ba Dk rfl,λjq=>⟨dF,ba wP rfl,Rh,ba Dk rfl,_,al,c1,λdw=>⟨cB,ba Rl rfl,Ri,ba Rm rfl,_,au,c2,λrZ=>⟨dg,ba Rn rfl,IJ,ba Ro rfl,_,a7,c3,mi,mi,mi,mi,mi,mi,fin _ _ ?_ Rp⟩,λrZ=>⟨mi,mi,mi,mi,fin _ _ (by rw[rZ];simp) nb⟩⟩,λdw=>⟨mi,mi,fin _ _ (by rw[dw];simp) kX⟩⟩,λjq=>fin _ _ (by rw[jq];simp) po⟩,λaq=>fin _ _ ?_ po⟩
  · subst aq
    rw[jq,dw,rZ,Nat.beq_refl k];rfl
  · rw[show Nat.beq k dH=false by
     cases ab:Nat.beq k dH with
     |false=>rfl
     |true=>exact absurd (Nat.eq_of_beq_eq_true ab) aq];rfl
end Go.Proofs.b0
namespace Go.Proofs.b0
open Go aw Go.Proofs cu
set_option maxRecDepth 100000
set_option maxHeartbeats 1000000
theorem Rq(call:aP->List I->J->av)(v w:I)(h:J):
  aV Tryz.prog Tryz.f48 none call [0] (ao.mk [(0,v),(1,w)] [] .none h) (.nrm)
   (ao.mk [(0,v),(1,w)] [] .none h):=
 bY [0,1] (hs:=[]) (by kernel_rfl)<| .nil
theorem Rr(call:aP->List I->J->av)(v w:I)(k bF:Nat)(cO:Bool)(h al au a7:J)
  (H1:call (.fn 70) [v] h=av.ret (.int .i64 (.ofNat k)) al)
  (bl:fh (.ofNat k) (.ofNat 60)=true)
  (cz:call (.fn 70) [w] al=av.ret (.int .i64 (.ofNat bF)) au)
  (cv:fh (.ofNat bF) (.ofNat 60)=true)
  (dR:call (.fn 71) [v,w] au=av.ret (.bool cO) a7):
  aV Tryz.prog Tryz.f48 none call [1] (ao.mk [(0,v),(1,w)] [] .none h) (.ret)
   (ao.mk [(4,.bool cO)] [] .none a7):=
 bY [4] (hs:=[.c (.int .i64 (.ofNat k)) al,.b true,.b true,.c (.int .i64 (.ofNat bF)) au,.b true,.b true,.b true,.b true,.b true,.c (.bool cO) a7,.b true]) (by kernel_rfl)<| .cons H1<| .cons bl<| .cons bl<| .cons cz<| .cons bl<| .cons bl<| .cons cv<| .cons cv<| .cons cv<| .cons dR<| .cons cv<| .nil
theorem Rs(call:aP->List I->J->av)(v w:I)(k bF:Nat)(cO:Bool)(h al au a7:J)
  (H1:call (.fn 70) [v] h=av.ret (.int .i64 (.ofNat k)) al)
  (bl:fh (.ofNat k) (.ofNat 60)=true)
  (cz:call (.fn 70) [w] al=av.ret (.int .i64 (.ofNat bF)) au)
  (cv:fh (.ofNat bF) (.ofNat 60)=false):
  aV Tryz.prog Tryz.f48 none call [1] (ao.mk [(0,v),(1,w)] [] .none h) (.ret)
   (ao.mk [(4,.bool false)] [] .none au):=
 bY [4] (hs:=[.c (.int .i64 (.ofNat k)) al,.b true,.b true,.c (.int .i64 (.ofNat bF)) au,.b true,.b true,.b false,.b false,.b false,.b false]) (by kernel_rfl)<| .cons H1<| .cons bl<| .cons bl<| .cons cz<| .cons bl<| .cons bl<| .cons cv<| .cons cv<| .cons cv<| .cons cv<| .nil
theorem Rt(call:aP->List I->J->av)(v w:I)(k bF:Nat)(cO:Bool)(h al au a7:J)
  (H1:call (.fn 70) [v] h=av.ret (.int .i64 (.ofNat k)) al)
  (bl:fh (.ofNat k) (.ofNat 60)=false):
  aV Tryz.prog Tryz.f48 none call [1] (ao.mk [(0,v),(1,w)] [] .none h) (.ret)
   (ao.mk [(4,.bool false)] [] .none al):=
 bY [4] (hs:=[.c (.int .i64 (.ofNat k)) al,.b false,.b false,.b false,.b false,.b false,.b false,.b false,.b false]) (by kernel_rfl)<| .cons H1<| .cons bl<| .cons bl<| .cons bl<| .cons bl<| .cons (by kernel_rfl:false=false)<| .cons (by kernel_rfl:false=false)<| .cons (by kernel_rfl:false=false)<| .cons (by kernel_rfl:false=false)<| .nil
end Go.Proofs.b0
namespace Go.Proofs.b0
open Go aw Go.Proofs cu
set_option maxRecDepth 100000
set_option maxHeartbeats 1000000
def nc(oa ob:Option aZ):Bool:=decide (dA oa<=60)&&(decide (dA ob<=60)&&gU oa ob)
theorem Dl{n:Nat}(h:n<=60):fh (Int.ofNat (min n 61)) (Int.ofNat 60)=true:=o6 (by omega)
theorem IL{n:Nat}(h:¬n<=60):fh (Int.ofNat (min n 61)) (Int.ofNat 60)=false:=y6 (by omega)
theorem Ru{oa ob:Option aZ}{B:Nat}{h:J}{v w:I}(m:Nat)(aX:dA oa<=90000)(af:dA ob<=90000)(aG:∀t,oa=some t->jv t<=90000)(bM:B<=h.n)(hm:2*dA oa+dA ob+5<=m)(aB:dB B h oa v)(hw:dB B h ob w):
  ∃ak,Y (m+1) (.fn 48) [v,w] h=.ret (.bool (nc oa ob)) ak/\Ext B h ak:=by
 obtain⟨m,rfl⟩:∃j,m=j+2:=⟨m-2,by omega⟩
 obtain⟨al,c1,bb⟩:=Df m aX bM aB (by omega)
 have kX:Ext B h al:=bb.le bM
 have fin:∀b y,aV Tryz.prog Tryz.f48 none (Y (m+2)) [1] ⟨[(0,v),(1,w)],[],.none,h⟩ .ret ⟨[(4,.bool b)],[],.none,y⟩->b=nc oa ob->Ext B h y->∃ak,Y (m+2+1) (.fn 48) [v,w] h=.ret (.bool (nc oa ob)) ak/\Ext B h ak:=λb y ai af ab=>by
  rw[<-af]
  exact⟨y,eY (intr:=bW) (n:=m+2) (args:=[v,w]) Tryz.func48 (by kernel_rfl) rfl (by kernel_rfl) (aV.seq (p:=[]) (by kernel_rfl) (Rq (Y (m+2)) v w h) ai) (.inl rfl) (by kernel_rfl),ab⟩
 unfold nc at fin⊢
 by_cases aa:dA oa<=60
 · have lE:B<=al.n:=Nat.le_trans bM kX.n
   obtain⟨au,c2,bz⟩:=Df m af lE (dB.bZ (ey.ext kX (Nat.le_refl _)) _ _ hw) (by omega)
   have nb:Ext B h au:=kX.trans (Nat.le_refl _) (bz.le lE)
   by_cases ad:dA ob<=60
   · obtain⟨a7,c3,cP⟩:=II (dA oa) oa ob (Nat.le_refl _) aX aG (m+2) B au v w (by omega) (dB.bZ (ey.ext nb (Nat.le_refl _)) _ _ aB) (dB.bZ (ey.ext nb (Nat.le_refl _)) _ _ hw)
     exact fin (gU oa ob) a7 (Rr (Y (m+2)) v w _ _ _ h al au a7 c1 (Dl aa) c2 (Dl ad) c3) (by simp[aa,ad]) (nb.trans (Nat.le_refl _) cP)
   · exact fin false au (Rs (Y (m+2)) v w _ _ false h al au h c1 (Dl aa) c2 (IL ad)) (by simp[ad]) nb
 · exact fin false al (Rt (Y (m+2)) v w _ 0 false h al h h c1 (IL aa)) (by simp[aa]) kX
end Go.Proofs.b0
