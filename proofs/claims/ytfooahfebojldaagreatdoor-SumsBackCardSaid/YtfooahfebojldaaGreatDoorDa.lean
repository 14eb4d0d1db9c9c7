/-
  PROVED HERE: contracts of functions (Da). No condition beside each statement's own.
-/
import Derived.Test.YtfooahfebojldaaGreatDoorAx
import Derived.Test.YtfooahfebojldaaGreatDoorProg
import Derived.Test.YtfooahfebojldaaGreatDoorSxa
import Derived.Test.YtfooahfebojldaaGreatDoorTx
set_option linter.unusedVariables false
set_option linter.unusedSimpArgs false
namespace Go.Proofs.cf
open Go ay Go.Proofs
set_option maxRecDepth 100000
set_option maxHeartbeats 1000000
noncomputable def lC:wA:=⟨69,[],.slice 5503 0 27 (.aM 1),5504,[(3,.cells [.int .i64 (2),.str [],.az,.az,.bc] 51 .own 0 0),(4,.cells [.int .i64 (4),.str [],.az,.az,.bc] 51 .own 0 0),(5,.cells [.int .i64 (3),.str [],.az,.az,.bc] 51 .own 0 0),(6,.cells [.int .i64 (6),.str [109,46,78],.az,.az,.bc] 51 .own 0 0),(7,.cells [.int .i64 (1),.str [],.az,.az,.bc] 51 .own 0 0),(8,.cells [.int .i64 (5),.str [],.az,.az,.bc] 51 .own 0 0),(119,.cells [.int .i64 (7),.str [],.slice 246 0 2 (.aM 1),.slice 249 0 2 (.aM 1),.bc] 51 .own 0 0),(246,.cells [.str [97],.str [98]] 9 .aM 0 0),(249,.cells [.ptr 3 0,.ptr 4 0] 47 .aM 0 0),(429,.cells [.int .i64 (8),.str [],.az,.slice 430 0 2 (.aM 1),.ptr 6 0] 51 .own 0 0),(430,.cells [.ptr 3 0,.ptr 4 0] 47 .aM 0 0),(1110,.cells [.ptr 3 0,.ptr 4 0,.ptr 119 0] 47 .aM 0 0),(1111,.cells [.int .i64 (9),.str [],.az,.slice 1110 0 3 (.aM 1),.bc] 51 .own 0 0),(1223,.cells [.int .i64 (7),.str [],.slice 1350 0 2 (.aM 1),.slice 1353 0 2 (.aM 1),.bc] 51 .own 0 0),(1350,.cells [.str [97],.str [98]] 9 .aM 0 0),(1353,.cells [.ptr 4 0,.ptr 5 0] 47 .aM 0 0),(1533,.cells [.int .i64 (8),.str [],.az,.slice 1534 0 2 (.aM 1),.ptr 7 0] 51 .own 0 0),(1534,.cells [.ptr 4 0,.ptr 5 0] 47 .aM 0 0),(2199,.cells [.ptr 5 0,.ptr 4 0,.ptr 1223 0] 47 .aM 0 0),(2200,.cells [.int .i64 (9),.str [],.az,.slice 2199 0 3 (.aM 1),.bc] 51 .own 0 0),(2312,.cells [.int .i64 (7),.str [],.slice 2439 0 2 (.aM 1),.slice 2442 0 2 (.aM 1),.bc] 51 .own 0 0),(2439,.cells [.str [97],.str [98]] 9 .aM 0 0),(2442,.cells [.ptr 5 0,.ptr 6 0] 47 .aM 0 0),(2622,.cells [.int .i64 (8),.str [],.az,.slice 2623 0 2 (.aM 1),.ptr 8 0] 51 .own 0 0),(2623,.cells [.ptr 5 0,.ptr 6 0] 47 .aM 0 0),(3303,.cells [.ptr 5 0,.ptr 6 0,.ptr 2312 0] 47 .aM 0 0),(3304,.cells [.int .i64 (9),.str [],.az,.slice 3303 0 3 (.aM 1),.bc] 51 .own 0 0),(3416,.cells [.int .i64 (7),.str [],.slice 3543 0 2 (.aM 1),.slice 3546 0 2 (.aM 1),.bc] 51 .own 0 0),(3543,.cells [.str [97],.str [98]] 9 .aM 0 0),(3546,.cells [.ptr 6 0,.ptr 7 0] 47 .aM 0 0),(3726,.cells [.int .i64 (8),.str [],.az,.slice 3727 0 2 (.aM 1),.ptr 3 0] 51 .own 0 0),(3727,.cells [.ptr 6 0,.ptr 7 0] 47 .aM 0 0),(4108,.cells [.int .i64 (1),.str [],.az,.az,.bc] 51 .own 0 0),(4220,.cells [.int .i64 (7),.str [],.slice 4347 0 2 (.aM 1),.slice 4350 0 2 (.aM 1),.bc] 51 .own 0 0),(4347,.cells [.str [97],.str [98]] 9 .aM 0 0),(4350,.cells [.ptr 7 0,.ptr 8 0] 47 .aM 0 0),(4530,.cells [.int .i64 (8),.str [],.az,.slice 4531 0 2 (.aM 1),.ptr 4 0] 51 .own 0 0),(4531,.cells [.ptr 7 0,.ptr 8 0] 47 .aM 0 0),(4910,.cells [.int .i64 (1),.str [],.az,.az,.bc] 51 .own 0 0),(4913,.cells [.int .i64 (7),.str [],.az,.az,.bc] 51 .own 0 0),(5497,.cells [.int .i64 (8),.str [],.az,.az,.ptr 1111 0] 51 .own 0 0),(5498,.cells [.int .i64 (0),.str [],.az,.az,.bc] 51 .own 0 0),(5499,.cells [.ptr 3 0] 47 .own 0 0),(5500,.cells [.int .i64 (9),.str [],.az,.slice 5499 0 1 (.exact 1),.bc] 51 .own 0 0),(5501,.cells [.int .i64 (6),.str [],.az,.az,.bc] 51 .own 0 0),(5503,.cells [.ptr 3 0,.ptr 4 0,.ptr 5 0,.ptr 6 0,.ptr 7 0,.ptr 8 0,.ptr 119 0,.ptr 429 0,.ptr 1111 0,.ptr 1223 0,.ptr 1533 0,.ptr 2200 0,.ptr 2312 0,.ptr 2622 0,.ptr 3304 0,.ptr 3416 0,.ptr 3726 0,.ptr 4108 0,.ptr 4220 0,.ptr 4530 0,.ptr 4910 0,.ptr 4913 0,.ptr 5497 0,.bc,.ptr 5498 0,.ptr 5500 0,.ptr 5501 0] 47 .aM 0 0)]⟩
theorem Vy(hf:Fit Tryz.prog):Gf Tryz.prog [] lC.uy:=⟨λ_ _ _=>none,200,(by intro _ _ _ _ _ h;cases h),rfl,λfc=>by kernel_rfl⟩
end Go.Proofs.cf
namespace cS
open ay
abbrev aL:=List UInt8
inductive a3 where
 |mk (k:Nat) (bZ:aL) (ns:List aL) (xs:List a3) (rt:Option a3)
def a3.k:a3->Nat|.mk k _ _ _ _=>k
mutual
def sz:a3->Nat
 |.mk _ _ _ xs rt=>1+dP xs+dw rt
def dP:List a3->Nat
 |[]=>0
 |t::ts=>sz t+dP ts
def dw:Option a3->Nat
 |none=>0
 |some t=>sz t
end
def hU:List aL->List aL->Bool
 |[],[]=>true
 |x::xs,y::ys=>cw x y&&hU xs ys
 |_,_=>false
mutual
def qP:a3->a3->Bool
 |.mk k bZ ns xs rt,.mk ew qQ sr pP qR=>Nat.beq k ew&&(cw bZ qQ&&(hU ns sr&&(hr xs pP&&h8 rt qR)))
def hr:List a3->List a3->Bool
 |[],[]=>true
 |x::xs,y::ys=>qP x y&&hr xs ys
 |_,_=>false
def h8:Option a3->Option a3->Bool
 |none,none=>true
 |some x,some y=>qP x y
 |_,_=>false
end
theorem uB(k:Nat)(bZ:aL)(ns:List aL)(xs:List a3)(rt:Option a3):sz (.mk k bZ ns xs rt)=1+dP xs+dw rt:=by rw[sz]
theorem lD(t:a3):dw (some t)=sz t:=by rw[dw]
theorem ss:∀t:a3,0<sz t
 |.mk _ _ _ _ _=>by unfold sz;omega
theorem oF{t:a3}:∀{l:List a3},t∈l->sz t<=dP l
 |[],h=>by cases h
 |x::l,h=>by
  unfold dP
  rcases List.mem_cons.1 h with rfl|h
  · omega
  · have:=oF h;omega
theorem su:∀l:List a3,l.length<=dP l
 |[]=>Nat.le_refl _
 |x::l=>by
  have:=su l
  have:=ss x
  unfold dP
  simp;omega
mutual
def hV:a3->Nat
 |.mk _ _ ns xs rt=>ns.length+kP xs+oG rt
def kP:List a3->Nat
 |[]=>0
 |t::ts=>hV t+kP ts
def oG:Option a3->Nat
 |none=>0
 |some t=>hV t
end
theorem y2{t:a3}:∀{l:List a3},t∈l->hV t<=kP l
 |[],h=>by cases h
 |x::l,h=>by
  rw[kP]
  rcases List.mem_cons.1 h with rfl|h
  · omega
  · have:=y2 h;omega
def pQ(n:Nat):Bool:=(decide (97<=n)&&decide (n<=122))||((decide (65<=n)&&decide (n<=90))||decide (n=95))
def nH(n:Nat):Bool:=decide (48<=n)&&decide (n<=57)
def sv(n:Nat):Bool:=pQ n||nH n||decide (n=45)||decide (n=47)||decide (n=46)
def Md:aL->Bool
 |[]=>false
 |c::_=>pQ c.toNat
def mO(s:aL):Bool:=decide (1<=s.length)&&decide (s.length<=24)&&Md s&&s.all (λc=>pQ c.toNat||nH c.toNat)
def sw(s:aL):Bool:=decide (1<=s.length)&&decide (s.length<=161)&&s.all (λc=>sv c.toNat)
theorem Gl(x y:UInt8)(a b:aL):fq (x::a) (y::b)=if x.toNat=y.toNat then fq a b else decide (x.toNat<y.toNat):=by
 by_cases h:x.toNat=y.toNat
 · rw[if_pos h];simp only[fq,h,Nat.beq_refl]
 · rw[if_neg h]
   have ag:Nat.beq x.toNat y.toNat=false:=by
    cases ad:Nat.beq x.toNat y.toNat with
    |false=>rfl
    |true=>exact absurd (Nat.eq_of_beq_eq_true ad) h
   simp only[fq,ag]
   exact Bool.eq_iff_iff.2 (by rw[Nat.blt_eq];simp)
def oH:aL:=(List.range 26).map (λi=>UInt8.ofNat (97+i))++(List.range 26).map (λi=>UInt8.ofNat (65+i))++(List.range 10).map (λi=>UInt8.ofNat (48+i))++[95]
def pR(n:Nat):Bool:=pQ n||nH n
def ko(p:Nat->Bool):List J:=(List.range 256).map λn=>.bool (p n)
def g6(sep:aL):List aL->aL
 |[]=>[]
 |x::l=>x++l.flatMap (λy=>sep++y)
theorem Vz(sep:aL):∀(l:List aL) (y:aL),l≠[]->g6 sep (l++[y])=g6 sep l++sep++y
 |[],y,h=>absurd rfl h
 |x::l,y,_=>by
  show x++(l++[y]).flatMap _=x++l.flatMap _++sep++y
  rw[List.flatMap_append]
  simp
theorem VA(sep y:aL):g6 sep ([]++[y])=y:=by simp[g6]
theorem Me(sep:aL)(l:List aL){i:Nat}(h:i<l.length):g6 sep (l.take (i+1))=if 0<i then g6 sep (l.take i)++sep++l[i] else l[i]:=by
 rw[List.take_succ_eq_append_getElem h]
 by_cases h0:0<i
 · rw[if_pos h0,Vz]
   intro e
   have aw:(l.take i).length=i:=by rw[List.length_take];omega
   rw[e] at aw
   simp at aw
   omega
 · rw[if_neg h0]
   obtain rfl:i=0:=by omega
   exact VA sep _
theorem Mf(sep:aL)(l:List aL):∀(i:Nat),(g6 sep (l.take i)).length<=(g6 sep l).length:=by
 intro i
 cases l with
 |nil=>simp
 |cons x l=>
  cases i with
  |zero=>simp[g6]
  |succ i=>
   show(x++(l.take i).flatMap _).length<=(x++l.flatMap _).length
   have e:l.flatMap (λy=>sep++y)=(l.take i).flatMap (λy=>sep++y)++(l.drop i).flatMap (λy=>sep++y):=by
    rw[<-List.flatMap_append,List.take_append_drop]
   rw[e]
   simp only[List.length_append]
   omega
theorem VB(sep:aL)(l:List aL){i:Nat}(h:i<l.length):l[i].length<=(g6 sep l).length:=by
 have ab:=Mf sep l (i+1)
 rw[Me sep l h] at ab
 split at ab
 · simp at ab;omega
 · exact ab
def word:Nat->aL
 |1=>[97,110,121]
 |2=>[105,110,116]
 |3=>[98,111,111,108]
 |4=>[115,116,114]
 |5=>[110,105,108]
 |_=>[]
def md(ns ws:List aL):List aL:=List.zipWith (λn w=>n++[58,32]++w) ns ws
def nI(iW:List Nat)(ws:List aL):List aL:=List.zipWith (λk w=>if k=8 then[40]++w++[41] else w) iW ws
def shape(k:Nat)(bZ:aL)(ns:List aL)(iW:List Nat)(ws:List aL)(r:aL):aL:=
 if k=6 then bZ else if k=7 then[123]++g6 [44,32] (md ns ws)++[125] else if k=8 then[102,110,40]++g6 [44,32] ws++[41,32,45,62,32]++r
 else if k=9 then g6 [32,124,32] (nI iW ws) else word k
mutual
def wr:a3->aL
 |.mk k bZ ns xs rt=>shape k bZ ns (xs.map a3.k) (dx xs) (mP rt)
def dx:List a3->List aL
 |[]=>[]
 |t::ts=>wr t::dx ts
def mP:Option a3->aL
 |none=>[]
 |some t=>wr t
end
mutual
def okW:a3->Bool
 |.mk k bZ ns xs rt=>decide (1<=k)&&decide (k<=9)&&(decide (k≠7)||decide (xs.length=ns.length))&&(decide (k≠8)||rt.isSome)&&uC xs&&wB rt
def uC:List a3->Bool
 |[]=>true
 |t::ts=>okW t&&uC ts
def wB:Option a3->Bool
 |none=>true
 |some t=>okW t
end
theorem Cd:∀l:List a3,(dx l).length=l.length
 |[]=>by rw[dx];rfl
 |x::l=>by rw[dx];simp[Cd l]
theorem Gm:∀(l:List a3) (i:Nat) (h:i<l.length) (an:i<(dx l).length),(dx l)[i]=wr l[i]
 |[],i,h,_=>by simp at h
 |x::l,0,_,_=>by simp only[dx];rfl
 |x::l,i+1,h,an=>by
  have:=Gm l i (by simpa using h) (by rw[Cd];simpa using h)
  simpa only[dx,List.getElem_cons_succ] using this
def qS(p:Option aL)(x:aL):Bool:=match p with
 |none=>true
 |some q=>fq q x
def oI(p:Option aL):List aL->Bool
 |[]=>true
 |x::l=>mO x&&(qS p x&&oI (some x) l)
def uD(p:Option aL):List Nat->List aL->Bool
 |k::iW,w::ws=>(decide (k≠9)&&decide (k≠1))&&(qS p w&&uD (some w) iW ws)
 |_,_=>true
theorem Mg{s:aL}(h:mO s=true):s.length<=24:=by
 unfold mO at h
 simp only[Bool.and_eq_true,decide_eq_true_eq] at h
 exact h.1.1.2
def wC(k:Nat)(s:aL)(N M:Nat)(o:Bool):Bool:=(!((!cw s []) !=decide (k=6)))&&(!(decide (0<N)&&decide (k≠7)))&&(!(decide (0<M)&&decide (k<7)))&&(!(o !=decide (k=8)))
def iX(k:Nat)(bZ:aL)(ns:List aL)(iW:List Nat)(ws:List aL)(n:Nat)(r:Bool):Bool:=
 if k=6 then sw bZ else if k=7 then decide (ns.length=n)&&oI none ns else if k=8 then r else if k=9 then uD none iW ws&&decide (2<=n) else true
mutual
def g7:a3->Bool
 |.mk k bZ ns xs rt=>(decide (1<=k)&&decide (k<=9))&&(wC k bZ ns.length xs.length rt.isSome&&(me xs&&iX k bZ ns (xs.map a3.k) (dx xs) xs.length (mQ rt)))
def me:List a3->Bool
 |[]=>true
 |t::ts=>g7 t&&me ts
def mQ:Option a3->Bool
 |none=>false
 |some t=>g7 t
end
theorem Ce{t:a3}:∀{l:List a3},me l=true->t∈l->g7 t=true
 |[],_,h=>by cases h
 |x::l,aw,h=>by
  rw[me,Bool.and_eq_true] at aw
  rcases List.mem_cons.1 h with rfl|h
  · exact aw.1
  · exact Ce aw.2 h
theorem Cf(k:Nat)(bZ:aL)(ns:List aL)(xs:List a3)(rt:Option a3):g7 (.mk k bZ ns xs rt)=((decide (1<=k)&&decide (k<=9))&&(wC k bZ ns.length xs.length rt.isSome&&(me xs&&iX k bZ ns (xs.map a3.k) (dx xs) xs.length (mQ rt)))):=by rw[g7]
mutual
theorem Cg:∀t:a3,g7 t=true->okW t=true
 |.mk k bZ ns xs rt,h=>by
  rw[Cf] at h
  simp only[Bool.and_eq_true,decide_eq_true_eq] at h
  obtain⟨⟨bz,kp⟩,aY,ad,au⟩:=h
  have wD:=Mh xs ad
  have Mi:rt.isSome=decide (k=8):=by
   unfold wC at aY
   simp only[Bool.and_eq_true] at aY
   have:=aY.2
   revert this
   cases rt.isSome<;>cases aq:decide (k=8)<;>simp
  have a8:wB rt=true:=by
   cases rt with
   |none=>rw[wB]
   |some u=>
    have pS:k=8:=by simpa using Mi.symm
    subst pS
    have hu:g7 u=true:=by simpa[iX,mQ] using au
    rw[wB]
    exact Cg u hu
  rw[okW]
  simp only[Bool.and_eq_true,Bool.or_eq_true,decide_eq_true_eq]
  refine⟨⟨⟨⟨⟨bz,kp⟩,?_⟩,?_⟩,wD⟩,a8⟩
  · by_cases e:k=7
    · subst e
      right
      have:ns.length=xs.length/\oI none ns=true:=by simpa[iX] using au
      exact this.1.symm
    · exact .inl e
  · by_cases e:k=8
    · right;rw[Mi];simp[e]
    · exact .inl e
theorem Mh:∀l:List a3,me l=true->uC l=true
 |[],_=>by rw[uC]
 |t::l,h=>by
  rw[me,Bool.and_eq_true] at h
  rw[uC,Cg t h.1,Mh l h.2];rfl
end
def kq(c:Nat):List aL->Nat
 |[]=>0
 |x::l=>x.length+c+kq c l
theorem Mj(sep:aL):∀l:List aL,(l.flatMap (λy=>sep++y)).length=kq sep.length l
 |[]=>rfl
 |x::l=>by
  rw[List.flatMap_cons,List.length_append,Mj sep l,List.length_append,kq]
  omega
theorem Gn(sep:aL):∀l:List aL,(g6 sep l).length<=kq sep.length l
 |[]=>Nat.le_refl _
 |x::l=>by
  show(x++l.flatMap _).length<=_
  rw[List.length_append,Mj,kq]
  omega
theorem Mk:∀(p:Option aL) (ns:List aL),oI p ns=true->∀n∈ns,n.length<=24
 |_,[],_,n,aJ=>by cases aJ
 |p,x::l,h,n,aJ=>by
  rw[oI,Bool.and_eq_true,Bool.and_eq_true] at h
  rcases List.mem_cons.1 aJ with rfl|aJ
  · exact Mg h.1
  · exact Mk (some x) l h.2.2 n aJ
def y3:List a3->Prop
 |[]=>True
 |t::l=>(wr t).length+30<=300*sz t/\y3 l
theorem Ml:∀xs:List a3,y3 xs->kq 2 (dx xs)<=300*dP xs
 |[],_=>by rw[dx,kq];omega
 |t::l,h=>by
  have ab:=h.1
  have:=Ml l h.2
  rw[dx,kq,dP];omega
theorem Mm:∀(ns:List aL) (xs:List a3),y3 xs->(∀n∈ns,n.length<=24)->kq 2 (md ns (dx xs))<=300*dP xs
 |[],xs,_,_=>by simp[md,kq]
 |n::ns,[],_,_=>by simp[md,dx,kq]
 |n::ns,t::l,h,aJ=>by
  have ab:=h.1
  have ae:=aJ n (by simp)
  have:=Mm ns l h.2 (λm hm=>aJ m (by simp[hm]))
  unfold md at this⊢
  rw[dx,List.zipWith_cons_cons,kq,dP]
  simp only[List.length_append,List.length_cons,List.length_nil]
  omega
theorem Mn:∀(xs:List a3),y3 xs->kq 3 (nI (xs.map a3.k) (dx xs))<=300*dP xs
 |[],_=>by simp[nI,dx,kq]
 |t::l,h=>by
  have ab:=h.1
  have:=Mn l h.2
  unfold nI at this⊢
  rw[List.map_cons,dx,List.zipWith_cons_cons,kq,dP]
  split
  · simp only[List.length_append,List.length_cons,List.length_nil]
    omega
  · omega
mutual
theorem Gp:∀t:a3,g7 t=true->(wr t).length+30<=300*sz t
 |.mk k bZ ns xs rt,h=>by
  rw[Cf] at h
  simp only[Bool.and_eq_true,decide_eq_true_eq] at h
  obtain⟨⟨bz,kp⟩,aY,ad,au⟩:=h
  have hs:=Mo xs ad
  rw[wr,uB]
  unfold shape
  split
  · rename_i e
    subst e
    have:sw bZ=true:=by simpa[iX] using au
    unfold sw at this
    simp only[Bool.and_eq_true,decide_eq_true_eq] at this
    omega
  split
  · rename_i e
    subst e
    have hf:ns.length=xs.length/\oI none ns=true:=by simpa[iX] using au
    have bh:=Mm ns xs hs (Mk none ns hf.2)
    have bf:(g6 [44,32] (md ns (dx xs))).length<=kq 2 (md ns (dx xs)):=Gn [44,32] _
    simp only[List.length_append,List.length_cons,List.length_nil]
    omega
  split
  · rename_i e
    subst e
    have bh:=Ml xs hs
    have bf:(g6 [44,32] (dx xs)).length<=kq 2 (dx xs):=Gn [44,32] _
    have ai:(mP rt).length<=300*dw rt:=by
     cases rt with
     |none=>rw[mP];simp
     |some u=>
      have hu:g7 u=true:=by simpa[iX,mQ] using au
      have:=Gp u hu
      rw[mP,lD];omega
    simp only[List.length_append,List.length_cons,List.length_nil]
    omega
  split
  · have bh:=Mn xs hs
    have bf:(g6 [32,124,32] (nI (xs.map a3.k) (dx xs))).length<=kq 3 (nI (xs.map a3.k) (dx xs)):=Gn [32,124,32] _
    omega
  · have:(word k).length<=4:=by
      unfold word;split<;>simp
    omega
theorem Mo:∀l:List a3,me l=true->y3 l
 |[],_=>trivial
 |t::l,h=>by
  rw[me,Bool.and_eq_true] at h
  exact⟨Gp t h.1,Mo l h.2⟩
end
end cS
namespace Go.Proofs.cf
open Go ay Go.Proofs cS
set_option maxRecDepth 100000
set_option maxHeartbeats 1000000
def eT(B:Nat)(h:aa)(v:J)(vs:List J):Prop:=(v=.az/\vs=[])\/∃b off aG,v=.slice b off vs.length aG/\b<B/\(∀i (af:i<vs.length),aA h b (off+i*1)=some vs[i])/\0<vs.length/\aG≠ .dead
mutual
def e4(B:Nat)(h:aa):a3->J->Prop
 |.mk k bZ ns xs rt,v=>∃r b5 bJ dy vs cd aW up,v=.ptr r 0/\r<B/\h.get r=some (.cells [.int .i64 (Int.ofNat k),.str bZ,b5,bJ,dy] 51 cd aW up)/\eT B h b5 (ns.map .str)/\eT B h bJ vs/\e5 B h xs vs/\ep B h rt dy
def e5(B:Nat)(h:aa):List a3->List J->Prop
 |[],vs=>vs=[]
 |t::ts,vs=>∃v ws,vs=v::ws/\e4 B h t v/\e5 B h ts ws
def ep(B:Nat)(h:aa):Option a3->J->Prop
 |none,v=>v=.bc
 |some t,v=>e4 B h t v
end
def fm(B:Nat)(h g:aa):Prop:=∀b,b<B->g.get b=h.get b
theorem fm.ext{B C:Nat}{h g:aa}(e:Ext C h g)(bN:B<=C):fm B h g:=λb ag=>e.get b (by omega)
theorem eT.bM{B:Nat}{h g:aa}{v:J}{vs:List J}(e:fm B h g)(hs:eT B h v vs):eT B g v vs:=by
 rcases hs with hs|⟨b,off,aG,ab,ae,av,aK⟩
 · exact .inl hs
 · refine .inr ⟨b,off,aG,ab,ae,λi af=>?_,aK⟩
   rw[<-av i af]
   unfold aA
   rw[e b ae]
theorem eT.le{B C:Nat}{h:aa}{v:J}{vs:List J}(e:B<=C)(hs:eT B h v vs):eT C h v vs:=by
 rcases hs with hs|⟨b,off,aG,ab,ae,av,aK⟩
 · exact .inl hs
 · exact .inr ⟨b,off,aG,ab,by omega,av,aK⟩
mutual
theorem e4.bM{B:Nat}{h g:aa}(e:fm B h g):∀(t:a3) (v:J),e4 B h t v->e4 B g t v
 |.mk k bZ ns xs rt,v,ad=>by
  obtain⟨r,b5,bJ,dy,vs,cd,aW,up,ab,ae,av,aK,bU,cB,eo⟩:=ad
  exact⟨r,b5,bJ,dy,vs,cd,aW,up,ab,ae,(e r ae).trans av,aK.bM e,bU.bM e,e5.bM e xs vs cB,ep.bM e rt dy eo⟩
theorem e5.bM{B:Nat}{h g:aa}(e:fm B h g):∀(ts:List a3) (vs:List J),e5 B h ts vs->e5 B g ts vs
 |[],vs,ad=>ad
 |t::ts,vs,ad=>by
  obtain⟨v,ws,ab,ae,av⟩:=ad
  exact⟨v,ws,ab,e4.bM e t v ae,e5.bM e ts ws av⟩
theorem ep.bM{B:Nat}{h g:aa}(e:fm B h g):∀(t:Option a3) (v:J),ep B h t v->ep B g t v
 |none,v,ad=>ad
 |some t,v,ad=>e4.bM e t v ad
end
mutual
theorem e4.le{B C:Nat}{h:aa}(e:B<=C):∀(t:a3) (v:J),e4 B h t v->e4 C h t v
 |.mk k bZ ns xs rt,v,ad=>by
  obtain⟨r,b5,bJ,dy,vs,cd,aW,up,ab,ae,av,aK,bU,cB,eo⟩:=ad
  exact⟨r,b5,bJ,dy,vs,cd,aW,up,ab,by omega,av,aK.le e,bU.le e,e5.le e xs vs cB,ep.le e rt dy eo⟩
theorem e5.le{B C:Nat}{h:aa}(e:B<=C):∀(ts:List a3) (vs:List J),e5 B h ts vs->e5 C h ts vs
 |[],vs,ad=>ad
 |t::ts,vs,ad=>by
  obtain⟨v,ws,ab,ae,av⟩:=ad
  exact⟨v,ws,ab,e4.le e t v ae,e5.le e ts ws av⟩
theorem ep.le{B C:Nat}{h:aa}(e:B<=C):∀(t:Option a3) (v:J),ep B h t v->ep C h t v
 |none,v,ad=>ad
 |some t,v,ad=>e4.le e t v ad
end
theorem e5.len{B:Nat}{h:aa}:∀{ts:List a3} {vs:List J},e5 B h ts vs->vs.length=ts.length
 |[],vs,ad=>by
  have e:vs=[]:=ad
  subst e;rfl
 |s::ts,vs,ad=>by
  obtain⟨u,ws,rfl,ae,av⟩:=ad
  simp[e5.len av]
theorem e5.get{B:Nat}{h:aa}:∀{ts:List a3} {vs:List J},e5 B h ts vs->∀i (ab:i<vs.length) (ae:i<ts.length),e4 B h ts[i] vs[i]
 |[],vs,ad,i,ab,ae=>by simp at ae
 |s::ts,vs,ad,i,ab,ae=>by
  obtain⟨u,ws,rfl,av,aK⟩:=ad
  cases i with
  |zero=>exact av
  |succ i=>exact e5.get aK i (by simpa using ab) (by simpa using ae)
theorem eT.snd{B:Nat}{h:aa}{v:J}{vs:List J}(hs:eT B h v vs):J.sound v=true:=by
 rcases hs with⟨rfl,_⟩|⟨b,off,aG,rfl,_⟩<;>rfl
theorem eT.len{B:Nat}{h g:aa}{v:J}{vs:List J}{t e:TypeId}(hu:Tryz.prog.underlying t=some (.slice e))(hs:eT B h v vs):cO Tryz.prog g t v=some (.int .i64 (Int.ofNat vs.length)):=by
 rcases hs with⟨rfl,rfl⟩|⟨b,off,aG,rfl,_⟩
 · simp only[cO,hu];rfl
 · simp only[cO,hu]
theorem ep.wE{B:Nat}{h:aa}{ot:Option a3}{v:J}(aH:ep B h ot v):v=.bc\/∃R,v=.ptr R 0:=by
 cases ot with
 |none=>exact .inl aH
 |some u=>
  cases u with
  |mk k bZ ns ys rt=>obtain⟨r,b5,bJ,_,vs,cd,aW,up,rfl,_⟩:=aH;exact .inr ⟨r,rfl⟩
theorem ep.snd{B:Nat}{h:aa}{ot:Option a3}{v:J}(aH:ep B h ot v):J.sound v=true:=by
 rcases aH.wE with rfl|⟨R,rfl⟩<;>rfl
theorem e4.snd{B:Nat}{h:aa}{t:a3}{v:J}(aH:e4 B h t v):J.sound v=true:=ep.snd (ot:=some t) aH
theorem nJ{p:Prop}(h:p:=by first|with_reducible assumption|rfl|exact eT.snd (by with_reducible assumption)|exact eT.sx (by with_reducible assumption)|exact ep.snd (by with_reducible assumption)|exact ep.sx (by with_reducible assumption)|exact e4.snd (by with_reducible assumption)|exact e4.sx (by with_reducible assumption)):p:=h
noncomputable def b7:Nat->List J->aa->Option (J×aa):=Gd (qD [⟨12,[],.bool true⟩,⟨139,[.str oH],.aD [.agg (ko pR),.bool true]⟩,⟨139,[.str (oH++[45,47,46])],.aD [.agg (ko sv),.bool true]⟩]) (uz Tryz.prog.globals.size [] [lC])
noncomputable def Y(n:Nat):aO->List J->aa->ax:=e_ Tryz.prog b7 n
end Go.Proofs.cf
namespace Go.Proofs.cf
open Go ay Go.Proofs cS
set_option maxRecDepth 100000
set_option maxHeartbeats 1000000
end Go.Proofs.cf
namespace Go.Proofs.cf
open Go ay Go.Proofs cS
set_option maxRecDepth 100000
set_option maxHeartbeats 1000000
theorem VC(call:aO->List J->aa->ax)(v:J)(h:aa):
  aN Tryz.prog Tryz.f70 none call [0] (ar.mk [(0,v)] [] .none h) (.nrm)
   (ar.mk [(0,v)] [] .none h):=
 bI [0] (hs:=[]) (by kernel_rfl)<| .nil
theorem VD(call:aO->List J->aa->ax)(v:J)(h g:aa)
  (H1:ay.storeCells (aa.push h (.cells [.int .i64 (.ofNat 0)] 3 .own 0 0)) (aa.n h) 0 [.int .i64 (.ofNat 0)]=some g):
  aN Tryz.prog Tryz.f70 none call [1,0] (ar.mk [(0,v)] [] .none h) (.nrm)
   (ar.mk [(0,v),(3,.ptr (aa.n h) 0)] [] .none g):=
 bI [0,3] (hs:=[.fS (.aD []) g]) (by kernel_rfl)<| .cons (⟨by kernel_rfl,H1,rfl⟩:some 1=some 1/\ay.storeCells (aa.push h (b3.cells [J.int IntKind.i64 (Int.ofNat 0)] 3 eZ.own 0 0)) (aa.n h) 0 [J.int IntKind.i64 (Int.ofNat 0)]=some g/\J.aD []=J.aD [])<| .nil
theorem VE(call:aO->List J->aa->ax)(v w:J)(a:Nat)(h g:aa)
  (H1:call (.fn 86) [v] h=ax.ret w g):
  aN Tryz.prog Tryz.f70 none call [1,1,0,0] (ar.mk [(0,v),(3,.ptr a 0)] [] .none h) (.nrm)
   (ar.mk [(3,.ptr a 0),(5,w)] [] .none g):=
 bI [3,5] (hs:=[.c w g]) (by kernel_rfl)<| .cons H1<| .nil
theorem VF(call:aO->List J->aa->ax)(l a i j:Nat)(h g:aa)
  (H1:aA h a 0=some (.int .i64 (.ofNat i)))
  (a7:arith .add .i64 (.ofNat i) (.ofNat 1)=some (.int .i64 (.ofNat j)))
  (b1:ay.storeCells h a 0 [.int .i64 (.ofNat j)]=some g)
  (b8:aA g a 0=some (.int .i64 (.ofNat j)))
  (dv:dZ (.ofNat 60) (.ofNat j)=true):
  aN Tryz.prog Tryz.f70 (some l) call [1,1,0,1,0,1] (ar.mk [(3,.ptr a 0)] [] .none h) (.exit 0)
   (ar.mk [(3,.ptr a 0)] [] .none g):=
 bI [3] (hs:=[.v (.int .i64 (.ofNat i)),.v (.int .i64 (.ofNat j)),.fS (.aD []) g,.v (.int .i64 (.ofNat j)),.b true]) (by kernel_rfl)<| .cons H1<| .cons a7<| .cons (⟨by kernel_rfl,b1,rfl⟩:some 1=some 1/\ay.storeCells h a 0 [J.int IntKind.i64 (Int.ofNat j)]=some g/\J.aD []=J.aD [])<| .cons b8<| .cons dv<| .nil
theorem VG(call:aO->List J->aa->ax)(l a i j:Nat)(h g:aa)
  (H1:aA h a 0=some (.int .i64 (.ofNat i)))
  (a7:arith .add .i64 (.ofNat i) (.ofNat 1)=some (.int .i64 (.ofNat j)))
  (b1:ay.storeCells h a 0 [.int .i64 (.ofNat j)]=some g)
  (b8:aA g a 0=some (.int .i64 (.ofNat j)))
  (dv:dZ (.ofNat 60) (.ofNat j)=false):
  aN Tryz.prog Tryz.f70 (some l) call [1,1,0,1,0,1] (ar.mk [(3,.ptr a 0)] [] .none h) (.nrm)
   (ar.mk [(3,.ptr a 0)] [] .none g):=
 bI [3] (hs:=[.v (.int .i64 (.ofNat i)),.v (.int .i64 (.ofNat j)),.fS (.aD []) g,.v (.int .i64 (.ofNat j)),.b false]) (by kernel_rfl)<| .cons H1<| .cons a7<| .cons (⟨by kernel_rfl,b1,rfl⟩:some 1=some 1/\ay.storeCells h a 0 [J.int IntKind.i64 (Int.ofNat j)]=some g/\J.aD []=J.aD [])<| .cons b8<| .cons dv<| .nil
theorem VH(call:aO->List J->aa->ax)(a j et:Nat)(h:aa)
  (H1:aA h a 0=some (.int .i64 (.ofNat j))):
  aN Tryz.prog Tryz.f70 none call [1,1,1] (ar.mk [(3,.ptr a 0)] [.collected et] .none h) (.ret)
   (ar.mk [(2,.int .i64 (.ofNat j))] [.collected et] .none h):=
 bI [2] (hs:=[.v (.int .i64 (.ofNat j))]) (by kernel_rfl)<| .cons H1<| .nil
theorem VI(call:aO->List J->aa->ax)(r:Nat)(h:aa):
  aN Tryz.prog Tryz.f86 none call [] (ar.mk [(0,.ptr r 0)] [] .none h) (.ret)
   (ar.mk [(2,.fn 99 [] [.ptr (aa.n h) 0])] [] .none (aa.push h (.cells [.ptr r 0] 47 .own 0 0))):=
 bI [2] (hs:=[]) (by kernel_rfl)<| .nil
theorem VJ(call:aO->List J->aa->ax)(h:aa):
  aN Tryz.prog Tryz.f86 none call [] (ar.mk [(0,.bc)] [] .none h) (.ret)
   (ar.mk [(2,.fn 99 [] [.ptr (aa.n h) 0])] [] .none (aa.push h (.cells [.bc] 47 .own 0 0))):=
 bI [2] (hs:=[]) (by kernel_rfl)<| .nil
theorem VK(call:aO->List J->aa->ax)(l a:Nat)(v w:J)(h ab ae:aa)
  (H1:ay.storeCells (aa.push (aa.push h (.cells [.bR l] 139 .own 0 0)) (.cells [.fi] 139 .own 0 0)) (aa.n (aa.push h (.cells [.bR l] 139 .own 0 0))) 0 [.fn 100 [] [.ptr (aa.n h) 0,.ptr (aa.n (aa.push h (.cells [.bR l] 139 .own 0 0))) 0]]=some ab)
  (a7:aA ab (aa.n (aa.push h (.cells [.bR l] 139 .own 0 0))) 0=some (.fn 100 [] [.ptr (aa.n h) 0,.ptr (aa.n h+1) 0]))
  (b1:aA ab a 0=some v)
  (b8:call (.fn 100) [v,.ptr (aa.n h) 0,.ptr (aa.n h+1) 0] ab=ax.ret w ae):
  aN Tryz.prog Tryz.f99 none call [] (ar.mk [(0,.bR l),(1,.ptr a 0)] [] .none h) (.nrm)
   (ar.mk [] [] .none ae):=
 bI [] (hs:=[.fS (.aD []) ab,.v (.fn 100 [] [.ptr (aa.n h) 0,.ptr (aa.n h+1) 0]),.v v,.c w ae]) (by kernel_rfl)<| .cons (⟨by kernel_rfl,H1,rfl⟩:some 1=some 1/\ay.storeCells (aa.push (aa.push h (b3.cells [J.bR l] 139 eZ.own 0 0)) (b3.cells [J.fi] 139 eZ.own 0 0)) (aa.n (aa.push h (b3.cells [J.bR l] 139 eZ.own 0 0))) 0 [J.fn 100 [] [J.ptr (aa.n h) 0,J.ptr (aa.n (aa.push h (b3.cells [J.bR l] 139 eZ.own 0 0))) 0]]=some ab/\J.aD []=J.aD [])<| .cons a7<| .cons b1<| .cons b8<| .nil
theorem VL(call:aO->List J->aa->ax)(y z:Nat)(h:aa):
  aN Tryz.prog Tryz.f100 none call [] (ar.mk [(0,.bc),(1,.ptr y 0),(2,.ptr z 0)] [] .none h) (.ret)
   (ar.mk [(4,.bool true)] [] .none h):=
 bI [4] (hs:=[.v (.bool true),.b true]) (by kernel_rfl)<| .cons (by kernel_rfl:er Tryz.prog h BinOp.eql 47 (Operand.tmp 7) (Operand.const (Value.pointer none)) J.bc J.bc=some (J.bool true))<| .cons (by kernel_rfl:true=true)<| .nil
theorem VM(call:aO->List J->aa->ax)(r y z:Nat)(h:aa):
  aN Tryz.prog Tryz.f100 none call [0] (ar.mk [(0,.ptr r 0),(1,.ptr y 0),(2,.ptr z 0)] [] .none h) (.nrm)
   (ar.mk [(0,.ptr r 0),(1,.ptr y 0),(2,.ptr z 0)] [] .none h):=
 bI [0,1,2] (hs:=[]) (by kernel_rfl)<| .nil
theorem VN(call:aO->List J->aa->ax)(r y z:Nat)(h:aa):
  aN Tryz.prog Tryz.f100 none call [1,0] (ar.mk [(0,.ptr r 0),(1,.ptr y 0),(2,.ptr z 0)] [] .none h) (.nrm)
   (ar.mk [(0,.ptr r 0),(1,.ptr y 0),(2,.ptr z 0)] [] .none h):=
 bI [0,1,2] (hs:=[.v (.bool false),.b false]) (by kernel_rfl)<| .cons (by kernel_rfl:er Tryz.prog h BinOp.eql 47 (Operand.tmp 7) (Operand.const (Value.pointer none)) (J.ptr r 0) J.bc=some (J.bool false))<| .cons (by kernel_rfl:false=false)<| .nil
theorem VO(call:aO->List J->aa->ax)(r y z l:Nat)(h g:aa)
  (H1:aA h y 0=some (.bR l))
  (a7:call (.bR l) [.ptr r 0] h=ax.ret (.bool true) g):
  aN Tryz.prog Tryz.f100 none call [1,1,0] (ar.mk [(0,.ptr r 0),(1,.ptr y 0),(2,.ptr z 0)] [] .none h) (.nrm)
   (ar.mk [(0,.ptr r 0),(1,.ptr y 0),(2,.ptr z 0)] [] .none g):=
 bI [0,1,2] (hs:=[.v (.bR l),.c (.bool true) g,.b false]) (by kernel_rfl)<| .cons H1<| .cons a7<| .cons (by kernel_rfl:(!true)=false)<| .nil
theorem VP(call:aO->List J->aa->ax)(r y z l:Nat)(h g:aa)
  (H1:aA h y 0=some (.bR l))
  (a7:call (.bR l) [.ptr r 0] h=ax.ret (.bool false) g):
  aN Tryz.prog Tryz.f100 none call [1,1,0] (ar.mk [(0,.ptr r 0),(1,.ptr y 0),(2,.ptr z 0)] [] .none h) (.ret)
   (ar.mk [(4,.bool false)] [] .none g):=
 bI [4] (hs:=[.v (.bR l),.c (.bool false) g,.b true]) (by kernel_rfl)<| .cons H1<| .cons a7<| .cons (by kernel_rfl:(!false)=true)<| .nil
theorem VQ(call:aO->List J->aa->ax)(r y z b off N:Nat)(aG:cj)(h:aa)
  (H1:aA h r (0+3)=some (.slice b off N aG)):
  aN Tryz.prog Tryz.f100 none call [1,1,1,0,0] (ar.mk [(0,.ptr r 0),(1,.ptr y 0),(2,.ptr z 0)] [] .none h) (.nrm)
   (ar.mk [(0,.ptr r 0),(1,.ptr y 0),(2,.ptr z 0),(16,.slice b off N aG),(17,.int .i64 (.ofNat N)),(18,.int .i64 (.ofNat 0))] [] .none h):=
 bI [0,1,2,16,17,18] (hs:=[.v (.slice b off N aG)]) (by kernel_rfl)<| .cons H1<| .nil
theorem VR(call:aO->List J->aa->ax)(r y z:Nat)(h:aa)
  (H1:aA h r (0+3)=some .az):
  aN Tryz.prog Tryz.f100 none call [1,1,1,0,0] (ar.mk [(0,.ptr r 0),(1,.ptr y 0),(2,.ptr z 0)] [] .none h) (.nrm)
   (ar.mk [(0,.ptr r 0),(1,.ptr y 0),(2,.ptr z 0),(16,.az),(17,.int .i64 (.ofNat 0)),(18,.int .i64 (.ofNat 0))] [] .none h):=
 bI [0,1,2,16,17,18] (hs:=[.v .az]) (by kernel_rfl)<| .cons H1<| .nil
theorem Mp(call:aO->List J->aa->ax)(r y z N i:Nat)(v:J)(h:aa)
  (H1:dZ (.ofNat i) (.ofNat N)=false):
  aN Tryz.prog Tryz.f100 none call [1,1,1,0,1,0,0] (ar.mk [(0,.ptr r 0),(1,.ptr y 0),(2,.ptr z 0),(16,v),(17,.int .i64 (.ofNat N)),(18,.int .i64 (.ofNat i))] [] .none h) (.exit 0)
   (ar.mk [(0,.ptr r 0),(1,.ptr y 0),(2,.ptr z 0)] [] .none h):=
 bI [0,1,2] (hs:=[.b false]) (by kernel_rfl)<| .cons H1<| .nil
theorem VS(call:aO->List J->aa->ax)(r y z b off N i q j:Nat)(aG:cj)(x:J)(h g:aa)
  (H1:dZ (.ofNat i) (.ofNat N)=true)
  (a7:Nat.le (Nat.succ i) N/\J.ptr b q=J.ptr b (off+i*1))
  (b1:aA h b q=some x)
  (b8:aA h z 0=some (.fn 100 [] [.ptr y 0,.ptr z 0]))
  (dv:call (.fn 100) [x,.ptr y 0,.ptr z 0] h=ax.ret (.bool true) g)
  (fB:arith .add .i64 (.ofNat i) (.ofNat 1)=some (.int .i64 (.ofNat j))):
  aN Tryz.prog Tryz.f100 none call [1,1,1,0,1,0,0] (ar.mk [(0,.ptr r 0),(1,.ptr y 0),(2,.ptr z 0),(16,.slice b off N aG),(17,.int .i64 (.ofNat N)),(18,.int .i64 (.ofNat i))] [] .none h) (.nrm)
   (ar.mk [(0,.ptr r 0),(1,.ptr y 0),(2,.ptr z 0),(16,.slice b off N aG),(17,.int .i64 (.ofNat N)),(18,.int .i64 (.ofNat j))] [] .none g):=
 bI [0,1,2,16,17,18] (hs:=[.b true,.v (.ptr b q),.v x,.v (.fn 100 [] [.ptr y 0,.ptr z 0]),.c (.bool true) g,.b false,.v (.int .i64 (.ofNat j))]) (by kernel_rfl)<| .cons H1<| .cons a7<| .cons b1<| .cons b8<| .cons dv<| .cons (by kernel_rfl:(!true)=false)<| .cons fB<| .nil
theorem VT(call:aO->List J->aa->ax)(r y z b off N i q:Nat)(aG:cj)(x:J)(h g:aa)
  (H1:dZ (.ofNat i) (.ofNat N)=true)
  (a7:Nat.le (Nat.succ i) N/\J.ptr b q=J.ptr b (off+i*1))
  (b1:aA h b q=some x)
  (b8:aA h z 0=some (.fn 100 [] [.ptr y 0,.ptr z 0]))
  (dv:call (.fn 100) [x,.ptr y 0,.ptr z 0] h=ax.ret (.bool false) g):
  aN Tryz.prog Tryz.f100 none call [1,1,1,0,1,0,0] (ar.mk [(0,.ptr r 0),(1,.ptr y 0),(2,.ptr z 0),(16,.slice b off N aG),(17,.int .i64 (.ofNat N)),(18,.int .i64 (.ofNat i))] [] .none h) (.ret)
   (ar.mk [(4,.bool false)] [] .none g):=
 bI [4] (hs:=[.b true,.v (.ptr b q),.v x,.v (.fn 100 [] [.ptr y 0,.ptr z 0]),.c (.bool false) g,.b true]) (by kernel_rfl)<| .cons H1<| .cons a7<| .cons b1<| .cons b8<| .cons dv<| .cons (by kernel_rfl:(!false)=true)<| .nil
theorem VU(call:aO->List J->aa->ax)(r y z:Nat)(x v:J)(h g:aa)
  (H1:aA (aa.room h 7) z 0=some (.fn 100 [] [.ptr y 0,.ptr z 0]))
  (a7:aA (aa.room h 7) r (0+4)=some x)
  (b1:call (.fn 100) [x,.ptr y 0,.ptr z 0] (aa.room h 7)=ax.ret v g)
  (b8:J.sound x=true:=by first|with_reducible assumption|rfl|exact eT.snd (by with_reducible assumption)|exact eT.sx (by with_reducible assumption)|exact ep.snd (by with_reducible assumption)|exact ep.sx (by with_reducible assumption)|exact e4.snd (by with_reducible assumption)|exact e4.sx (by with_reducible assumption))
  (dv:J.sound v=true:=by first|with_reducible assumption|rfl|exact eT.snd (by with_reducible assumption)|exact eT.sx (by with_reducible assumption)|exact ep.snd (by with_reducible assumption)|exact ep.sx (by with_reducible assumption)|exact e4.snd (by with_reducible assumption)|exact e4.sx (by with_reducible assumption)):
  aN Tryz.prog Tryz.f100 none call [1,1,1,1] (ar.mk [(0,.ptr r 0),(1,.ptr y 0),(2,.ptr z 0)] [] .none h) (.ret)
   (ar.mk [(4,v)] [] .none g):=
 bI [4] (hs:=[.v (.fn 100 [] [.ptr y 0,.ptr z 0]),.v x,.c v g]) (by kernel_rfl)<| .cons H1<| .cons a7<| .cons b1<| .cons (by kernel_rfl:J.sound (J.fn 100 [] [J.ptr y 0,J.ptr z 0])=true)<| .cons H1<| .cons (by kernel_rfl:J.sound (J.ptr r 0)=true)<| .cons (by kernel_rfl:J.ptr r 0=J.ptr r 0)<| .cons (by kernel_rfl:J.sound (J.ptr r 0)=true)<| .cons (by kernel_rfl:J.ptr r 0=J.ptr r 0)<| .cons (by kernel_rfl:J.sound (J.ptr r (0+4))=true)<| .cons (by kernel_rfl:J.ptr r (0+4)=J.ptr r (0+4))<| .cons b8<| .cons a7<| .cons dv<| .cons (by kernel_rfl:v=v)<| .nil
noncomputable def Gq:Code:=sub (fv Tryz.f70) [1,1,0,1,0,0]
noncomputable def VV:Code:=sub (fv Tryz.f70) [1,1,0,1,0,1]
theorem VW:Gq=.skip:=by kernel_rfl
noncomputable abbrev wF(s:LoopState)(p:Option Code)(r:aU)(N:Nat):b3:=.loop s p (dh Tryz.f70) r [6] Gq VV (N+2)
structure qT(N:Nat)(h:aa)(r:aU)(c:Nat)(x:aa):Prop where
 y4:x.get N=some (.cells [.int .i64 (Int.ofNat c)] 3 .own 0 0)
 ju:x.get (N+2)=some (.defrd (some []))
 oJ:x.get (N+3)=some (wF .ready none r N)
 bR:x.get (N+4)=some (.cells [.bR (N+3)] 139 .own 0 0)
 wG:x.get (N+5)=some (.cells [.fn 100 [] [.ptr (N+4) 0,.ptr (N+5) 0]] 139 .own 0 0)
 ext:Ext N h x
structure Mq(N:Nat)(h:aa)(r:aU)(x:aa):Prop where
 y4:x.get N=some (.cells [.int .i64 (Int.ofNat 61)] 3 .own 0 0)
 ju:x.get (N+2)=some (.defrd (some []))
 oJ:x.get (N+3)=some (wF .done (some (.exit 0)) r N)
 ext:Ext N h x
theorem qT.room{N:Nat}{h:aa}{r:aU}{c:Nat}{x:aa}(af:qT N h r c x)(k:Nat):qT N h r c (x.room k):=⟨af.y4,af.ju,af.oJ,af.bR,af.wG,af.ext.hI⟩
theorem VX(m:Nat){N:Nat}{h:aa}{r:aU}{c:Nat}{x:aa}(ai:ay.Mod r [(3,.ptr N 0)])(af:qT N h r c x)(ah:c<=60)(v:J):
  ∃b y,Y (m+1) (.bR (N+3)) [v] x=.ret (.bool b) y/\((b=true/\c+1<=60/\qT N h r (c+1) y)\/(b=false/\60<c+1/\Mq N h r y)):=by
 have a6:Y (m+1) (.bR (N+3)) [v] x=n4 Tryz.prog (Y m) (N+3) [v] x:=rfl
 rw[a6]
 have a5:∀q,c9 Tryz.prog (dh Tryz.f70) (some (N+3)) (Y m) Gq ⟨put 6 v [(3,.ptr N 0)],[],q,x⟩ .nrm ⟨[(3,.ptr N 0)],[],q,x⟩:=λq r' hm=>by
  rw[VW]
  exact⟨r',rfl,hm.sub ⟨rfl,trivial⟩⟩
 have dn:(x.set (N+3) (some (wF .busy none r N))).get N=some (.cells [.int .i64 (Int.ofNat c)] 3 .own 0 0):=by
  rw[aa.bH,if_neg (by omega)];exact af.y4
 by_cases lE:c+1<=60
 · have ag:=VG (Y m) (N+3) N c (c+1) _ _ (l8 dn) (yC (m:=100) (by omega) (by decide)) (BQ (y:=.int .i64 (Int.ofNat (c+1))) rfl dn) (l8 (t:=3) (by rw[aa.bH,if_pos rfl])) (mH (by omega))
   have e:=Lg af.oJ ai (a5 _) ag (by rw[aa.bH,if_neg (by omega),aa.bH,if_pos rfl])
   rw[e]
   refine⟨true,_,rfl,.inl ⟨rfl,lE,?_,?_,?_,?_,?_,?_⟩⟩
   · simp only[aa.bH];rw[if_neg (by omega),if_pos trivial]
   · simp only[aa.bH];rw[if_neg (by omega),if_neg (by omega),if_neg (by omega)];exact af.ju
   · simp only[aa.bH];rw[if_pos trivial]
   · simp only[aa.bH];rw[if_neg (by omega),if_neg (by omega),if_neg (by omega)];exact af.bR
   · simp only[aa.bH];rw[if_neg (by omega),if_neg (by omega),if_neg (by omega)];exact af.wG
   · exact((af.ext.e3 (by omega)).e3 (by omega)).e3 (by omega)
 · have ag:=VF (Y m) (N+3) N c (c+1) _ _ (l8 dn) (yC (m:=100) (by omega) (by decide)) (BQ (y:=.int .i64 (Int.ofNat (c+1))) rfl dn) (l8 (t:=3) (by rw[aa.bH,if_pos rfl])) (kj (by omega))
   have e:=Lg af.oJ ai (a5 _) ag (by rw[aa.bH,if_neg (by omega),aa.bH,if_pos rfl])
   rw[e]
   have x2:c+1=61:=by omega
   refine⟨false,_,rfl,.inr ⟨rfl,by omega,?_,?_,?_,?_⟩⟩
   · simp only[aa.bH];rw[if_neg (by omega),if_pos trivial,x2]
   · simp only[aa.bH];rw[if_neg (by omega),if_neg (by omega),if_neg (by omega)];exact af.ju
   · simp only[aa.bH];rw[if_pos trivial]
   · exact((af.ext.e3 (by omega)).e3 (by omega)).e3 (by omega)
def uE(N:Nat)(h:aa)(r:aU)(c s:Nat)(b:Bool)(y:aa):Prop:=(b=true/\c+s<=60/\qT N h r (c+s) y)\/(b=false/\60<c+s/\Mq N h r y)
def Gr(m:Nat)(N:Nat)(h:aa)(r:aU)(B:Nat)(ot:Option a3):Prop:=∀(v:J) (c:Nat) (x:aa),c<=60->ep B h ot v->qT N h r c x->∃b y,Y m (.fn 100) [v,.ptr (N+4) 0,.ptr (N+5) 0] x=.ret (.bool b) y/\uE N h r c (dw ot) b y
theorem Mr{m N B R b off:Nat}{h:aa}{r:aU}{xs:List a3}{vs:List J}(aG:cj)(bN:B<=N)(ag:b<B)(ad:e5 B h xs vs)(aw:∀i (af:i<vs.length),aA h b (off+i*1)=some vs[i])(hlen:vs.length<=1000000)
  (bp:∀i (ae:i<xs.length),Gr m N h r B (some xs[i])):∀(k i c:Nat) (x:aa),vs.length-i=k->i<=vs.length->c<=60->qT N h r c x->
  ∃e Γ y,fT Tryz.prog Tryz.f100 none (Y m) [1,1,1,0,1,0] (k+1) ⟨[(0,.ptr R 0),(1,.ptr (N+4) 0),(2,.ptr (N+5) 0),(16,.slice b off vs.length aG),(17,.int .i64 (Int.ofNat vs.length)),(18,.int .i64 (Int.ofNat i))],[],.none,x⟩ e ⟨Γ,[],.none,y⟩/\
   ((e=.exit 0/\Γ=[(0,.ptr R 0),(1,.ptr (N+4) 0),(2,.ptr (N+5) 0)]/\uE N h r c (dP (xs.drop i)) true y)\/(e=.ret/\Γ=[(4,.bool false)]/\uE N h r c (dP (xs.drop i)) false y))
 |0,i,c,x,au,af,ah,kQ=>by
  have h2:=e5.len ad
  obtain rfl:i=vs.length:=by omega
  rw[List.drop_of_length_le (by omega)]
  exact⟨_,_,_,.exit (Mp (Y m) R (N+4) (N+5) _ _ _ x (mH (by omega))) (by simp),.inl ⟨rfl,rfl,.inl ⟨rfl,ah,kQ⟩⟩⟩
 |k+1,i,c,x,au,af,ah,kQ=>by
  have h2:=e5.len ad
  have ab:i<vs.length:=by omega
  have ae:i<xs.length:=by omega
  have aq:dP (xs.drop i)=sz xs[i]+dP (xs.drop (i+1)):=by
   rw[List.drop_eq_getElem_cons ae];rfl
  have g3:aA x b (off+i*1)=some vs[i]:=by
   rw[<-aw i ab]
   unfold aA
   rw[kQ.ext.get b (by omega)]
  obtain⟨dT,y,aE,aC⟩:=bp i ae vs[i] c x ah (e5.get ad i ab ae) kQ
  have fL:dw (some xs[i])=sz xs[i]:=by unfold dw;rfl
  rw[fL] at aC
  rcases aC with⟨rfl,bu,cX⟩|⟨rfl,bu,cX⟩
  · have st:=VS (Y m) R (N+4) (N+5) b off vs.length i (off+i*1) (i+1) aG vs[i] x y (kj ab) ⟨ab,rfl⟩ g3 (l8 kQ.wG) aE (yC ab (by omega))
    obtain⟨e,Γ,z,bD,bT⟩:=Mr (R:=R) aG bN ag ad aw hlen bp k (i+1) (c+sz xs[i]) y (by omega) (by omega) bu cX
    refine⟨e,Γ,z,.step st bD,?_⟩
    unfold uE at bT⊢
    rw[aq,<-Nat.add_assoc]
    exact bT
  · have st:=VT (Y m) R (N+4) (N+5) b off vs.length i (off+i*1) aG vs[i] x y (kj ab) ⟨ab,rfl⟩ g3 (l8 kQ.wG) aE
    exact⟨_,_,_,.exit st (by simp),.inr ⟨rfl,rfl,.inr ⟨rfl,by omega,cX⟩⟩⟩
theorem Gs{N B:Nat}{h:aa}{r:aU}(ai:ay.Mod r [(3,.ptr N 0)])(bN:B<=N):∀(K:Nat) (ot:Option a3),dw ot<=K->dw ot<=90000->∀m,dw ot+3<=m->Gr m N h r B ot
 |K,none,_,_,m,hm=>λv c x ah aH kQ=>by
  obtain rfl:v=.bc:=aH
  obtain⟨m,rfl⟩:∃j,m=j+1:=⟨m-1,by omega⟩
  exact⟨true,x,eg (intr:=b7) (n:=m) (args:=[.bc,.ptr (N+4) 0,.ptr (N+5) 0]) Tryz.func100 (by kernel_rfl) rfl (by kernel_rfl) (VL (Y m) (N+4) (N+5) x) (.inl rfl) (by kernel_rfl),.inl ⟨rfl,ah,kQ⟩⟩
 |0,some t,dO,_,m,hm=>by
  have fL:dw (some t)=sz t:=by unfold dw;rfl
  have:=ss t
  omega
 |K+1,some (.mk k bZ ns xs rt),dO,fH,m,hm=>λv c x ah aH kQ=>by
  have hs:dw (some (.mk k bZ ns xs rt))=1+dP xs+dw rt:=by rw[lD,uB]
  obtain⟨R,b5,bJ,dy,vs,cd,aW,up,rfl,ae,av,aK,bU,cB,eo⟩:=aH
  rw[hs] at dO fH hm⊢
  obtain⟨m,rfl⟩:∃j,m=j+1:=⟨m-1,by omega⟩
  obtain⟨m,rfl⟩:∃j,m=j+1:=⟨m-1,by omega⟩
  have h2:=e5.len cB
  have od:=su xs
  have s0:=VM (Y (m+1)) R (N+4) (N+5) x
  have s1:=VN (Y (m+1)) R (N+4) (N+5) x
  obtain⟨dT,y,aE,aC⟩:=VX m ai kQ ah (.ptr R 0)
  rcases aC with⟨rfl,bu,cX⟩|⟨rfl,bu,cX⟩
  · have s2:=VO (Y (m+1)) R (N+4) (N+5) (N+3) x y (l8 kQ.bR) aE
    have y5:y.get R=some (.cells [.int .i64 (Int.ofNat k),.str bZ,b5,bJ,dy] 51 cd aW up):=by
     rw[cX.ext.get R (by omega)];exact av
    have g3:aA y R (0+3)=some bJ:=aB y5 rfl
    have bp:∀i (ae:i<xs.length),Gr (m+1) N h r B (some xs[i]):=λi ae=>by
     have tp:=oF (List.getElem_mem ae)
     have fL:dw (some xs[i])=sz xs[i]:=by unfold dw;rfl
     exact Gs ai bN K (some xs[i]) (by omega) (by omega) (m+1) (by omega)
    have loop:∃e Γ z,aN Tryz.prog Tryz.f100 none (Y (m+1)) [1,1,1,0] ⟨[(0,.ptr R 0),(1,.ptr (N+4) 0),(2,.ptr (N+5) 0)],[],.none,y⟩ e ⟨Γ,[],.none,z⟩/\
      ((e=.nrm/\Γ=[(0,.ptr R 0),(1,.ptr (N+4) 0),(2,.ptr (N+5) 0)]/\uE N h r (c+1) (dP xs) true z)\/(e=.ret/\Γ=[(4,.bool false)]/\uE N h r (c+1) (dP xs) false z)):=by
     rcases bU with⟨rfl,rfl⟩|⟨b,off,aG,rfl,ag,aw,_⟩
     · have mu:xs=[]:=List.eq_nil_of_length_eq_zero (by simpa using h2.symm)
       subst mu
       refine⟨_,_,_,aN.seq (p:=[1,1,1,0]) (by kernel_rfl) (VR (Y (m+1)) R (N+4) (N+5) y g3) (aN.block (p:=[1,1,1,0,1]) (id:=0) (by kernel_rfl) (fT.run (p:=[1,1,1,0,1,0]) (n:=1) (by kernel_rfl) (.exit (Mp (Y (m+1)) R (N+4) (N+5) 0 0 _ y (by kernel_rfl)) (by simp)) (by omega))),.inl ⟨rfl,rfl,.inl ⟨rfl,bu,cX⟩⟩⟩
     · obtain⟨e,Γ,z,bD,bT⟩:=Mr (R:=R) aG bN ag cB aw (by omega) bp vs.length 0 (c+1) y (by omega) (by omega) bu cX
       rw[List.drop_zero] at bT
       have fu:=fT.run (p:=[1,1,1,0,1,0]) (by kernel_rfl) bD (by omega)
       have j2:=VQ (Y (m+1)) R (N+4) (N+5) b off vs.length aG y g3
       rcases bT with⟨rfl,lF,oK⟩|⟨rfl,lF,oK⟩
       · exact⟨_,_,_,aN.seq (p:=[1,1,1,0]) (by kernel_rfl) j2 (aN.block (p:=[1,1,1,0,1]) (id:=0) (by kernel_rfl) fu),.inl ⟨rfl,lF,oK⟩⟩
       · exact⟨_,_,_,aN.seq (p:=[1,1,1,0]) (by kernel_rfl) j2 (aN.tS (p:=[1,1,1,0,1]) (id:=0) (by kernel_rfl) fu (by simp)),.inr ⟨rfl,lF,oK⟩⟩
    obtain⟨e,Γ,z,bD,bT⟩:=loop
    rcases bT with⟨rfl,rfl,bT⟩|⟨rfl,rfl,bT⟩
    · rcases bT with⟨_,fu,j2⟩|⟨fu,_⟩
      · have lF:=j2.room 7
        have VY:(z.room 7).get R=some (.cells [.int .i64 (Int.ofNat k),.str bZ,b5,bJ,dy] 51 cd aW up):=by
         rw[lF.ext.get R (by omega)];exact av
        obtain⟨dT,w,cq,cp⟩:=Gs ai bN K rt (by omega) (by omega) (m+1) (by omega) dy (c+1+dP xs) _ fu eo lF
        have fA:J.sound dy=true:=by
         cases rt with
         |none=>obtain rfl:dy=.bc:=eo;rfl
         |some u=>
          cases u with
          |mk k bZ ns ys rt=>obtain⟨r,b5,bJ,_,vs,cd,aW,up,rfl,_⟩:=eo;rfl
        have cK:=VU (Y (m+1)) R (N+4) (N+5) dy (.bool dT) z w (l8 lF.wG) (aB VY rfl) cq fA rfl
        refine⟨dT,w,eg (intr:=b7) (n:=m+1) (args:=[.ptr R 0,.ptr (N+4) 0,.ptr (N+5) 0]) Tryz.func100 (by kernel_rfl) rfl (by kernel_rfl) (aN.seq (p:=[]) (by kernel_rfl) s0 (aN.seq (p:=[1]) (by kernel_rfl) s1 (aN.seq (p:=[1,1]) (by kernel_rfl) s2 (aN.seq (p:=[1,1,1]) (by kernel_rfl) bD cK)))) (.inl rfl) rfl,?_⟩
        have gg:c+1+dP xs+dw rt=c+(1+dP xs+dw rt):=by omega
        unfold uE at cp⊢
        rw[gg] at cp
        exact cp
      · simp at fu
    · rcases bT with⟨fu,_⟩|⟨_,fu,j2⟩
      · simp at fu
      · exact⟨false,z,eg (intr:=b7) (n:=m+1) (args:=[.ptr R 0,.ptr (N+4) 0,.ptr (N+5) 0]) Tryz.func100 (by kernel_rfl) rfl (by kernel_rfl) (aN.seq (p:=[]) (by kernel_rfl) s0 (aN.seq (p:=[1]) (by kernel_rfl) s1 (aN.seq (p:=[1,1]) (by kernel_rfl) s2 (aN.iV (p:=[1,1,1]) (by kernel_rfl) bD (by simp))))) (.inl rfl) (by kernel_rfl),.inr ⟨rfl,by omega,j2⟩⟩
  · have s2:=VP (Y (m+1)) R (N+4) (N+5) (N+3) x y (l8 kQ.bR) aE
    exact⟨false,y,eg (intr:=b7) (n:=m+1) (args:=[.ptr R 0,.ptr (N+4) 0,.ptr (N+5) 0]) Tryz.func100 (by kernel_rfl) rfl (by kernel_rfl) (aN.seq (p:=[]) (by kernel_rfl) s0 (aN.seq (p:=[1]) (by kernel_rfl) s1 (aN.iV (p:=[1,1]) (by kernel_rfl) s2 (by simp)))) (.inl rfl) (by kernel_rfl),.inr ⟨rfl,by omega,cX⟩⟩
end Go.Proofs.cf
namespace Go.Proofs.cf
open Go ay Go.Proofs cS
set_option maxRecDepth 100000
set_option maxHeartbeats 1000000
theorem VZ{call:aO->List J->aa->ax}(j N:Nat)(r:aU)(q:bG)(h:aa)(hm:ay.Mod r [(2,.int .i64 (Int.ofNat j))])(aq:h.get (N+2)=some (.defrd (some []))):
  kd Tryz.prog call Tryz.f70 (.ok .ret r [.collected (N+2)] q h)=.ret (.int .i64 (Int.ofNat j)) (h.set (N+2) (some (.defrd none))):=by
 have ai:=tR hm (rfl:k5 Tryz.prog (dh Tryz.f70) Tryz.f70 [(2,.int .i64 (Int.ofNat j))] (h.set (N+2) (some (.defrd none)))=some (.int .i64 (Int.ofNat j)))
 simp only[kd,jA,aq,List.nil_append,ai]
theorem Gt{ot:Option a3}{B:Nat}{h:aa}{v:J}(m:Nat)(fH:dw ot<=90000)(bN:B<=h.n)(aH:ep B h ot v)(hm:dw ot+3<=m):
  ∃an,Y (m+2) (.fn 70) [v] h=.ret (.int .i64 (Int.ofNat (min (dw ot) 61))) an/\Ext h.n h an:=by
 have V0:=aH.wE
 let ab:=(h.push (.cells [.int .i64 (Int.ofNat 0)] 3 .own 0 0)).set h.n (some (.cells [.int .i64 (Int.ofNat 0)] 3 .own 0 0))
 let ae:=ab.push (.cells [v] 47 .own 0 0)
 have aQ:ab.n=h.n+1:=rfl
 have bw:ae.n=h.n+2:=rfl
 have c1:ay.storeCells (h.push (.cells [.int .i64 (Int.ofNat 0)] 3 .own 0 0)) h.n 0 [.int .i64 (Int.ofNat 0)]=some ab:=
  BQ (x:=.int .i64 (Int.ofNat 0)) (t:=3) rfl (by rw[aa.eD,if_pos rfl])
 have V1:Y (m+1) (.fn 86) [v] ab=.ret (.fn 99 [] [.ptr (h.n+1) 0]) ae:=by
  rcases V0 with rfl|⟨R,rfl⟩
  · exact eg (intr:=b7) (n:=m) (args:=[.bc]) Tryz.func86 (by kernel_rfl) rfl (by kernel_rfl) (VJ (Y m) ab) (.inl rfl) rfl
  · exact eg (intr:=b7) (n:=m) (args:=[.ptr R 0]) Tryz.func86 (by kernel_rfl) rfl (by kernel_rfl) (VI (Y m) R ab) (.inl rfl) rfl
 have w:WF Tryz.prog Tryz.f70 none (Y (m+1)) [] (λe r d q an=>∃g5,kd Tryz.prog (Y (m+1)) Tryz.f70 (.ok e r d q an)=.ret (.int .i64 (Int.ofNat (min (dw ot) 61))) g5/\Ext h.n h g5) (nd 0 [v] .leaf) [] .none h:=by
  refine WF.seq (p:=[]) (by kernel_rfl) (W.of (VC (Y (m+1)) v h) (tQ [v]) λba cE=>.inl ⟨rfl,?_⟩)
  refine WF.seq (p:=[1]) (by kernel_rfl) (W.of (VD (Y (m+1)) v h ab c1) cE λbt hB=>.inl ⟨rfl,?_⟩)
  refine WF.seq (p:=[1,1]) (by kernel_rfl) ?_
  refine WF.seq (p:=[1,1,0]) (by kernel_rfl) (W.of (VE (Y (m+1)) v _ h.n ab ae V1) hB λft wH=>.inl ⟨rfl,?_⟩)
  refine WF.block (p:=[1,1,0,1]) (id:=0) (by kernel_rfl) ?_
  refine WF.range (p:=[1,1,0,1,0]) (t:=5) (ps:=[6]) (by kernel_rfl) (by kernel_rfl) (hf:=rfl) (hm:=wH) ?_
  let iY:=(ae.push (.defrd (some []))).push (wF .ready none ft h.n)
  let bj:=((iY.push (.cells [.bR (h.n+3)] 139 .own 0 0)).push (.cells [.fi] 139 .own 0 0)).set (h.n+5) (some (.cells [.fn 100 [] [.ptr (h.n+4) 0,.ptr (h.n+5) 0]] 139 .own 0 0))
  have Ms:ay.Mod ft [(3,.ptr h.n 0)]:=wH.sub ⟨rfl,trivial⟩
  have adm:iY.n=h.n+4:=rfl
  have gg:Ext h.n h ab:=(Ext.push (Nat.le_refl _) _).e3 (Nat.le_refl _)
  have wv:Ext h.n h ae:=gg.jJ (by omega)
  have qU:Ext h.n h iY:=(wv.jJ (by omega)).jJ (by show h.n<=h.n+3;omega)
  have mf:Ext h.n h bj:=((qU.jJ (by omega)).jJ (by show h.n<=h.n+5;omega)).e3 (by omega)
  have i0:qT h.n h ft 0 bj:=by
   refine⟨?_,?_,?_,?_,?_,?_⟩
   · simp only[bj,iY,ae,ab,aa.eD,aa.bH,aa.eJ,aa.fr];grind
   · simp only[bj,iY,ae,ab,aa.eD,aa.bH,aa.eJ,aa.fr];grind
   · simp only[bj,iY,ae,ab,aa.eD,aa.bH,aa.eJ,aa.fr];grind
   · simp only[bj,iY,ae,ab,aa.eD,aa.bH,aa.eJ,aa.fr];grind
   · simp only[bj,iY,ae,ab,aa.eD,aa.bH,aa.eJ,aa.fr];grind
   · exact mf
  obtain⟨dT,y,aE,aC⟩:=Gs Ms bN (dw ot) ot (Nat.le_refl _) fH m hm v 0 bj (by decide) aH i0
  have cr:ay.storeCells ((iY.push (.cells [.bR (h.n+3)] 139 .own 0 0)).push (.cells [.fi] 139 .own 0 0)) (h.n+5) 0 [.fn 100 [] [.ptr (h.n+4) 0,.ptr (h.n+5) 0]]=some bj:=
   BQ (x:=.fi) rfl (by rw[aa.eD];exact if_pos rfl)
  have pU:bj.get (h.n+1)=some (.cells [v] 47 .own 0 0):=by
   simp only[bj,iY,ae,ab,aa.eD,aa.bH,aa.eJ,aa.fr];grind
  have Gu:=VK (Y m) (h.n+3) (h.n+1) v (.bool dT) iY bj y cr (l8 i0.wG) (l8 pU) aE
  have Mt:Y (m+1) (.fn 99) [.bR (h.n+3),.ptr (h.n+1) 0] iY=.ret (.aD []) y:=
   eg (intr:=b7) (n:=m) (args:=[.bR (h.n+3),.ptr (h.n+1) 0]) Tryz.func99 (by kernel_rfl) rfl (by kernel_rfl) Gu (.inr rfl) (by kernel_rfl)
  have fin:∀(j:Nat) (z:aa),j=min (dw ot) 61->z.get h.n=some (.cells [.int .i64 (Int.ofNat j)] 3 .own 0 0)->z.get (h.n+2)=some (.defrd (some []))->Ext h.n h z->
    WF Tryz.prog Tryz.f70 none (Y (m+1)) [1,1,1] (λe r d q an=>∃g5,kd Tryz.prog (Y (m+1)) Tryz.f70 (.ok e r d q an)=.ret (.int .i64 (Int.ofNat (min (dw ot) 61))) g5/\Ext h.n h g5) ft [.collected (h.n+2)] .none z:=λj z aI a0 qo V2=>by
   refine W.of (VH (Y (m+1)) h.n j (h.n+2) _ (l8 a0)) Ms λhC Gv=>?_
   subst aI
   exact⟨_,VZ (min (dw ot) 61) h.n hC _ _ Gv qo,V2.e3 (by omega)⟩
  rcases aC with⟨rfl,bu,cX⟩|⟨rfl,bu,cX⟩
  · have jq:jh (h.n+3) ft [.collected (h.n+2)] .none (.ret (.aD []) y)=.ok .nrm ft [.collected (h.n+2)] .none (y.set (h.n+3) (some (wF .exhausted none ft h.n))):=by
      simp only[jh,cX.oJ]
    refine⟨.nrm,_,(congrArg (jh (h.n+3) ft [.collected (h.n+2)] .none) Mt).trans jq,.inr ⟨by simp,.inl ⟨rfl,?_⟩⟩⟩
    exact fin (0+dw ot) _ (by omega) (by rw[aa.bH,if_neg (by omega)];exact cX.y4) (by rw[aa.bH,if_neg (by omega)];exact cX.ju) (cX.ext.e3 (by omega))
  · have jq:jh (h.n+3) ft [.collected (h.n+2)] .none (.ret (.aD []) y)=.ok (.exit 0) ft [.collected (h.n+2)] .none (y.set (h.n+3) (some (wF .exhausted (some (.exit 0)) ft h.n))):=by
      simp only[jh,cX.oJ]
    refine⟨.exit 0,_,(congrArg (jh (h.n+3) ft [.collected (h.n+2)] .none) Mt).trans jq,.inl ⟨rfl,.inl ⟨rfl,?_⟩⟩⟩
    exact fin 61 _ (by omega) (by rw[aa.bH,if_neg (by omega)];exact cX.y4) (by rw[aa.bH,if_neg (by omega)];exact cX.ju) (cX.ext.e3 (by omega))
 obtain⟨e,r,d,q,an,cq,g5,cp,jm⟩:=w
 exact⟨g5,Fw (intr:=b7) (n:=m+1) (args:=[v]) Tryz.func70 (by kernel_rfl) rfl (by kernel_rfl) ⟨e,r,d,q,an,cq,cp⟩,jm⟩
end Go.Proofs.cf
namespace Go.Proofs.cf
open Go ay Go.Proofs cS
set_option maxRecDepth 100000
set_option maxHeartbeats 1000000
theorem V3(call:aO->List J->aa->ax)(v w:J)(h:aa):
  aN Tryz.prog Tryz.f87 none call [0] (ar.mk [(0,v),(1,w)] [] .none h) (.nrm)
   (ar.mk [(0,v),(1,w)] [] .none h):=
 bI [0,1] (hs:=[]) (by kernel_rfl)<| .nil
theorem V4(call:aO->List J->aa->ax)(b off N bf c_ M:Nat)(aG cV:cj)(h:aa)
  (H1:(!de (.ofNat N) (.ofNat M))=true):
  aN Tryz.prog Tryz.f87 none call [1,0] (ar.mk [(0,.slice b off N aG),(1,.slice bf c_ M cV)] [] .none h) (.ret)
   (ar.mk [(0,.slice b off N aG),(1,.slice bf c_ M cV),(4,.bool false)] [] .none h):=
 bI [0,1,4] (hs:=[.b true]) (by kernel_rfl)<| .cons H1<| .nil
theorem V5(call:aO->List J->aa->ax)(b off N bf c_ M:Nat)(aG cV:cj)(h:aa)
  (H1:(!de (.ofNat N) (.ofNat M))=false):
  aN Tryz.prog Tryz.f87 none call [1,0] (ar.mk [(0,.slice b off N aG),(1,.slice bf c_ M cV)] [] .none h) (.nrm)
   (ar.mk [(0,.slice b off N aG),(1,.slice bf c_ M cV)] [] .none h):=
 bI [0,1,4] (hs:=[.b false]) (by kernel_rfl)<| .cons H1<| .nil
theorem V6(call:aO->List J->aa->ax)(bf c_ M:Nat)(cV:cj)(h:aa)
  (H1:(!de (.ofNat 0) (.ofNat M))=true):
  aN Tryz.prog Tryz.f87 none call [1,0] (ar.mk [(0,.az),(1,.slice bf c_ M cV)] [] .none h) (.ret)
   (ar.mk [(0,.az),(1,.slice bf c_ M cV),(4,.bool false)] [] .none h):=
 bI [0,1,4] (hs:=[.b true]) (by kernel_rfl)<| .cons H1<| .nil
theorem V7(call:aO->List J->aa->ax)(bf c_ M:Nat)(cV:cj)(h:aa)
  (H1:(!de (.ofNat 0) (.ofNat M))=false):
  aN Tryz.prog Tryz.f87 none call [1,0] (ar.mk [(0,.az),(1,.slice bf c_ M cV)] [] .none h) (.nrm)
   (ar.mk [(0,.az),(1,.slice bf c_ M cV)] [] .none h):=
 bI [0,1,4] (hs:=[.b false]) (by kernel_rfl)<| .cons H1<| .nil
theorem V8(call:aO->List J->aa->ax)(b off N:Nat)(aG:cj)(h:aa)
  (H1:(!de (.ofNat N) (.ofNat 0))=true):
  aN Tryz.prog Tryz.f87 none call [1,0] (ar.mk [(0,.slice b off N aG),(1,.az)] [] .none h) (.ret)
   (ar.mk [(0,.slice b off N aG),(1,.az),(4,.bool false)] [] .none h):=
 bI [0,1,4] (hs:=[.b true]) (by kernel_rfl)<| .cons H1<| .nil
theorem V9(call:aO->List J->aa->ax)(b off N:Nat)(aG:cj)(h:aa)
  (H1:(!de (.ofNat N) (.ofNat 0))=false):
  aN Tryz.prog Tryz.f87 none call [1,0] (ar.mk [(0,.slice b off N aG),(1,.az)] [] .none h) (.nrm)
   (ar.mk [(0,.slice b off N aG),(1,.az)] [] .none h):=
 bI [0,1,4] (hs:=[.b false]) (by kernel_rfl)<| .cons H1<| .nil
theorem V_(call:aO->List J->aa->ax)(h:aa):
  aN Tryz.prog Tryz.f87 none call [1,0] (ar.mk [(0,.az),(1,.az)] [] .none h) (.nrm)
   (ar.mk [(0,.az),(1,.az)] [] .none h):=
 bI [0,1,4] (hs:=[.b false]) (by kernel_rfl)<| .cons (by kernel_rfl:(!de (Int.ofNat 0) (Int.ofNat 0))=false)<| .nil
theorem Gw(call:aO->List J->aa->ax)(b off N:Nat)(aG:cj)(w:J)(h:aa):
  aN Tryz.prog Tryz.f87 none call [1,1,0,0] (ar.mk [(0,.slice b off N aG),(1,w)] [] .none h) (.nrm)
   (ar.mk [(0,.slice b off N aG),(1,w),(12,.int .i64 (.ofNat N)),(13,.int .i64 (.ofNat 0))] [] .none h):=
 bI [0,1,12,13] (hs:=[]) (by kernel_rfl)<| .nil
theorem Mu(call:aO->List J->aa->ax)(w:J)(h:aa):
  aN Tryz.prog Tryz.f87 none call [1,1,0,0] (ar.mk [(0,.az),(1,w)] [] .none h) (.nrm)
   (ar.mk [(0,.az),(1,w),(12,.int .i64 (.ofNat 0)),(13,.int .i64 (.ofNat 0))] [] .none h):=
 bI [0,1,12,13] (hs:=[]) (by kernel_rfl)<| .nil
theorem Ch(call:aO->List J->aa->ax)(N i:Nat)(v w:J)(h:aa)
  (H1:dZ (.ofNat i) (.ofNat N)=false):
  aN Tryz.prog Tryz.f87 none call [1,1,0,1,0,0] (ar.mk [(0,v),(1,w),(12,.int .i64 (.ofNat N)),(13,.int .i64 (.ofNat i))] [] .none h) (.exit 0)
   (ar.mk [] [] .none h):=
 bI [] (hs:=[.b false]) (by kernel_rfl)<| .cons H1<| .nil
theorem Wa(call:aO->List J->aa->ax)(b off N bf c_ M i q aT j:Nat)(s t:List UInt8)(aG cV:cj)(h:aa)
  (H1:dZ (.ofNat i) (.ofNat N)=true)
  (a7:Nat.le (Nat.succ i) N/\J.ptr b q=J.ptr b (off+i*1))
  (b1:aA (aa.room h 9) b q=some (.str s))
  (b8:Nat.le (Nat.succ i) M/\J.ptr bf aT=J.ptr bf (c_+i*1))
  (dv:aA (aa.room h 9) bf aT=some (.str t))
  (fB:(!cw s t)=true):
  aN Tryz.prog Tryz.f87 none call [1,1,0,1,0,0] (ar.mk [(0,.slice b off N aG),(1,.slice bf c_ M cV),(12,.int .i64 (.ofNat N)),(13,.int .i64 (.ofNat i))] [] .none h) (.ret)
   (ar.mk [(0,.slice b off N aG),(1,.slice bf c_ M cV),(4,.bool false),(12,.int .i64 (.ofNat N)),(13,.int .i64 (.ofNat i))] [] .none (aa.room h 9)):=
 bI [0,1,4,12,13] (hs:=[.b true,.v (.ptr b q),.v (.str s),.v (.ptr bf aT),.v (.str t),.b true]) (by kernel_rfl)<| .cons H1<| .cons a7<| .cons b1<| .cons b8<| .cons dv<| .cons (by kernel_rfl:J.sound (J.slice b off N aG)=true)<| .cons (by kernel_rfl:J.slice b off N aG=J.slice b off N aG)<| .cons (by kernel_rfl:J.sound (J.int IntKind.i64 (Int.ofNat i))=true)<| .cons (by kernel_rfl:J.int IntKind.i64 (Int.ofNat i)=J.int IntKind.i64 (Int.ofNat i))<| .cons (by kernel_rfl:J.sound (J.ptr b q)=true)<| .cons a7<| .cons (by kernel_rfl:J.sound (J.str s)=true)<| .cons b1<| .cons (by kernel_rfl:J.sound (J.slice bf c_ M cV)=true)<| .cons (by kernel_rfl:J.slice bf c_ M cV=J.slice bf c_ M cV)<| .cons (by kernel_rfl:J.sound (J.int IntKind.i64 (Int.ofNat i))=true)<| .cons (by kernel_rfl:J.int IntKind.i64 (Int.ofNat i)=J.int IntKind.i64 (Int.ofNat i))<| .cons (by kernel_rfl:J.sound (J.ptr bf aT)=true)<| .cons b8<| .cons (by kernel_rfl:J.sound (J.str t)=true)<| .cons dv<| .cons (by kernel_rfl:J.sound (J.bool !cw s t)=true)<| .cons (by kernel_rfl:(J.bool !cw s t)=J.bool !cw s t)<| .cons fB<| .nil
theorem Wb(call:aO->List J->aa->ax)(b off N bf c_ M i q aT j:Nat)(s t:List UInt8)(aG cV:cj)(h:aa)
  (H1:dZ (.ofNat i) (.ofNat N)=true)
  (a7:Nat.le (Nat.succ i) N/\J.ptr b q=J.ptr b (off+i*1))
  (b1:aA (aa.room h 9) b q=some (.str s))
  (b8:Nat.le (Nat.succ i) M/\J.ptr bf aT=J.ptr bf (c_+i*1))
  (dv:aA (aa.room h 9) bf aT=some (.str t))
  (fB:(!cw s t)=false)
  (lG:arith .add .i64 (.ofNat i) (.ofNat 1)=some (.int .i64 (.ofNat j))):
  aN Tryz.prog Tryz.f87 none call [1,1,0,1,0,0] (ar.mk [(0,.slice b off N aG),(1,.slice bf c_ M cV),(12,.int .i64 (.ofNat N)),(13,.int .i64 (.ofNat i))] [] .none h) (.nrm)
   (ar.mk [(0,.slice b off N aG),(1,.slice bf c_ M cV),(12,.int .i64 (.ofNat N)),(13,.int .i64 (.ofNat j))] [] .none (aa.room h 9)):=
 bI [0,1,4,12,13] (hs:=[.b true,.v (.ptr b q),.v (.str s),.v (.ptr bf aT),.v (.str t),.b false,.v (.int .i64 (.ofNat j))]) (by kernel_rfl)<| .cons H1<| .cons a7<| .cons b1<| .cons b8<| .cons dv<| .cons (by kernel_rfl:J.sound (J.slice b off N aG)=true)<| .cons (by kernel_rfl:J.slice b off N aG=J.slice b off N aG)<| .cons (by kernel_rfl:J.sound (J.int IntKind.i64 (Int.ofNat i))=true)<| .cons (by kernel_rfl:J.int IntKind.i64 (Int.ofNat i)=J.int IntKind.i64 (Int.ofNat i))<| .cons (by kernel_rfl:J.sound (J.ptr b q)=true)<| .cons a7<| .cons (by kernel_rfl:J.sound (J.str s)=true)<| .cons b1<| .cons (by kernel_rfl:J.sound (J.slice bf c_ M cV)=true)<| .cons (by kernel_rfl:J.slice bf c_ M cV=J.slice bf c_ M cV)<| .cons (by kernel_rfl:J.sound (J.int IntKind.i64 (Int.ofNat i))=true)<| .cons (by kernel_rfl:J.int IntKind.i64 (Int.ofNat i)=J.int IntKind.i64 (Int.ofNat i))<| .cons (by kernel_rfl:J.sound (J.ptr bf aT)=true)<| .cons b8<| .cons (by kernel_rfl:J.sound (J.str t)=true)<| .cons dv<| .cons (by kernel_rfl:J.sound (J.bool !cw s t)=true)<| .cons (by kernel_rfl:(J.bool !cw s t)=J.bool !cw s t)<| .cons fB<| .cons lG<| .nil
theorem Wc(call:aO->List J->aa->ax)(h:aa):
  aN Tryz.prog Tryz.f87 none call [1,1,1] (ar.mk [] [] .none h) (.ret)
   (ar.mk [(4,.bool true)] [] .none h):=
 bI [4] (hs:=[]) (by kernel_rfl)<| .nil
theorem wI{a b:Nat}(h:a≠b):(!de (Int.ofNat a) (Int.ofNat b))=true:=by
 rw[v5 h];rfl
theorem Mv{a b:Nat}(h:a=b):(!de (Int.ofNat a) (Int.ofNat b))=false:=by
 rw[BU h];rfl
theorem Ci:∀(us bs:List aL),us.length≠bs.length->hU us bs=false
 |[],[],h=>absurd rfl h
 |[],_::_,_=>by rw[hU];all_goals simp
 |_::_,[],_=>by rw[hU];all_goals simp
 |x::us,y::bs,h=>by
  rw[hU,Ci us bs (by simpa using h),Bool.and_false]
theorem eT.strs{B:Nat}{h:aa}{v:J}{us:List aL}(hs:eT B h v (us.map .str)):(v=.az/\us=[])\/∃b off aG,v=.slice b off us.length aG/\b<B/\∀i (af:i<us.length),aA h b (off+i*1)=some (.str us[i]):=by
 rcases hs with⟨ab,ae⟩|⟨b,off,aG,ab,ae,av,_⟩
 · exact .inl ⟨ab,by simpa using ae⟩
 · refine .inr ⟨b,off,aG,by simpa using ab,ae,λi af=>?_⟩
   have:=av i (by simpa using af)
   simpa using this
theorem Cj{B b i:Nat}{h x:aa}(e:Ext B h x)(ag:b<B):aA x b i=aA h b i:=by
 unfold aA;rw[e.get b ag]
theorem Mw{B b off bf c_:Nat}{h:aa}{us bs:List aL}(call:aO->List J->aa->ax)(aG cV:cj)(ag:b<B)(dS:bf<B)(a5:∀i (af:i<us.length),aA h b (off+i*1)=some (.str us[i]))(uA:∀i (af:i<bs.length),aA h bf (c_+i*1)=some (.str bs[i]))(aw:us.length=bs.length)(hlen:us.length<=90000):∀(k i:Nat) (x:aa),us.length-i=k->i<=us.length->Ext B h x->
  ∃e Γ y,fT Tryz.prog Tryz.f87 none call [1,1,0,1,0] (k+1) ⟨[(0,.slice b off us.length aG),(1,.slice bf c_ bs.length cV),(12,.int .i64 (Int.ofNat us.length)),(13,.int .i64 (Int.ofNat i))],[],.none,x⟩ e ⟨Γ,[],.none,y⟩/\
   ((e=.exit 0/\Γ=[]/\hU (us.drop i) (bs.drop i)=true)\/(e=.ret/\Γ=[(4,.bool false)]/\hU (us.drop i) (bs.drop i)=false))/\Ext B h y
 |0,i,x,au,af,ad=>by
  obtain rfl:i=us.length:=by omega
  rw[List.drop_of_length_le (Nat.le_refl _),aw,List.drop_of_length_le (Nat.le_refl _)]
  exact⟨_,_,_,.exit (Ch call _ _ _ _ x (mH (by omega))) (by simp),.inl ⟨rfl,rfl,by rw[hU]⟩,ad⟩
 |k+1,i,x,au,af,ad=>by
  have ab:i<us.length:=by omega
  have ae:i<bs.length:=by omega
  have aE:aA (x.room 9) b (off+i*1)=some (.str us[i]):=(Cj ad.hI ag).trans (a5 i ab)
  have aC:aA (x.room 9) bf (c_+i*1)=some (.str bs[i]):=(Cj ad.hI dS).trans (uA i ae)
  rw[List.drop_eq_getElem_cons ab,List.drop_eq_getElem_cons ae,hU]
  cases ah:cw us[i] bs[i] with
  |true=>
   obtain⟨e,Γ,y,bD,bT,fu⟩:=Mw call aG cV ag dS a5 uA aw hlen k (i+1) (x.room 9) (by omega) (by omega) ad.hI
   refine⟨e,Γ,y,.step (Wb call b off us.length bf c_ bs.length i (off+i*1) (c_+i*1) (i+1) us[i] bs[i] aG cV x (kj ab) ⟨ab,rfl⟩ aE ⟨ae,rfl⟩ aC (by rw[ah];rfl) (yC ab (by omega))) bD,?_,fu⟩
   rw[Bool.true_and];exact bT
  |false=>
   exact⟨_,[(4,.bool false)],_,.exit (c9.post (Wa call b off us.length bf c_ bs.length i (off+i*1) (c_+i*1) 0 us[i] bs[i] aG cV x (kj ab) ⟨ab,rfl⟩ aE ⟨ae,rfl⟩ aC (by rw[ah];rfl)) ⟨rfl,trivial⟩) (by simp),.inr ⟨rfl,rfl,by rw[Bool.false_and]⟩,ad.hI⟩
theorem Wd(m:Nat){B:Nat}{h:aa}{v w:J}{us bs:List aL}(a5:eT B h v (us.map .str))(ag:eT B h w (bs.map .str))(hlen:us.length<=90000):∃an,Y (m+1) (.fn 87) [v,w] h=.ret (.bool (hU us bs)) an/\Ext B h an:=by
 have run:∃Γ y,aN Tryz.prog Tryz.f87 none (Y m) [1] ⟨[(0,v),(1,w)],[],.none,h⟩ .ret ⟨Γ,[],.none,y⟩/\Γ=[(4,.bool (hU us bs))]/\Ext B h y:=by
  have go:∀z,eT B h v (us.map .str)->us.length=bs.length->aN Tryz.prog Tryz.f87 none (Y m) [1,0] ⟨[(0,v),(1,w)],[],.none,h⟩ .nrm ⟨[(0,v),(1,w)],[],.none,h⟩->(∃e Γ y,aN Tryz.prog Tryz.f87 none (Y m) [1,1,0] ⟨[(0,v),(1,w)],[],.none,h⟩ e ⟨Γ,[],.none,y⟩/\((e=.nrm/\Γ=[]/\hU us bs=true)\/(e=.ret/\Γ=[(4,.bool false)]/\hU us bs=false))/\Ext B h y)->z=0->∃Γ y,aN Tryz.prog Tryz.f87 none (Y m) [1] ⟨[(0,v),(1,w)],[],.none,h⟩ .ret ⟨Γ,[],.none,y⟩/\Γ=[(4,.bool (hU us bs))]/\Ext B h y:=by
   rintro z _ _ ba ⟨e,Γ,y,bt,ft,hC⟩ _
   rcases ft with⟨rfl,rfl,iH⟩|⟨rfl,rfl,iH⟩
   · rw[iH]
     exact⟨_,y,aN.seq (p:=[1]) (by kernel_rfl) ba (aN.seq (p:=[1,1]) (by kernel_rfl) bt (Wc (Y m) y)),rfl,hC⟩
   · rw[iH]
     exact⟨_,y,aN.seq (p:=[1]) (by kernel_rfl) ba (aN.iV (p:=[1,1]) (by kernel_rfl) bt (by simp)),rfl,hC⟩
  rcases a5.strs with⟨rfl,rfl⟩|⟨b,off,aG,rfl,gh,pU⟩
  · rcases ag.strs with⟨rfl,rfl⟩|⟨bf,c_,cV,rfl,dS,kH⟩
    · refine go 0 a5 rfl (V_ (Y m) h) ⟨_,_,_,aN.seq (p:=[1,1,0]) (by kernel_rfl) (Mu (Y m) _ h) (aN.block (p:=[1,1,0,1]) (id:=0) (by kernel_rfl) (fT.run (p:=[1,1,0,1,0]) (n:=1) (by kernel_rfl) (.exit (Ch (Y m) 0 0 _ _ h (by kernel_rfl)) (by simp)) (by omega))),.inl ⟨rfl,rfl,by rw[hU]⟩,Ext.refl _ _⟩ rfl
    · by_cases a0:bs.length=0
      · obtain rfl:bs=[]:=List.eq_nil_of_length_eq_zero a0
        refine go 0 a5 rfl (c9.post (V7 (Y m) bf c_ 0 cV h (by kernel_rfl)) ⟨rfl,rfl,trivial⟩) ⟨_,_,_,aN.seq (p:=[1,1,0]) (by kernel_rfl) (Mu (Y m) _ h) (aN.block (p:=[1,1,0,1]) (id:=0) (by kernel_rfl) (fT.run (p:=[1,1,0,1,0]) (n:=1) (by kernel_rfl) (.exit (Ch (Y m) 0 0 _ _ h (by kernel_rfl)) (by simp)) (by omega))),.inl ⟨rfl,rfl,by rw[hU]⟩,Ext.refl _ _⟩ rfl
      · refine⟨[(4,.bool false)],_,aN.iV (p:=[1]) (by kernel_rfl) (c9.post (V6 (Y m) bf c_ bs.length cV h (wI (λe=>a0 e.symm))) ⟨rfl,trivial⟩) (by simp),?_,Ext.refl _ _⟩
        rw[Ci [] bs (λe=>a0 e.symm)]
  · rcases ag.strs with⟨rfl,rfl⟩|⟨bf,c_,cV,rfl,dS,kH⟩
    · by_cases a0:us.length=0
      · obtain rfl:us=[]:=List.eq_nil_of_length_eq_zero a0
        refine go 0 a5 rfl (c9.post (V9 (Y m) b off 0 aG h (by kernel_rfl)) ⟨rfl,rfl,trivial⟩) ⟨_,_,_,aN.seq (p:=[1,1,0]) (by kernel_rfl) (Gw (Y m) b off 0 aG _ h) (aN.block (p:=[1,1,0,1]) (id:=0) (by kernel_rfl) (fT.run (p:=[1,1,0,1,0]) (n:=1) (by kernel_rfl) (.exit (Ch (Y m) 0 0 _ _ h (by kernel_rfl)) (by simp)) (by omega))),.inl ⟨rfl,rfl,by rw[hU]⟩,Ext.refl _ _⟩ rfl
      · refine⟨[(4,.bool false)],_,aN.iV (p:=[1]) (by kernel_rfl) (c9.post (V8 (Y m) b off us.length aG h (wI a0)) ⟨rfl,trivial⟩) (by simp),?_,Ext.refl _ _⟩
        rw[Ci us [] a0]
    · by_cases a0:us.length=bs.length
      · obtain⟨e,Γ,y,bD,bT,fu⟩:=Mw (Y m) aG cV gh dS pU kH a0 hlen us.length 0 h (by omega) (by omega) (Ext.refl _ _)
        have j2:=fT.run (p:=[1,1,0,1,0]) (by kernel_rfl) bD (by omega)
        rw[List.drop_zero,List.drop_zero] at bT
        refine go 0 a5 a0 (c9.post (V5 (Y m) b off us.length bf c_ bs.length aG cV h (Mv a0)) ⟨rfl,rfl,trivial⟩) ?_ rfl
        rcases bT with⟨rfl,lF,oK⟩|⟨rfl,lF,oK⟩
        · exact⟨_,_,_,aN.seq (p:=[1,1,0]) (by kernel_rfl) (Gw (Y m) b off us.length aG _ h) (aN.block (p:=[1,1,0,1]) (id:=0) (by kernel_rfl) j2),.inl ⟨rfl,lF,oK⟩,fu⟩
        · exact⟨_,_,_,aN.seq (p:=[1,1,0]) (by kernel_rfl) (Gw (Y m) b off us.length aG _ h) (aN.tS (p:=[1,1,0,1]) (id:=0) (by kernel_rfl) j2 (by simp)),.inr ⟨rfl,lF,oK⟩,fu⟩
      · refine⟨[(4,.bool false)],_,aN.iV (p:=[1]) (by kernel_rfl) (c9.post (V4 (Y m) b off us.length bf c_ bs.length aG cV h (wI a0)) ⟨rfl,trivial⟩) (by simp),?_,Ext.refl _ _⟩
        rw[Ci us bs a0]
 obtain⟨Γ,y,ba,rfl,ft⟩:=run
 exact⟨y,eg (intr:=b7) (n:=m) (args:=[v,w]) Tryz.func87 (by kernel_rfl) rfl (by kernel_rfl) (aN.seq (p:=[]) (by kernel_rfl) (V3 (Y m) v w h) ba) (.inl rfl) rfl,ft⟩
end Go.Proofs.cf
namespace Go.Proofs.cf
open Go ay Go.Proofs cS
set_option maxRecDepth 100000
set_option maxHeartbeats 1000000
theorem We(call:aO->List J->aa->ax)(v w:J)(h:aa):
  aN Tryz.prog Tryz.f88 none call [0] (ar.mk [(0,v),(1,w),(2,.fn 71 [] [])] [] .none h) (.nrm)
   (ar.mk [(0,v),(1,w),(2,.fn 71 [] [])] [] .none h):=
 bI [0,1,2] (hs:=[]) (by kernel_rfl)<| .nil
theorem Wf(call:aO->List J->aa->ax)(b off N bf c_ M:Nat)(aG cV:cj)(h:aa)
  (H1:(!de (.ofNat N) (.ofNat M))=true):
  aN Tryz.prog Tryz.f88 none call [1,0] (ar.mk [(0,.slice b off N aG),(1,.slice bf c_ M cV),(2,.fn 71 [] [])] [] .none h) (.ret)
   (ar.mk [(0,.slice b off N aG),(1,.slice bf c_ M cV),(2,.fn 71 [] []),(6,.bool false)] [] .none h):=
 bI [0,1,2,6] (hs:=[.b true]) (by kernel_rfl)<| .cons H1<| .nil
theorem Wg(call:aO->List J->aa->ax)(b off N bf c_ M:Nat)(aG cV:cj)(h:aa)
  (H1:(!de (.ofNat N) (.ofNat M))=false):
  aN Tryz.prog Tryz.f88 none call [1,0] (ar.mk [(0,.slice b off N aG),(1,.slice bf c_ M cV),(2,.fn 71 [] [])] [] .none h) (.nrm)
   (ar.mk [(0,.slice b off N aG),(1,.slice bf c_ M cV),(2,.fn 71 [] [])] [] .none h):=
 bI [0,1,2,6] (hs:=[.b false]) (by kernel_rfl)<| .cons H1<| .nil
theorem Wh(call:aO->List J->aa->ax)(bf c_ M:Nat)(cV:cj)(h:aa)
  (H1:(!de (.ofNat 0) (.ofNat M))=true):
  aN Tryz.prog Tryz.f88 none call [1,0] (ar.mk [(0,.az),(1,.slice bf c_ M cV),(2,.fn 71 [] [])] [] .none h) (.ret)
   (ar.mk [(0,.az),(1,.slice bf c_ M cV),(2,.fn 71 [] []),(6,.bool false)] [] .none h):=
 bI [0,1,2,6] (hs:=[.b true]) (by kernel_rfl)<| .cons H1<| .nil
theorem Wi(call:aO->List J->aa->ax)(bf c_ M:Nat)(cV:cj)(h:aa)
  (H1:(!de (.ofNat 0) (.ofNat M))=false):
  aN Tryz.prog Tryz.f88 none call [1,0] (ar.mk [(0,.az),(1,.slice bf c_ M cV),(2,.fn 71 [] [])] [] .none h) (.nrm)
   (ar.mk [(0,.az),(1,.slice bf c_ M cV),(2,.fn 71 [] [])] [] .none h):=
 bI [0,1,2,6] (hs:=[.b false]) (by kernel_rfl)<| .cons H1<| .nil
theorem Wj(call:aO->List J->aa->ax)(b off N:Nat)(aG:cj)(h:aa)
  (H1:(!de (.ofNat N) (.ofNat 0))=true):
  aN Tryz.prog Tryz.f88 none call [1,0] (ar.mk [(0,.slice b off N aG),(1,.az),(2,.fn 71 [] [])] [] .none h) (.ret)
   (ar.mk [(0,.slice b off N aG),(1,.az),(2,.fn 71 [] []),(6,.bool false)] [] .none h):=
 bI [0,1,2,6] (hs:=[.b true]) (by kernel_rfl)<| .cons H1<| .nil
theorem Wk(call:aO->List J->aa->ax)(b off N:Nat)(aG:cj)(h:aa)
  (H1:(!de (.ofNat N) (.ofNat 0))=false):
  aN Tryz.prog Tryz.f88 none call [1,0] (ar.mk [(0,.slice b off N aG),(1,.az),(2,.fn 71 [] [])] [] .none h) (.nrm)
   (ar.mk [(0,.slice b off N aG),(1,.az),(2,.fn 71 [] [])] [] .none h):=
 bI [0,1,2,6] (hs:=[.b false]) (by kernel_rfl)<| .cons H1<| .nil
theorem Wl(call:aO->List J->aa->ax)(h:aa):
  aN Tryz.prog Tryz.f88 none call [1,0] (ar.mk [(0,.az),(1,.az),(2,.fn 71 [] [])] [] .none h) (.nrm)
   (ar.mk [(0,.az),(1,.az),(2,.fn 71 [] [])] [] .none h):=
 bI [0,1,2,6] (hs:=[.b false]) (by kernel_rfl)<| .cons (by kernel_rfl:(!de (Int.ofNat 0) (Int.ofNat 0))=false)<| .nil
theorem Gx(call:aO->List J->aa->ax)(b off N:Nat)(aG:cj)(w:J)(h:aa):
  aN Tryz.prog Tryz.f88 none call [1,1,0,0] (ar.mk [(0,.slice b off N aG),(1,w),(2,.fn 71 [] [])] [] .none h) (.nrm)
   (ar.mk [(1,w),(2,.fn 71 [] []),(15,.slice b off N aG),(16,.int .i64 (.ofNat N)),(17,.int .i64 (.ofNat 0))] [] .none h):=
 bI [1,2,15,16,17] (hs:=[]) (by kernel_rfl)<| .nil
theorem Mx(call:aO->List J->aa->ax)(w:J)(h:aa):
  aN Tryz.prog Tryz.f88 none call [1,1,0,0] (ar.mk [(0,.az),(1,w),(2,.fn 71 [] [])] [] .none h) (.nrm)
   (ar.mk [(1,w),(2,.fn 71 [] []),(15,.az),(16,.int .i64 (.ofNat 0)),(17,.int .i64 (.ofNat 0))] [] .none h):=
 bI [1,2,15,16,17] (hs:=[]) (by kernel_rfl)<| .nil
theorem Ck(call:aO->List J->aa->ax)(N i:Nat)(v w:J)(h:aa)
  (H1:dZ (.ofNat i) (.ofNat N)=false):
  aN Tryz.prog Tryz.f88 none call [1,1,0,1,0,0] (ar.mk [(1,w),(2,.fn 71 [] []),(15,v),(16,.int .i64 (.ofNat N)),(17,.int .i64 (.ofNat i))] [] .none h) (.exit 0)
   (ar.mk [] [] .none h):=
 bI [] (hs:=[.b false]) (by kernel_rfl)<| .cons H1<| .nil
theorem Wm(call:aO->List J->aa->ax)(b off N bf c_ M i q aT j:Nat)(x y:J)(aG cV:cj)(h g:aa)
  (H1:dZ (.ofNat i) (.ofNat N)=true)
  (a7:Nat.le (Nat.succ i) N/\J.ptr b q=J.ptr b (off+i*1))
  (b1:aA h b q=some x)
  (b8:Nat.le (Nat.succ i) M/\J.ptr bf aT=J.ptr bf (c_+i*1))
  (dv:aA h bf aT=some y)
  (fB:call (.fn 71) [x,y] h=ax.ret (.bool true) g)
  (lG:arith .add .i64 (.ofNat i) (.ofNat 1)=some (.int .i64 (.ofNat j))):
  aN Tryz.prog Tryz.f88 none call [1,1,0,1,0,0] (ar.mk [(1,.slice bf c_ M cV),(2,.fn 71 [] []),(15,.slice b off N aG),(16,.int .i64 (.ofNat N)),(17,.int .i64 (.ofNat i))] [] .none h) (.nrm)
   (ar.mk [(1,.slice bf c_ M cV),(2,.fn 71 [] []),(15,.slice b off N aG),(16,.int .i64 (.ofNat N)),(17,.int .i64 (.ofNat j))] [] .none g):=
 bI [1,2,15,16,17] (hs:=[.b true,.v (.ptr b q),.v x,.v (.ptr bf aT),.v y,.c (.bool true) g,.b false,.v (.int .i64 (.ofNat j))]) (by kernel_rfl)<| .cons H1<| .cons a7<| .cons b1<| .cons b8<| .cons dv<| .cons fB<| .cons (by kernel_rfl:(!true)=false)<| .cons lG<| .nil
theorem Wn(call:aO->List J->aa->ax)(b off N bf c_ M i q aT j:Nat)(x y:J)(aG cV:cj)(h g:aa)
  (H1:dZ (.ofNat i) (.ofNat N)=true)
  (a7:Nat.le (Nat.succ i) N/\J.ptr b q=J.ptr b (off+i*1))
  (b1:aA h b q=some x)
  (b8:Nat.le (Nat.succ i) M/\J.ptr bf aT=J.ptr bf (c_+i*1))
  (dv:aA h bf aT=some y)
  (fB:call (.fn 71) [x,y] h=ax.ret (.bool false) g):
  aN Tryz.prog Tryz.f88 none call [1,1,0,1,0,0] (ar.mk [(1,.slice bf c_ M cV),(2,.fn 71 [] []),(15,.slice b off N aG),(16,.int .i64 (.ofNat N)),(17,.int .i64 (.ofNat i))] [] .none h) (.ret)
   (ar.mk [(6,.bool false)] [] .none g):=
 bI [6] (hs:=[.b true,.v (.ptr b q),.v x,.v (.ptr bf aT),.v y,.c (.bool false) g,.b true]) (by kernel_rfl)<| .cons H1<| .cons a7<| .cons b1<| .cons b8<| .cons dv<| .cons fB<| .cons (by kernel_rfl:(!false)=true)<| .nil
theorem Wo(call:aO->List J->aa->ax)(h:aa):
  aN Tryz.prog Tryz.f88 none call [1,1,1] (ar.mk [] [] .none h) (.ret)
   (ar.mk [(6,.bool true)] [] .none h):=
 bI [6] (hs:=[]) (by kernel_rfl)<| .nil
theorem Gy(call:aO->List J->aa->ax)(v w:J)(h:aa):
  aN Tryz.prog Tryz.f71 none call [0] (ar.mk [(0,v),(1,w)] [] .none h) (.nrm)
   (ar.mk [(0,v),(1,w)] [] .none h):=
 bI [0,1] (hs:=[]) (by kernel_rfl)<| .nil
theorem Wp(call:aO->List J->aa->ax)(h:aa):
  aN Tryz.prog Tryz.f71 none call [1,0] (ar.mk [(0,.bc),(1,.bc)] [] .none h) (.ret)
   (ar.mk [(4,.bool true)] [] .none h):=
 bI [4] (hs:=[.v (.bool true),.b true,.b true,.b true,.b true,.v (.bool true),.b true,.b true,.v (.bool true),.b true]) (by kernel_rfl)<| .cons (by kernel_rfl:er Tryz.prog h BinOp.eql 47 (Operand.tmp 5) (Operand.const (Value.pointer none)) J.bc J.bc=some (J.bool true))<| .cons (by kernel_rfl:true=true)<| .cons (by kernel_rfl:true=true)<| .cons (by kernel_rfl:true=true)<| .cons (by kernel_rfl:true=true)<| .cons (by kernel_rfl:er Tryz.prog h BinOp.eql 47 (Operand.tmp 11) (Operand.const (Value.pointer none)) J.bc J.bc=some (J.bool true))<| .cons (by kernel_rfl:true=true)<| .cons (by kernel_rfl:true=true)<| .cons (by kernel_rfl:er Tryz.prog h BinOp.eql 47 (Operand.tmp 14) (Operand.const (Value.pointer none)) J.bc J.bc=some (J.bool true))<| .cons (by kernel_rfl:true=true)<| .nil
theorem Wq(call:aO->List J->aa->ax)(r:Nat)(h:aa):
  aN Tryz.prog Tryz.f71 none call [1,0] (ar.mk [(0,.bc),(1,.ptr r 0)] [] .none h) (.ret)
   (ar.mk [(4,.bool false)] [] .none h):=
 bI [4] (hs:=[.v (.bool true),.b true,.b true,.b true,.b true,.v (.bool true),.b true,.b true,.v (.bool false),.b true]) (by kernel_rfl)<| .cons (by kernel_rfl:er Tryz.prog h BinOp.eql 47 (Operand.tmp 5) (Operand.const (Value.pointer none)) J.bc J.bc=some (J.bool true))<| .cons (by kernel_rfl:true=true)<| .cons (by kernel_rfl:true=true)<| .cons (by kernel_rfl:true=true)<| .cons (by kernel_rfl:true=true)<| .cons (by kernel_rfl:er Tryz.prog h BinOp.eql 47 (Operand.tmp 11) (Operand.const (Value.pointer none)) J.bc J.bc=some (J.bool true))<| .cons (by kernel_rfl:true=true)<| .cons (by kernel_rfl:true=true)<| .cons (by kernel_rfl:er Tryz.prog h BinOp.eql 47 (Operand.tmp 14) (Operand.const (Value.pointer none)) (J.ptr r 0) J.bc=some (J.bool false))<| .cons (by kernel_rfl:true=true)<| .nil
theorem Wr(call:aO->List J->aa->ax)(r:Nat)(h:aa):
  aN Tryz.prog Tryz.f71 none call [1,0] (ar.mk [(0,.ptr r 0),(1,.bc)] [] .none h) (.ret)
   (ar.mk [(4,.bool false)] [] .none h):=
 bI [4] (hs:=[.v (.bool false),.b false,.b false,.v (.bool true),.b false,.b true,.v (.bool false),.b false,.b false,.b false]) (by kernel_rfl)<| .cons (by kernel_rfl:er Tryz.prog h BinOp.eql 47 (Operand.tmp 5) (Operand.const (Value.pointer none)) (J.ptr r 0) J.bc=some (J.bool false))<| .cons (by kernel_rfl:false=false)<| .cons (by kernel_rfl:false=false)<| .cons (by kernel_rfl:er Tryz.prog h BinOp.eql 47 (Operand.tmp 8) (Operand.const (Value.pointer none)) J.bc J.bc=some (J.bool true))<| .cons (by kernel_rfl:false=false)<| .cons (by kernel_rfl:true=true)<| .cons (by kernel_rfl:er Tryz.prog h BinOp.eql 47 (Operand.tmp 11) (Operand.const (Value.pointer none)) (J.ptr r 0) J.bc=some (J.bool false))<| .cons (by kernel_rfl:false=false)<| .cons (by kernel_rfl:false=false)<| .cons (by kernel_rfl:false=false)<| .nil
theorem Cl:∀(us bs:List a3),us.length≠bs.length->hr us bs=false
 |[],[],h=>absurd rfl h
 |[],_::_,_=>by rw[hr];all_goals simp
 |_::_,[],_=>by rw[hr];all_goals simp
 |x::us,y::bs,h=>by
  rw[hr,Cl us bs (by simpa using h),Bool.and_false]
abbrev My(m B:Nat)(h:aa)(xs ys:List a3)(vs ws:List J):Prop:=∀i (ab:i<vs.length) (ae:i<ws.length) (av:i<xs.length) (aK:i<ys.length) x,Ext B h x->∃an,Y m (.fn 71) [vs[i],ws[i]] x=.ret (.bool (qP xs[i] ys[i])) an/\Ext B x an
theorem Mz{m B b off bf c_:Nat}{h:aa}{xs ys:List a3}{vs ws:List J}(aG cV:cj)(ag:b<B)(dS:bf<B)(a5:∀i (af:i<vs.length),aA h b (off+i*1)=some vs[i])(uA:∀i (af:i<ws.length),aA h bf (c_+i*1)=some ws[i])(h2:vs.length=xs.length)(mq:ws.length=ys.length)(aw:vs.length=ws.length)(hlen:vs.length<=90000)(bp:My m B h xs ys vs ws):∀(k i:Nat) (x:aa),vs.length-i=k->i<=vs.length->Ext B h x->
  ∃e Γ y,fT Tryz.prog Tryz.f88 none (Y m) [1,1,0,1,0] (k+1) ⟨[(1,.slice bf c_ ws.length cV),(2,.fn 71 [] []),(15,.slice b off vs.length aG),(16,.int .i64 (Int.ofNat vs.length)),(17,.int .i64 (Int.ofNat i))],[],.none,x⟩ e ⟨Γ,[],.none,y⟩/\
   ((e=.exit 0/\Γ=[]/\hr (xs.drop i) (ys.drop i)=true)\/(e=.ret/\Γ=[(6,.bool false)]/\hr (xs.drop i) (ys.drop i)=false))/\Ext B h y
 |0,i,x,au,af,ad=>by
  obtain rfl:i=vs.length:=by omega
  rw[List.drop_of_length_le (by omega),List.drop_of_length_le (by omega)]
  exact⟨_,_,_,.exit (Ck (Y m) _ _ _ _ x (mH (by omega))) (by simp),.inl ⟨rfl,rfl,by rw[hr]⟩,ad⟩
 |k+1,i,x,au,af,ad=>by
  have ab:i<vs.length:=by omega
  have ae:i<ws.length:=by omega
  have av:i<xs.length:=by omega
  have aK:i<ys.length:=by omega
  have aE:aA x b (off+i*1)=some vs[i]:=(Cj ad ag).trans (a5 i ab)
  have aC:aA x bf (c_+i*1)=some ws[i]:=(Cj ad dS).trans (uA i ae)
  rw[List.drop_eq_getElem_cons av,List.drop_eq_getElem_cons aK,hr]
  obtain⟨g,c1,c2⟩:=bp i ab ae av aK x ad
  have ao:Ext B h g:=ad.trans (Nat.le_refl _) c2
  cases ah:qP xs[i] ys[i] with
  |true=>
   rw[ah] at c1
   obtain⟨e,Γ,y,bD,bT,fu⟩:=Mz aG cV ag dS a5 uA h2 mq aw hlen bp k (i+1) g (by omega) (by omega) ao
   refine⟨e,Γ,y,.step (Wm (Y m) b off vs.length bf c_ ws.length i (off+i*1) (c_+i*1) (i+1) vs[i] ws[i] aG cV x g (kj ab) ⟨ab,rfl⟩ aE ⟨ae,rfl⟩ aC c1 (yC ab (by omega))) bD,?_,fu⟩
   rw[Bool.true_and];exact bT
  |false=>
   rw[ah] at c1
   exact⟨_,_,_,.exit (Wn (Y m) b off vs.length bf c_ ws.length i (off+i*1) (c_+i*1) 0 vs[i] ws[i] aG cV x g (kj ab) ⟨ab,rfl⟩ aE ⟨ae,rfl⟩ aC c1) (by simp),.inr ⟨rfl,rfl,by rw[Bool.false_and]⟩,ao⟩
theorem Ws(m:Nat){B:Nat}{h:aa}{v w:J}{xs ys:List a3}{vs ws:List J}(a5:eT B h v vs)(ag:eT B h w ws)(h2:vs.length=xs.length)(mq:ws.length=ys.length)(hlen:vs.length<=90000)(bp:My m B h xs ys vs ws):∃an,Y (m+1) (.fn 88) [v,w,.fn 71 [] []] h=.ret (.bool (hr xs ys)) an/\Ext B h an:=by
 have run:∃Γ y,aN Tryz.prog Tryz.f88 none (Y m) [1] ⟨[(0,v),(1,w),(2,.fn 71 [] [])],[],.none,h⟩ .ret ⟨Γ,[],.none,y⟩/\Γ=[(6,.bool (hr xs ys))]/\Ext B h y:=by
  have go:∀z,aN Tryz.prog Tryz.f88 none (Y m) [1,0] ⟨[(0,v),(1,w),(2,.fn 71 [] [])],[],.none,h⟩ .nrm ⟨[(0,v),(1,w),(2,.fn 71 [] [])],[],.none,h⟩->(∃e Γ y,aN Tryz.prog Tryz.f88 none (Y m) [1,1,0] ⟨[(0,v),(1,w),(2,.fn 71 [] [])],[],.none,h⟩ e ⟨Γ,[],.none,y⟩/\((e=.nrm/\Γ=[]/\hr xs ys=true)\/(e=.ret/\Γ=[(6,.bool false)]/\hr xs ys=false))/\Ext B h y)->z=0->∃Γ y,aN Tryz.prog Tryz.f88 none (Y m) [1] ⟨[(0,v),(1,w),(2,.fn 71 [] [])],[],.none,h⟩ .ret ⟨Γ,[],.none,y⟩/\Γ=[(6,.bool (hr xs ys))]/\Ext B h y:=by
   rintro z ba ⟨e,Γ,y,bt,ft,hC⟩ _
   rcases ft with⟨rfl,rfl,iH⟩|⟨rfl,rfl,iH⟩
   · rw[iH]
     exact⟨_,y,aN.seq (p:=[1]) (by kernel_rfl) ba (aN.seq (p:=[1,1]) (by kernel_rfl) bt (Wo (Y m) y)),rfl,hC⟩
   · rw[iH]
     exact⟨_,y,aN.seq (p:=[1]) (by kernel_rfl) ba (aN.iV (p:=[1,1]) (by kernel_rfl) bt (by simp)),rfl,hC⟩
  have nil:∀(us bs:List a3),us.length=0->bs.length=0->hr us bs=true:=λus bs ab ae=>by
   rw[List.eq_nil_of_length_eq_zero ab,List.eq_nil_of_length_eq_zero ae,hr]
  rcases a5 with⟨rfl,rfl⟩|⟨b,off,aG,rfl,gh,pU,gW⟩
  · rcases ag with⟨rfl,rfl⟩|⟨bf,c_,cV,rfl,dS,kH,fM⟩
    · refine go 0 (Wl (Y m) h) ⟨_,_,_,aN.seq (p:=[1,1,0]) (by kernel_rfl) (Mx (Y m) _ h) (aN.block (p:=[1,1,0,1]) (id:=0) (by kernel_rfl) (fT.run (p:=[1,1,0,1,0]) (n:=1) (by kernel_rfl) (.exit (Ck (Y m) 0 0 _ _ h (by kernel_rfl)) (by simp)) (by omega))),.inl ⟨rfl,rfl,nil _ _ h2.symm mq.symm⟩,Ext.refl _ _⟩ rfl
    · by_cases a0:ws.length=0
      · obtain rfl:ws=[]:=List.eq_nil_of_length_eq_zero a0
        refine go 0 (c9.post (Wi (Y m) bf c_ 0 cV h (by kernel_rfl)) ⟨rfl,rfl,rfl,trivial⟩) ⟨_,_,_,aN.seq (p:=[1,1,0]) (by kernel_rfl) (Mx (Y m) _ h) (aN.block (p:=[1,1,0,1]) (id:=0) (by kernel_rfl) (fT.run (p:=[1,1,0,1,0]) (n:=1) (by kernel_rfl) (.exit (Ck (Y m) 0 0 _ _ h (by kernel_rfl)) (by simp)) (by omega))),.inl ⟨rfl,rfl,nil _ _ h2.symm mq.symm⟩,Ext.refl _ _⟩ rfl
      · refine⟨[(6,.bool false)],_,aN.iV (p:=[1]) (by kernel_rfl) (c9.post (Wh (Y m) bf c_ ws.length cV h (wI (λe=>a0 e.symm))) ⟨rfl,trivial⟩) (by simp),?_,Ext.refl _ _⟩
        rw[Cl xs ys (by simp at h2;omega)]
  · rcases ag with⟨rfl,rfl⟩|⟨bf,c_,cV,rfl,dS,kH,fM⟩
    · by_cases a0:vs.length=0
      · obtain rfl:vs=[]:=List.eq_nil_of_length_eq_zero a0
        refine go 0 (c9.post (Wk (Y m) b off 0 aG h (by kernel_rfl)) ⟨rfl,rfl,rfl,trivial⟩) ⟨_,_,_,aN.seq (p:=[1,1,0]) (by kernel_rfl) (Gx (Y m) b off 0 aG _ h) (aN.block (p:=[1,1,0,1]) (id:=0) (by kernel_rfl) (fT.run (p:=[1,1,0,1,0]) (n:=1) (by kernel_rfl) (.exit (Ck (Y m) 0 0 _ _ h (by kernel_rfl)) (by simp)) (by omega))),.inl ⟨rfl,rfl,nil _ _ h2.symm mq.symm⟩,Ext.refl _ _⟩ rfl
      · refine⟨[(6,.bool false)],_,aN.iV (p:=[1]) (by kernel_rfl) (c9.post (Wj (Y m) b off vs.length aG h (wI a0)) ⟨rfl,trivial⟩) (by simp),?_,Ext.refl _ _⟩
        rw[Cl xs ys (by simp at mq;omega)]
    · by_cases a0:vs.length=ws.length
      · obtain⟨e,Γ,y,bD,bT,fu⟩:=Mz aG cV gh dS pU kH h2 mq a0 hlen bp vs.length 0 h (by omega) (by omega) (Ext.refl _ _)
        have j2:=fT.run (p:=[1,1,0,1,0]) (by kernel_rfl) bD (by omega)
        rw[List.drop_zero,List.drop_zero] at bT
        refine go 0 (c9.post (Wg (Y m) b off vs.length bf c_ ws.length aG cV h (Mv a0)) ⟨rfl,rfl,rfl,trivial⟩) ?_ rfl
        rcases bT with⟨rfl,lF,oK⟩|⟨rfl,lF,oK⟩
        · exact⟨_,_,_,aN.seq (p:=[1,1,0]) (by kernel_rfl) (Gx (Y m) b off vs.length aG _ h) (aN.block (p:=[1,1,0,1]) (id:=0) (by kernel_rfl) j2),.inl ⟨rfl,lF,oK⟩,fu⟩
        · exact⟨_,_,_,aN.seq (p:=[1,1,0]) (by kernel_rfl) (Gx (Y m) b off vs.length aG _ h) (aN.tS (p:=[1,1,0,1]) (id:=0) (by kernel_rfl) j2 (by simp)),.inr ⟨rfl,lF,oK⟩,fu⟩
      · refine⟨[(6,.bool false)],_,aN.iV (p:=[1]) (by kernel_rfl) (c9.post (Wf (Y m) b off vs.length bf c_ ws.length aG cV h (wI a0)) ⟨rfl,trivial⟩) (by simp),?_,Ext.refl _ _⟩
        rw[Cl xs ys (by omega)]
 obtain⟨Γ,y,ba,rfl,ft⟩:=run
 exact⟨y,eg (intr:=b7) (n:=m) (args:=[v,w,.fn 71 [] []]) Tryz.func88 (by kernel_rfl) rfl (by kernel_rfl) (aN.seq (p:=[]) (by kernel_rfl) (We (Y m) v w h) ba) (.inl rfl) rfl,ft⟩
end Go.Proofs.cf
namespace Go.Proofs.cf
open Go ay Go.Proofs cS
set_option maxRecDepth 100000
set_option maxHeartbeats 1000000
theorem Wt:h8 none none=true:=by rw[h8]
theorem Wu(t:a3):h8 none (some t)=false:=by rw[h8]<;>simp
theorem Wv(t:a3):h8 (some t) none=false:=by rw[h8]<;>simp
theorem Ww(m:Nat)(h:aa):Y (m+1) (.fn 71) [.bc,.bc] h=.ret (.bool true) h:=
 eg (intr:=b7) (n:=m) (args:=[.bc,.bc]) Tryz.func71 (by kernel_rfl) rfl (by kernel_rfl) (aN.seq (p:=[]) (by kernel_rfl) (Gy (Y m) _ _ h) (aN.iV (p:=[1]) (by kernel_rfl) (Wp (Y m) h) (by simp))) (.inl rfl) (by kernel_rfl)
theorem Wx(m R:Nat)(h:aa):Y (m+1) (.fn 71) [.bc,.ptr R 0] h=.ret (.bool false) h:=
 eg (intr:=b7) (n:=m) (args:=[.bc,.ptr R 0]) Tryz.func71 (by kernel_rfl) rfl (by kernel_rfl) (aN.seq (p:=[]) (by kernel_rfl) (Gy (Y m) _ _ h) (aN.iV (p:=[1]) (by kernel_rfl) (Wq (Y m) R h) (by simp))) (.inl rfl) (by kernel_rfl)
theorem Wy(m R:Nat)(h:aa):Y (m+1) (.fn 71) [.ptr R 0,.bc] h=.ret (.bool false) h:=
 eg (intr:=b7) (n:=m) (args:=[.ptr R 0,.bc]) Tryz.func71 (by kernel_rfl) rfl (by kernel_rfl) (aN.seq (p:=[]) (by kernel_rfl) (Gy (Y m) _ _ h) (aN.iV (p:=[1]) (by kernel_rfl) (Wr (Y m) R h) (by simp))) (.inl rfl) (by kernel_rfl)
theorem Wz(m:Nat)(r:Nat)(bt:Nat)(h:aa){R:ax->Prop}(H:∃aQ:Nat,aA (h.room 54) r (0+0)=some (.int .i64 (.ofNat aQ))/\∃bw:Nat,aA (h.room 54) bt (0+0)=some (.int .i64 (.ofNat bw))/\(aQ=bw->∃s1:List UInt8,aA (h.room 54) r (0+1)=some (.str s1)/\∃s2:List UInt8,aA (h.room 54) bt (0+1)=some (.str s2)/\(cw s1 s2=true->∃v1:J,aA (h.room 54) r (0+2)=some v1/\∃v2:J,aA (h.room 54) bt (0+2)=some v2/\∃bh:Bool,∃al:aa,(Y m) (.fn 87) [v1,v2] (h.room 54)=.ret (.bool bh) al/\(bh=true->∃dr:J,aA al r (0+3)=some dr/\∃v4:J,aA al bt (0+3)=some v4/\∃bf:Bool,∃ak:aa,(Y m) (.fn 88) [dr,v4,.fn 71 [] []] al=.ret (.bool bf) ak/\(bf=true->∃gO:J,aA ak r (0+4)=some gO/\∃v6:J,aA ak bt (0+4)=some v6/\∃dM:Bool,∃aS:aa,(Y m) (.fn 71) [gO,v6] ak=.ret (.bool dM) aS/\J.sound v1=true/\J.sound v2=true/\J.sound dr=true/\J.sound v4=true/\J.sound gO=true/\J.sound v6=true/\R (.ret (.bool dM) aS))/\(bf=false->J.sound v1=true/\J.sound v2=true/\J.sound dr=true/\J.sound v4=true/\R (.ret (.bool false) ak)))/\(bh=false->J.sound v1=true/\J.sound v2=true/\R (.ret (.bool false) al)))/\(cw s1 s2=false->R (.ret (.bool false) (h.room 54))))/\(¬aQ=bw->R (.ret (.bool false) (h.room 54)))):
  R (Y (m+1) (.fn 71) [.ptr r 0,.ptr bt 0] h):=
 dH (intr:=b7) [(63,.bW .o),(67,.bW .o)] [(0,.v (.ptr r 0)),(1,.v (.ptr bt 0))] Tryz.func71 (by kernel_rfl) (by kernel_rfl) (by kernel_rfl) rfl (Eq.mp (by kernel_rfl) H)
theorem MA:∀(K:Nat) (oa ob:Option a3),dw oa<=K->dw oa<=90000->(∀t,oa=some t->hV t<=90000)->∀(m B:Nat) (h:aa) (v w:J),2*dw oa+3<=m->ep B h oa v->ep B h ob w->∃an,Y m (.fn 71) [v,w] h=.ret (.bool (h8 oa ob)) an/\Ext B h an
 |K,none,none,_,_,_,m,B,h,v,w,hm,aH,hw=>by
  obtain rfl:v=.bc:=aH
  obtain rfl:w=.bc:=hw
  obtain⟨m,rfl⟩:∃j,m=j+1:=⟨m-1,by omega⟩
  rw[Wt]
  exact⟨h,Ww m h,Ext.refl _ _⟩
 |K,none,some (.mk bz bA c8 e1 r0),_,_,_,m,B,h,v,w,hm,aH,hw=>by
  obtain rfl:v=.bc:=aH
  obtain⟨R,b5,bJ,dy,vs,cd,aW,up,rfl,ae,av,aK,bU,cB,eo⟩:=hw
  obtain⟨m,rfl⟩:∃j,m=j+1:=⟨m-1,by omega⟩
  rw[Wu]
  exact⟨h,Wx m R h,Ext.refl _ _⟩
 |K,some (.mk bz bA c8 e1 r0),none,_,_,_,m,B,h,v,w,hm,aH,hw=>by
  obtain rfl:w=.bc:=hw
  obtain⟨R,b5,bJ,dy,vs,cd,aW,up,rfl,ae,av,aK,bU,cB,eo⟩:=aH
  obtain⟨m,rfl⟩:∃j,m=j+1:=⟨m-1,by omega⟩
  rw[Wv]
  exact⟨h,Wy m R h,Ext.refl _ _⟩
 |0,some t,some u,dO,_,_,m,B,h,v,w,hm,aH,hw=>by
  rw[lD] at dO
  have:=ss t
  omega
 |K+1,some (.mk k bZ ns xs rt),some (.mk ew qQ sr pP qR),dO,fH,pk,m,B,h,v,w,hm,aH,hw=>by
  rw[lD,uB] at dO fH hm
  obtain⟨R,b5,bJ,dy,vs,cd,aW,up,rfl,ae,av,aK,bU,cB,eo⟩:=aH
  obtain⟨tG,y6,mR,MB,vF,adn,qp,ado,rfl,pA,Gz,Eh,WA,MC,WB⟩:=hw
  obtain⟨m,rfl⟩:∃j,m=j+2:=⟨m-2,by omega⟩
  have aJ:=pk _ rfl
  rw[hV] at aJ
  have h2:=e5.len cB
  have mq:=e5.len MC
  have od:=su xs
  have qU:Ext B h (h.room 54):=Ext.room B h 54
  have y5:=(qU.get R ae).trans av
  have GA:=(qU.get tG pA).trans Gz
  have bp:∀(oa ob:Option a3),dw oa<=K->dw oa<=90000->(∀t,oa=some t->hV t<=90000)->∀(m B:Nat) (h:aa) (v w:J),2*dw oa+3<=m->ep B h oa v->ep B h ob w->∃an,Y m (.fn 71) [v,w] h=.ret (.bool (h8 oa ob)) an/\Ext B h an:=MA K
  obtain⟨al,c1,bj⟩:=Wd m (aK.bM (fm.ext qU (Nat.le_refl _))) (Eh.bM (fm.ext qU (Nat.le_refl _))) (by omega)
  have mf:Ext B h al:=qU.trans (Nat.le_refl _) bj
  have WC:=(mf.get R ae).trans av
  have WD:=(mf.get tG pA).trans Gz
  obtain⟨ak,c2,bo⟩:=Ws m (xs:=xs) (ys:=pP) (bU.bM (fm.ext mf (Nat.le_refl _))) (WA.bM (fm.ext mf (Nat.le_refl _))) h2 mq (by omega) (λi i1 i2 i3 i4 x ad=>by
   have tp:=oF (List.getElem_mem i3)
   have xN:=y2 (List.getElem_mem i3)
   have ex:=mf.trans (Nat.le_refl _) ad
   have:=bp (some xs[i]) (some pP[i]) (by rw[lD];omega) (by rw[lD];omega) (λt a2=>by obtain rfl:=Option.some.inj a2;omega) m B x vs[i] vF[i] (by rw[lD];omega) (e4.bM (fm.ext ex (Nat.le_refl _)) _ _ (e5.get cB i i1 i3)) (e4.bM (fm.ext ex (Nat.le_refl _)) _ _ (e5.get MC i i2 i4))
   simpa only[h8] using this)
  have oL:Ext B h ak:=mf.trans (Nat.le_refl _) bo
  have WE:=(oL.get R ae).trans av
  have WG:=(oL.get tG pA).trans Gz
  obtain⟨aS,c3,dj⟩:=bp rt qR (by omega) (by omega) (λt a2=>by subst a2;rw[oG] at aJ;omega) (m+1) B ak dy MB (by omega) (ep.bM (fm.ext oL (Nat.le_refl _)) _ _ eo) (ep.bM (fm.ext oL (Nat.le_refl _)) _ _ WB)
  have WH:Ext B h aS:=oL.trans (Nat.le_refl _) dj
  have iU:h8 (some (.mk k bZ ns xs rt)) (some (.mk ew qQ sr pP qR))=(Nat.beq k ew&&(cw bZ qQ&&(hU ns sr&&(hr xs pP&&h8 rt qR)))):=by rw[h8,qP]
  rw[iU]
  have fin:∀b y,b=(Nat.beq k ew&&(cw bZ qQ&&(hU ns sr&&(hr xs pP&&h8 rt qR))))->Ext B h y->∃an,ax.ret (.bool b) y=.ret (.bool (Nat.beq k ew&&(cw bZ qQ&&(hU ns sr&&(hr xs pP&&h8 rt qR))))) an/\Ext B h an:=λb y e x=>⟨y,by rw[e],x⟩
  refine Wz (m+1) R tG h (R:=λx=>∃an,x=.ret (.bool (Nat.beq k ew&&(cw bZ qQ&&(hU ns sr&&(hr xs pP&&h8 rt qR))))) an/\Ext B h an) ⟨k,aB y5 rfl,ew,aB GA rfl,λau=>⟨bZ,aB y5 rfl,qQ,aB GA rfl,λgh=>⟨b5,aB y5 rfl,y6,aB GA rfl,_,al,c1,λdS=>⟨bJ,aB WC rfl,mR,aB WD rfl,_,ak,c2,λmC=>⟨dy,aB WE rfl,MB,aB WG rfl,_,aS,c3,nJ,nJ,nJ,nJ,nJ,nJ,fin _ _ ?_ WH⟩,λmC=>⟨nJ,nJ,nJ,nJ,fin _ _ (by rw[mC];simp) oL⟩⟩,λdS=>⟨nJ,nJ,fin _ _ (by rw[dS];simp) mf⟩⟩,λgh=>fin _ _ (by rw[gh];simp) qU⟩,λau=>fin _ _ ?_ qU⟩
  · subst au
    rw[gh,dS,mC,Nat.beq_refl k];rfl
  · rw[show Nat.beq k ew=false by
     cases ad:Nat.beq k ew with
     |false=>rfl
     |true=>exact absurd (Nat.eq_of_beq_eq_true ad) au];rfl
end Go.Proofs.cf
namespace Go.Proofs.cf
open Go ay Go.Proofs cS
set_option maxRecDepth 100000
set_option maxHeartbeats 1000000
theorem WI(call:aO->List J->aa->ax)(v w:J)(h:aa):
  aN Tryz.prog Tryz.f48 none call [0] (ar.mk [(0,v),(1,w)] [] .none h) (.nrm)
   (ar.mk [(0,v),(1,w)] [] .none h):=
 bI [0,1] (hs:=[]) (by kernel_rfl)<| .nil
theorem WJ(call:aO->List J->aa->ax)(v w:J)(k bA:Nat)(dM:Bool)(h al ak aS:aa)
  (H1:call (.fn 70) [v] h=ax.ret (.int .i64 (.ofNat k)) al)
  (a7:fE (.ofNat k) (.ofNat 60)=true)
  (b1:call (.fn 70) [w] al=ax.ret (.int .i64 (.ofNat bA)) ak)
  (b8:fE (.ofNat bA) (.ofNat 60)=true)
  (dv:call (.fn 71) [v,w] ak=ax.ret (.bool dM) aS):
  aN Tryz.prog Tryz.f48 none call [1] (ar.mk [(0,v),(1,w)] [] .none h) (.ret)
   (ar.mk [(4,.bool dM)] [] .none aS):=
 bI [4] (hs:=[.c (.int .i64 (.ofNat k)) al,.b true,.b true,.c (.int .i64 (.ofNat bA)) ak,.b true,.b true,.b true,.b true,.b true,.c (.bool dM) aS,.b true]) (by kernel_rfl)<| .cons H1<| .cons a7<| .cons a7<| .cons b1<| .cons a7<| .cons a7<| .cons b8<| .cons b8<| .cons b8<| .cons dv<| .cons b8<| .nil
theorem WK(call:aO->List J->aa->ax)(v w:J)(k bA:Nat)(dM:Bool)(h al ak aS:aa)
  (H1:call (.fn 70) [v] h=ax.ret (.int .i64 (.ofNat k)) al)
  (a7:fE (.ofNat k) (.ofNat 60)=true)
  (b1:call (.fn 70) [w] al=ax.ret (.int .i64 (.ofNat bA)) ak)
  (b8:fE (.ofNat bA) (.ofNat 60)=false):
  aN Tryz.prog Tryz.f48 none call [1] (ar.mk [(0,v),(1,w)] [] .none h) (.ret)
   (ar.mk [(4,.bool false)] [] .none ak):=
 bI [4] (hs:=[.c (.int .i64 (.ofNat k)) al,.b true,.b true,.c (.int .i64 (.ofNat bA)) ak,.b true,.b true,.b false,.b false,.b false,.b false]) (by kernel_rfl)<| .cons H1<| .cons a7<| .cons a7<| .cons b1<| .cons a7<| .cons a7<| .cons b8<| .cons b8<| .cons b8<| .cons b8<| .nil
theorem WL(call:aO->List J->aa->ax)(v w:J)(k bA:Nat)(dM:Bool)(h al ak aS:aa)
  (H1:call (.fn 70) [v] h=ax.ret (.int .i64 (.ofNat k)) al)
  (a7:fE (.ofNat k) (.ofNat 60)=false):
  aN Tryz.prog Tryz.f48 none call [1] (ar.mk [(0,v),(1,w)] [] .none h) (.ret)
   (ar.mk [(4,.bool false)] [] .none al):=
 bI [4] (hs:=[.c (.int .i64 (.ofNat k)) al,.b false,.b false,.b false,.b false,.b false,.b false,.b false,.b false]) (by kernel_rfl)<| .cons H1<| .cons a7<| .cons a7<| .cons a7<| .cons a7<| .cons (by kernel_rfl:false=false)<| .cons (by kernel_rfl:false=false)<| .cons (by kernel_rfl:false=false)<| .cons (by kernel_rfl:false=false)<| .nil
end Go.Proofs.cf
namespace Go.Proofs.cf
open Go ay Go.Proofs cS
set_option maxRecDepth 100000
set_option maxHeartbeats 1000000
def oM(oa ob:Option a3):Bool:=decide (dw oa<=60)&&(decide (dw ob<=60)&&h8 oa ob)
theorem GB{n:Nat}(h:n<=60):fE (Int.ofNat (min n 61)) (Int.ofNat 60)=true:=nC (by omega)
theorem MD{n:Nat}(h:¬n<=60):fE (Int.ofNat (min n 61)) (Int.ofNat 60)=false:=tU (by omega)
theorem WM{oa ob:Option a3}{B:Nat}{h:aa}{v w:J}(m:Nat)(a5:dw oa<=90000)(ag:dw ob<=90000)(aJ:∀t,oa=some t->hV t<=90000)(bN:B<=h.n)(hm:2*dw oa+dw ob+5<=m)(aH:ep B h oa v)(hw:ep B h ob w):
  ∃an,Y (m+1) (.fn 48) [v,w] h=.ret (.bool (oM oa ob)) an/\Ext B h an:=by
 obtain⟨m,rfl⟩:∃j,m=j+2:=⟨m-2,by omega⟩
 obtain⟨al,c1,bj⟩:=Gt m a5 bN aH (by omega)
 have mf:Ext B h al:=bj.le bN
 have fin:∀b y,aN Tryz.prog Tryz.f48 none (Y (m+2)) [1] ⟨[(0,v),(1,w)],[],.none,h⟩ .ret ⟨[(4,.bool b)],[],.none,y⟩->b=oM oa ob->Ext B h y->∃an,Y (m+2+1) (.fn 48) [v,w] h=.ret (.bool (oM oa ob)) an/\Ext B h an:=λb y ai ag ad=>by
  rw[<-ag]
  exact⟨y,eg (intr:=b7) (n:=m+2) (args:=[v,w]) Tryz.func48 (by kernel_rfl) rfl (by kernel_rfl) (aN.seq (p:=[]) (by kernel_rfl) (WI (Y (m+2)) v w h) ai) (.inl rfl) (by kernel_rfl),ad⟩
 unfold oM at fin⊢
 by_cases ab:dw oa<=60
 · have sy:B<=al.n:=Nat.le_trans bN mf.n
   obtain⟨ak,c2,bo⟩:=Gt m ag sy (ep.bM (fm.ext mf (Nat.le_refl _)) _ _ hw) (by omega)
   have oL:Ext B h ak:=mf.trans (Nat.le_refl _) (bo.le sy)
   by_cases ae:dw ob<=60
   · obtain⟨aS,c3,dj⟩:=MA (dw oa) oa ob (Nat.le_refl _) a5 aJ (m+2) B ak v w (by omega) (ep.bM (fm.ext oL (Nat.le_refl _)) _ _ aH) (ep.bM (fm.ext oL (Nat.le_refl _)) _ _ hw)
     exact fin (h8 oa ob) aS (WJ (Y (m+2)) v w _ _ _ h al ak aS c1 (GB ab) c2 (GB ae) c3) (by simp[ab,ae]) (oL.trans (Nat.le_refl _) dj)
   · exact fin false ak (WK (Y (m+2)) v w _ _ false h al ak h c1 (GB ab) c2 (MD ae)) (by simp[ae]) oL
 · exact fin false al (WL (Y (m+2)) v w _ 0 false h al h h c1 (MD ab)) (by simp[ab]) mf
end Go.Proofs.cf
