/-
  PROVED HERE: contracts of functions (Da). No condition beside each statement's own.
-/
import Derived.Test.YtfooahfebojldaaGreatDoorAx
import Derived.Test.YtfooahfebojldaaGreatDoorProg
import Derived.Test.YtfooahfebojldaaGreatDoorSxa
import Derived.Test.YtfooahfebojldaaGreatDoorTx
set_option linter.unusedVariables false
set_option linter.unusedSimpArgs false
namespace Go.Proofs.cR
open Go aD Go.Proofs
set_option maxRecDepth 100000
set_option maxHeartbeats 1000000
noncomputable def k8:uR:=⟨69,[],.slice 5503 0 27 (.aY 1),5504,[(3,.cells [.int .i64 (2),.str [],.a_,.a_,.aR] 51 .own 0 0),(4,.cells [.int .i64 (4),.str [],.a_,.a_,.aR] 51 .own 0 0),(5,.cells [.int .i64 (3),.str [],.a_,.a_,.aR] 51 .own 0 0),(6,.cells [.int .i64 (6),.str [109,46,78],.a_,.a_,.aR] 51 .own 0 0),(7,.cells [.int .i64 (1),.str [],.a_,.a_,.aR] 51 .own 0 0),(8,.cells [.int .i64 (5),.str [],.a_,.a_,.aR] 51 .own 0 0),(119,.cells [.int .i64 (7),.str [],.slice 246 0 2 (.aY 1),.slice 249 0 2 (.aY 1),.aR] 51 .own 0 0),(246,.cells [.str [97],.str [98]] 9 .aY 0 0),(249,.cells [.ptr 3 0,.ptr 4 0] 47 .aY 0 0),(429,.cells [.int .i64 (8),.str [],.a_,.slice 430 0 2 (.aY 1),.ptr 6 0] 51 .own 0 0),(430,.cells [.ptr 3 0,.ptr 4 0] 47 .aY 0 0),(1110,.cells [.ptr 3 0,.ptr 4 0,.ptr 119 0] 47 .aY 0 0),(1111,.cells [.int .i64 (9),.str [],.a_,.slice 1110 0 3 (.aY 1),.aR] 51 .own 0 0),(1223,.cells [.int .i64 (7),.str [],.slice 1350 0 2 (.aY 1),.slice 1353 0 2 (.aY 1),.aR] 51 .own 0 0),(1350,.cells [.str [97],.str [98]] 9 .aY 0 0),(1353,.cells [.ptr 4 0,.ptr 5 0] 47 .aY 0 0),(1533,.cells [.int .i64 (8),.str [],.a_,.slice 1534 0 2 (.aY 1),.ptr 7 0] 51 .own 0 0),(1534,.cells [.ptr 4 0,.ptr 5 0] 47 .aY 0 0),(2199,.cells [.ptr 5 0,.ptr 4 0,.ptr 1223 0] 47 .aY 0 0),(2200,.cells [.int .i64 (9),.str [],.a_,.slice 2199 0 3 (.aY 1),.aR] 51 .own 0 0),(2312,.cells [.int .i64 (7),.str [],.slice 2439 0 2 (.aY 1),.slice 2442 0 2 (.aY 1),.aR] 51 .own 0 0),(2439,.cells [.str [97],.str [98]] 9 .aY 0 0),(2442,.cells [.ptr 5 0,.ptr 6 0] 47 .aY 0 0),(2622,.cells [.int .i64 (8),.str [],.a_,.slice 2623 0 2 (.aY 1),.ptr 8 0] 51 .own 0 0),(2623,.cells [.ptr 5 0,.ptr 6 0] 47 .aY 0 0),(3303,.cells [.ptr 5 0,.ptr 6 0,.ptr 2312 0] 47 .aY 0 0),(3304,.cells [.int .i64 (9),.str [],.a_,.slice 3303 0 3 (.aY 1),.aR] 51 .own 0 0),(3416,.cells [.int .i64 (7),.str [],.slice 3543 0 2 (.aY 1),.slice 3546 0 2 (.aY 1),.aR] 51 .own 0 0),(3543,.cells [.str [97],.str [98]] 9 .aY 0 0),(3546,.cells [.ptr 6 0,.ptr 7 0] 47 .aY 0 0),(3726,.cells [.int .i64 (8),.str [],.a_,.slice 3727 0 2 (.aY 1),.ptr 3 0] 51 .own 0 0),(3727,.cells [.ptr 6 0,.ptr 7 0] 47 .aY 0 0),(4108,.cells [.int .i64 (1),.str [],.a_,.a_,.aR] 51 .own 0 0),(4220,.cells [.int .i64 (7),.str [],.slice 4347 0 2 (.aY 1),.slice 4350 0 2 (.aY 1),.aR] 51 .own 0 0),(4347,.cells [.str [97],.str [98]] 9 .aY 0 0),(4350,.cells [.ptr 7 0,.ptr 8 0] 47 .aY 0 0),(4530,.cells [.int .i64 (8),.str [],.a_,.slice 4531 0 2 (.aY 1),.ptr 4 0] 51 .own 0 0),(4531,.cells [.ptr 7 0,.ptr 8 0] 47 .aY 0 0),(4910,.cells [.int .i64 (1),.str [],.a_,.a_,.aR] 51 .own 0 0),(4913,.cells [.int .i64 (7),.str [],.a_,.a_,.aR] 51 .own 0 0),(5497,.cells [.int .i64 (8),.str [],.a_,.a_,.ptr 1111 0] 51 .own 0 0),(5498,.cells [.int .i64 (0),.str [],.a_,.a_,.aR] 51 .own 0 0),(5499,.cells [.ptr 3 0] 47 .own 0 0),(5500,.cells [.int .i64 (9),.str [],.a_,.slice 5499 0 1 (.exact 1),.aR] 51 .own 0 0),(5501,.cells [.int .i64 (6),.str [],.a_,.a_,.aR] 51 .own 0 0),(5503,.cells [.ptr 3 0,.ptr 4 0,.ptr 5 0,.ptr 6 0,.ptr 7 0,.ptr 8 0,.ptr 119 0,.ptr 429 0,.ptr 1111 0,.ptr 1223 0,.ptr 1533 0,.ptr 2200 0,.ptr 2312 0,.ptr 2622 0,.ptr 3304 0,.ptr 3416 0,.ptr 3726 0,.ptr 4108 0,.ptr 4220 0,.ptr 4530 0,.ptr 4910 0,.ptr 4913 0,.ptr 5497 0,.aR,.ptr 5498 0,.ptr 5500 0,.ptr 5501 0] 47 .aY 0 0)]⟩
theorem RB(hf:Fit Tryz.prog):D9 Tryz.prog [] k8.tc:=⟨λ_ _ _=>none,200,(by intro _ _ _ _ _ h;cases h),rfl,λeZ=>by kernel_rfl⟩
end Go.Proofs.cR
namespace dE
open aD
abbrev aU:=List UInt8
inductive a5 where
 |mk (k:Nat) (bD:aU) (aJ:List aU) (xs:List a5) (rt:Option a5)
def a5.k:a5->Nat|.mk k _ _ _ _=>k
mutual
def sz:a5->Nat
 |.mk _ _ _ xs rt=>1+fc xs+c8 rt
def fc:List a5->Nat
 |[]=>0
 |t::ts=>sz t+fc ts
def c8:Option a5->Nat
 |none=>0
 |some t=>sz t
end
def fY:List aU->List aU->Bool
 |[],[]=>true
 |x::xs,y::ys=>cg x y&&fY xs ys
 |_,_=>false
mutual
def rn:a5->a5->Bool
 |.mk k bD aJ xs rt,.mk dA iH jx il iY=>Nat.beq k dA&&(cg bD iH&&(fY aJ jx&&(gl xs il&&fZ rt iY)))
def gl:List a5->List a5->Bool
 |[],[]=>true
 |x::xs,y::ys=>rn x y&&gl xs ys
 |_,_=>false
def fZ:Option a5->Option a5->Bool
 |none,none=>true
 |some x,some y=>rn x y
 |_,_=>false
end
theorem o4(k:Nat)(bD:aU)(aJ:List aU)(xs:List a5)(rt:Option a5):sz (.mk k bD aJ xs rt)=1+fc xs+c8 rt:=by rw[sz]
theorem im(t:a5):c8 (some t)=sz t:=by rw[c8]
theorem nV:∀t:a5,0<sz t
 |.mk _ _ _ _ _=>by unfold sz;omega
theorem ki{t:a5}:∀{l:List a5},t∈l->sz t<=fc l
 |[],h=>by cases h
 |x::l,h=>by
  unfold fc
  rcases List.mem_cons.1 h with rfl|h
  · omega
  · have:=ki h;omega
theorem nW:∀l:List a5,l.length<=fc l
 |[]=>Nat.le_refl _
 |x::l=>by
  have:=nW l
  have:=nV x
  unfold fc
  simp;omega
mutual
def g6:a5->Nat
 |.mk _ _ aJ xs rt=>aJ.length+Al xs+p0 rt
def Al:List a5->Nat
 |[]=>0
 |t::ts=>g6 t+Al ts
def p0:Option a5->Nat
 |none=>0
 |some t=>g6 t
end
theorem rp{t:a5}:∀{l:List a5},t∈l->g6 t<=Al l
 |[],h=>by cases h
 |x::l,h=>by
  rw[Al]
  rcases List.mem_cons.1 h with rfl|h
  · omega
  · have:=rp h;omega
def g7(n:Nat):Bool:=(decide (97<=n)&&decide (n<=122))||((decide (65<=n)&&decide (n<=90))||decide (n=95))
def iq(n:Nat):Bool:=decide (48<=n)&&decide (n<=57)
def jy(n:Nat):Bool:=g7 n||iq n||decide (n=45)||decide (n=47)||decide (n=46)
def Ef:aU->Bool
 |[]=>false
 |c::_=>g7 c.toNat
def hS(s:aU):Bool:=decide (1<=s.length)&&decide (s.length<=24)&&Ef s&&s.all (λc=>g7 c.toNat||iq c.toNat)
def k9(s:aU):Bool:=decide (1<=s.length)&&decide (s.length<=161)&&s.all (λc=>jy c.toNat)
theorem Am(x y:UInt8)(a b:aU):dN (x::a) (y::b)=if x.toNat=y.toNat then dN a b else decide (x.toNat<y.toNat):=by
 by_cases h:x.toNat=y.toNat
 · rw[if_pos h];simp only[dN,h,Nat.beq_refl]
 · rw[if_neg h]
   have af:Nat.beq x.toNat y.toNat=false:=by
    cases ab:Nat.beq x.toNat y.toNat with
    |false=>rfl
    |true=>exact absurd (Nat.eq_of_beq_eq_true ab) h
   simp only[dN,af]
   exact Bool.eq_iff_iff.2 (by rw[Nat.blt_eq];simp)
def nX:aU:=(List.range 26).map (λi=>UInt8.ofNat (97+i))++(List.range 26).map (λi=>UInt8.ofNat (65+i))++(List.range 10).map (λi=>UInt8.ofNat (48+i))++[95]
def o5(n:Nat):Bool:=g7 n||iq n
def jV(p:Nat->Bool):List I:=(List.range 256).map λn=>.bool (p n)
def eu(sep:aU):List aU->aU
 |[]=>[]
 |x::l=>x++l.flatMap (λy=>sep++y)
theorem RC(sep:aU):∀(l:List aU) (y:aU),l≠[]->eu sep (l++[y])=eu sep l++sep++y
 |[],y,h=>absurd rfl h
 |x::l,y,_=>by
  show x++(l++[y]).flatMap _=x++l.flatMap _++sep++y
  rw[List.flatMap_append]
  simp
theorem RD(sep y:aU):eu sep ([]++[y])=y:=by simp[eu]
theorem xq(sep:aU)(l:List aU){i:Nat}(h:i<l.length):eu sep (l.take (i+1))=if 0<i then eu sep (l.take i)++sep++l[i] else l[i]:=by
 rw[List.take_succ_eq_append_getElem h]
 by_cases h0:0<i
 · rw[if_pos h0,RC]
   intro e
   have au:(l.take i).length=i:=by rw[List.length_take];omega
   rw[e] at au
   simp at au
   omega
 · rw[if_neg h0]
   obtain rfl:i=0:=by omega
   exact RD sep _
theorem xr(sep:aU)(l:List aU):∀(i:Nat),(eu sep (l.take i)).length<=(eu sep l).length:=by
 intro i
 cases l with
 |nil=>simp
 |cons x l=>
  cases i with
  |zero=>simp[eu]
  |succ i=>
   show(x++(l.take i).flatMap _).length<=(x++l.flatMap _).length
   have e:l.flatMap (λy=>sep++y)=(l.take i).flatMap (λy=>sep++y)++(l.drop i).flatMap (λy=>sep++y):=by
    rw[<-List.flatMap_append,List.take_append_drop]
   rw[e]
   simp only[List.length_append]
   omega
theorem tf(sep:aU)(l:List aU){i:Nat}(h:i<l.length):l[i].length<=(eu sep l).length:=by
 have aa:=xr sep l (i+1)
 rw[xq sep l h] at aa
 split at aa
 · simp at aa;omega
 · exact aa
def word:Nat->aU
 |1=>[97,110,121]
 |2=>[105,110,116]
 |3=>[98,111,111,108]
 |4=>[115,116,114]
 |5=>[110,105,108]
 |_=>[]
def gL(aJ ws:List aU):List aU:=List.zipWith (λn w=>n++[58,32]++w) aJ ws
def hi(e0:List Nat)(ws:List aU):List aU:=List.zipWith (λk w=>if k=8 then[40]++w++[41] else w) e0 ws
def shape(k:Nat)(bD:aU)(aJ:List aU)(e0:List Nat)(ws:List aU)(r:aU):aU:=
 if k=6 then bD else if k=7 then[123]++eu [44,32] (gL aJ ws)++[125] else if k=8 then[102,110,40]++eu [44,32] ws++[41,32,45,62,32]++r
 else if k=9 then eu [32,124,32] (hi e0 ws) else word k
mutual
def wr:a5->aU
 |.mk k bD aJ xs rt=>shape k bD aJ (xs.map a5.k) (cB xs) (kj rt)
def cB:List a5->List aU
 |[]=>[]
 |t::ts=>wr t::cB ts
def kj:Option a5->aU
 |none=>[]
 |some t=>wr t
end
mutual
def okW:a5->Bool
 |.mk k bD aJ xs rt=>decide (1<=k)&&decide (k<=9)&&(decide (k≠7)||decide (xs.length=aJ.length))&&(decide (k≠8)||rt.isSome)&&p1 xs&&tg rt
def p1:List a5->Bool
 |[]=>true
 |t::ts=>okW t&&p1 ts
def tg:Option a5->Bool
 |none=>true
 |some t=>okW t
end
theorem uS:∀l:List a5,(cB l).length=l.length
 |[]=>by rw[cB];rfl
 |x::l=>by rw[cB];simp[uS l]
theorem uT:∀(l:List a5) (i:Nat) (h:i<l.length) (al:i<(cB l).length),(cB l)[i]=wr l[i]
 |[],i,h,_=>by simp at h
 |x::l,0,_,_=>by simp only[cB];rfl
 |x::l,i+1,h,al=>by
  have:=uT l i (by simpa using h) (by rw[uS];simpa using h)
  simpa only[cB,List.getElem_cons_succ] using this
theorem JJ{t:a5}:∀{l:List a5},p1 l=true->t∈l->okW t=true
 |[],_,h=>by cases h
 |x::l,au,h=>by
  rw[p1,Bool.and_eq_true] at au
  rcases List.mem_cons.1 h with rfl|h
  · exact au.1
  · exact JJ au.2 h
def mC(p:Option aU)(x:aU):Bool:=match p with
 |none=>true
 |some q=>dN q x
def lQ(p:Option aU):List aU->Bool
 |[]=>true
 |x::l=>hS x&&(mC p x&&lQ (some x) l)
def nY(p:Option aU):List Nat->List aU->Bool
 |k::e0,w::ws=>(decide (k≠9)&&decide (k≠1))&&(mC p w&&nY (some w) e0 ws)
 |_,_=>true
def lR(l:List aU):Nat->Option aU
 |0=>none
 |i+1=>l[i]?
theorem JK{s:aU}(h:hS s=true):s.length<=24:=by
 unfold hS at h
 simp only[Bool.and_eq_true,decide_eq_true_eq] at h
 exact h.1.1.2
def jW(k:Nat)(s:aU)(N M:Nat)(o:Bool):Bool:=(!((!cg s []) !=decide (k=6)))&&(!(decide (0<N)&&decide (k≠7)))&&(!(decide (0<M)&&decide (k<7)))&&(!(o !=decide (k=8)))
def gm(k:Nat)(bD:aU)(aJ:List aU)(e0:List Nat)(ws:List aU)(n:Nat)(r:Bool):Bool:=
 if k=6 then k9 bD else if k=7 then decide (aJ.length=n)&&lQ none aJ else if k=8 then r else if k=9 then nY none e0 ws&&decide (2<=n) else true
mutual
def fe:a5->Bool
 |.mk k bD aJ xs rt=>(decide (1<=k)&&decide (k<=9))&&(jW k bD aJ.length xs.length rt.isSome&&(iI xs&&gm k bD aJ (xs.map a5.k) (cB xs) xs.length (iZ rt)))
def iI:List a5->Bool
 |[]=>true
 |t::ts=>fe t&&iI ts
def iZ:Option a5->Bool
 |none=>false
 |some t=>fe t
end
theorem An{t:a5}:∀{l:List a5},iI l=true->t∈l->fe t=true
 |[],_,h=>by cases h
 |x::l,au,h=>by
  rw[iI,Bool.and_eq_true] at au
  rcases List.mem_cons.1 h with rfl|h
  · exact au.1
  · exact An au.2 h
theorem Eg(k:Nat)(bD:aU)(aJ:List aU)(xs:List a5)(rt:Option a5):fe (.mk k bD aJ xs rt)=((decide (1<=k)&&decide (k<=9))&&(jW k bD aJ.length xs.length rt.isSome&&(iI xs&&gm k bD aJ (xs.map a5.k) (cB xs) xs.length (iZ rt)))):=by rw[fe]
mutual
theorem xt:∀t:a5,fe t=true->okW t=true
 |.mk k bD aJ xs rt,h=>by
  rw[Eg] at h
  simp only[Bool.and_eq_true,decide_eq_true_eq] at h
  obtain⟨⟨b4,jz⟩,bl,ab,aw⟩:=h
  have rq:=JL xs ab
  have JM:rt.isSome=decide (k=8):=by
   unfold jW at bl
   simp only[Bool.and_eq_true] at bl
   have:=bl.2
   revert this
   cases rt.isSome<;>cases aG:decide (k=8)<;>simp
  have bd:tg rt=true:=by
   cases rt with
   |none=>rw[tg]
   |some u=>
    have RE:k=8:=by simpa using JM.symm
    subst RE
    have hu:fe u=true:=by simpa[gm,iZ] using aw
    rw[tg]
    exact xt u hu
  rw[okW]
  simp only[Bool.and_eq_true,Bool.or_eq_true,decide_eq_true_eq]
  refine⟨⟨⟨⟨⟨b4,jz⟩,?_⟩,?_⟩,rq⟩,bd⟩
  · by_cases e:k=7
    · subst e
      right
      have:aJ.length=xs.length/\lQ none aJ=true:=by simpa[gm] using aw
      exact this.1.symm
    · exact .inl e
  · by_cases e:k=8
    · right;rw[JM];simp[e]
    · exact .inl e
theorem JL:∀l:List a5,iI l=true->p1 l=true
 |[],_=>by rw[p1]
 |t::l,h=>by
  rw[iI,Bool.and_eq_true] at h
  rw[p1,xt t h.1,JL l h.2];rfl
end
def jX(c:Nat):List aU->Nat
 |[]=>0
 |x::l=>x.length+c+jX c l
theorem JN(sep:aU):∀l:List aU,(l.flatMap (λy=>sep++y)).length=jX sep.length l
 |[]=>rfl
 |x::l=>by
  rw[List.flatMap_cons,List.length_append,JN sep l,List.length_append,jX]
  omega
theorem Eh(sep:aU):∀l:List aU,(eu sep l).length<=jX sep.length l
 |[]=>Nat.le_refl _
 |x::l=>by
  show(x++l.flatMap _).length<=_
  rw[List.length_append,JN,jX]
  omega
theorem JO:∀(p:Option aU) (aJ:List aU),lQ p aJ=true->∀n∈aJ,n.length<=24
 |_,[],_,n,aK=>by cases aK
 |p,x::l,h,n,aK=>by
  rw[lQ,Bool.and_eq_true,Bool.and_eq_true] at h
  rcases List.mem_cons.1 aK with rfl|aK
  · exact JK h.1
  · exact JO (some x) l h.2.2 n aK
def xu:List a5->Prop
 |[]=>True
 |t::l=>(wr t).length+30<=300*sz t/\xu l
theorem JP:∀xs:List a5,xu xs->jX 2 (cB xs)<=300*fc xs
 |[],_=>by rw[cB,jX];omega
 |t::l,h=>by
  have aa:=h.1
  have:=JP l h.2
  rw[cB,jX,fc];omega
theorem JQ:∀(aJ:List aU) (xs:List a5),xu xs->(∀n∈aJ,n.length<=24)->jX 2 (gL aJ (cB xs))<=300*fc xs
 |[],xs,_,_=>by simp[gL,jX]
 |n::aJ,[],_,_=>by simp[gL,cB,jX]
 |n::aJ,t::l,h,aK=>by
  have aa:=h.1
  have ad:=aK n (by simp)
  have:=JQ aJ l h.2 (λm hm=>aK m (by simp[hm]))
  unfold gL at this⊢
  rw[cB,List.zipWith_cons_cons,jX,fc]
  simp only[List.length_append,List.length_cons,List.length_nil]
  omega
theorem JR:∀(xs:List a5),xu xs->jX 3 (hi (xs.map a5.k) (cB xs))<=300*fc xs
 |[],_=>by simp[hi,cB,jX]
 |t::l,h=>by
  have aa:=h.1
  have:=JR l h.2
  unfold hi at this⊢
  rw[List.map_cons,cB,List.zipWith_cons_cons,jX,fc]
  split
  · simp only[List.length_append,List.length_cons,List.length_nil]
    omega
  · omega
mutual
theorem Ao:∀t:a5,fe t=true->(wr t).length+30<=300*sz t
 |.mk k bD aJ xs rt,h=>by
  rw[Eg] at h
  simp only[Bool.and_eq_true,decide_eq_true_eq] at h
  obtain⟨⟨b4,jz⟩,bl,ab,aw⟩:=h
  have hs:=JS xs ab
  rw[wr,o4]
  unfold shape
  split
  · rename_i e
    subst e
    have:k9 bD=true:=by simpa[gm] using aw
    unfold k9 at this
    simp only[Bool.and_eq_true,decide_eq_true_eq] at this
    omega
  split
  · rename_i e
    subst e
    have hf:aJ.length=xs.length/\lQ none aJ=true:=by simpa[gm] using aw
    have a8:=JQ aJ xs hs (JO none aJ hf.2)
    have aI:(eu [44,32] (gL aJ (cB xs))).length<=jX 2 (gL aJ (cB xs)):=Eh [44,32] _
    simp only[List.length_append,List.length_cons,List.length_nil]
    omega
  split
  · rename_i e
    subst e
    have a8:=JP xs hs
    have aI:(eu [44,32] (cB xs)).length<=jX 2 (cB xs):=Eh [44,32] _
    have ai:(kj rt).length<=300*c8 rt:=by
     cases rt with
     |none=>rw[kj];simp
     |some u=>
      have hu:fe u=true:=by simpa[gm,iZ] using aw
      have:=Ao u hu
      rw[kj,im];omega
    simp only[List.length_append,List.length_cons,List.length_nil]
    omega
  split
  · have a8:=JR xs hs
    have aI:(eu [32,124,32] (hi (xs.map a5.k) (cB xs))).length<=jX 3 (hi (xs.map a5.k) (cB xs)):=Eh [32,124,32] _
    omega
  · have:(word k).length<=4:=by
      unfold word;split<;>simp
    omega
theorem JS:∀l:List a5,iI l=true->xu l
 |[],_=>trivial
 |t::l,h=>by
  rw[iI,Bool.and_eq_true] at h
  exact⟨Ao t h.1,JS l h.2⟩
end
theorem RF(u:a5)(h:fe u=true):okW u=true/\(wr u).length<=300*sz u:=⟨xt u h,by have:=Ao u h;omega⟩
end dE
namespace Go.Proofs.cR
open Go aD Go.Proofs dE
set_option maxRecDepth 100000
set_option maxHeartbeats 1000000
def cL(B:Nat)(h:J)(v:I)(vs:List I):Prop:=(v=.a_/\vs=[])\/∃b off aB,v=.slice b off vs.length aB/\b<B/\(∀i (ae:i<vs.length),aq h b (off+i*1)=some vs[i])/\0<vs.length/\aB≠ .dead
mutual
def cN(B:Nat)(h:J):a5->I->Prop
 |.mk k bD aJ xs rt,v=>∃r cD bR cl vs bS bf up,v=.ptr r 0/\r<B/\h.get r=some (.cells [.int .i64 (Int.ofNat k),.str bD,cD,bR,cl] 51 bS bf up)/\cL B h cD (aJ.map .str)/\cL B h bR vs/\c6 B h xs vs/\cE B h rt cl
def c6(B:Nat)(h:J):List a5->List I->Prop
 |[],vs=>vs=[]
 |t::ts,vs=>∃v ws,vs=v::ws/\cN B h t v/\c6 B h ts ws
def cE(B:Nat)(h:J):Option a5->I->Prop
 |none,v=>v=.aR
 |some t,v=>cN B h t v
end
def dT(B:Nat)(h g:J):Prop:=∀b,b<B->g.get b=h.get b
theorem dT.ext{B C:Nat}{h g:J}(e:Ext C h g)(bO:B<=C):dT B h g:=λb af=>e.get b (by omega)
theorem cL.bH{B:Nat}{h g:J}{v:I}{vs:List I}(e:dT B h g)(hs:cL B h v vs):cL B g v vs:=by
 rcases hs with hs|⟨b,off,aB,aa,ad,ax,aO⟩
 · exact .inl hs
 · refine .inr ⟨b,off,aB,aa,ad,λi ae=>?_,aO⟩
   rw[<-ax i ae]
   unfold aq
   rw[e b ad]
theorem cL.le{B C:Nat}{h:J}{v:I}{vs:List I}(e:B<=C)(hs:cL B h v vs):cL C h v vs:=by
 rcases hs with hs|⟨b,off,aB,aa,ad,ax,aO⟩
 · exact .inl hs
 · exact .inr ⟨b,off,aB,aa,by omega,ax,aO⟩
mutual
theorem cN.bH{B:Nat}{h g:J}(e:dT B h g):∀(t:a5) (v:I),cN B h t v->cN B g t v
 |.mk k bD aJ xs rt,v,ab=>by
  obtain⟨r,cD,bR,cl,vs,bS,bf,up,aa,ad,ax,aO,bZ,dj,ek⟩:=ab
  exact⟨r,cD,bR,cl,vs,bS,bf,up,aa,ad,(e r ad).trans ax,aO.bH e,bZ.bH e,c6.bH e xs vs dj,cE.bH e rt cl ek⟩
theorem c6.bH{B:Nat}{h g:J}(e:dT B h g):∀(ts:List a5) (vs:List I),c6 B h ts vs->c6 B g ts vs
 |[],vs,ab=>ab
 |t::ts,vs,ab=>by
  obtain⟨v,ws,aa,ad,ax⟩:=ab
  exact⟨v,ws,aa,cN.bH e t v ad,c6.bH e ts ws ax⟩
theorem cE.bH{B:Nat}{h g:J}(e:dT B h g):∀(t:Option a5) (v:I),cE B h t v->cE B g t v
 |none,v,ab=>ab
 |some t,v,ab=>cN.bH e t v ab
end
mutual
theorem cN.le{B C:Nat}{h:J}(e:B<=C):∀(t:a5) (v:I),cN B h t v->cN C h t v
 |.mk k bD aJ xs rt,v,ab=>by
  obtain⟨r,cD,bR,cl,vs,bS,bf,up,aa,ad,ax,aO,bZ,dj,ek⟩:=ab
  exact⟨r,cD,bR,cl,vs,bS,bf,up,aa,by omega,ax,aO.le e,bZ.le e,c6.le e xs vs dj,cE.le e rt cl ek⟩
theorem c6.le{B C:Nat}{h:J}(e:B<=C):∀(ts:List a5) (vs:List I),c6 B h ts vs->c6 C h ts vs
 |[],vs,ab=>ab
 |t::ts,vs,ab=>by
  obtain⟨v,ws,aa,ad,ax⟩:=ab
  exact⟨v,ws,aa,cN.le e t v ad,c6.le e ts ws ax⟩
theorem cE.le{B C:Nat}{h:J}(e:B<=C):∀(t:Option a5) (v:I),cE B h t v->cE C h t v
 |none,v,ab=>ab
 |some t,v,ab=>cN.le e t v ab
end
theorem c6.len{B:Nat}{h:J}:∀{ts:List a5} {vs:List I},c6 B h ts vs->vs.length=ts.length
 |[],vs,ab=>by
  have e:vs=[]:=ab
  subst e;rfl
 |s::ts,vs,ab=>by
  obtain⟨u,ws,rfl,ad,ax⟩:=ab
  simp[c6.len ax]
theorem c6.get{B:Nat}{h:J}:∀{ts:List a5} {vs:List I},c6 B h ts vs->∀i (aa:i<vs.length) (ad:i<ts.length),cN B h ts[i] vs[i]
 |[],vs,ab,i,aa,ad=>by simp at ad
 |s::ts,vs,ab,i,aa,ad=>by
  obtain⟨u,ws,rfl,ax,aO⟩:=ab
  cases i with
  |zero=>exact ax
  |succ i=>exact c6.get aO i (by simpa using aa) (by simpa using ad)
theorem cL.snd{B:Nat}{h:J}{v:I}{vs:List I}(hs:cL B h v vs):I.sound v=true:=by
 rcases hs with⟨rfl,_⟩|⟨b,off,aB,rfl,_⟩<;>rfl
theorem cL.len{B:Nat}{h g:J}{v:I}{vs:List I}{t e:TypeId}(hu:Tryz.prog.underlying t=some (.slice e))(hs:cL B h v vs):bU Tryz.prog g t v=some (.int .i64 (Int.ofNat vs.length)):=by
 rcases hs with⟨rfl,rfl⟩|⟨b,off,aB,rfl,_⟩
 · simp only[bU,hu];rfl
 · simp only[bU,hu]
theorem cE.nZ{B:Nat}{h:J}{ot:Option a5}{v:I}(aE:cE B h ot v):v=.aR\/∃R,v=.ptr R 0:=by
 cases ot with
 |none=>exact .inl aE
 |some u=>
  cases u with
  |mk k bD aJ ys rt=>obtain⟨r,cD,bR,_,vs,bS,bf,up,rfl,_⟩:=aE;exact .inr ⟨r,rfl⟩
theorem cE.snd{B:Nat}{h:J}{ot:Option a5}{v:I}(aE:cE B h ot v):I.sound v=true:=by
 rcases aE.nZ with rfl|⟨R,rfl⟩<;>rfl
theorem cN.snd{B:Nat}{h:J}{t:a5}{v:I}(aE:cN B h t v):I.sound v=true:=cE.snd (ot:=some t) aE
theorem hC{p:Prop}(h:p:=by first|with_reducible assumption|rfl|exact cL.snd (by with_reducible assumption)|exact cL.eK (by with_reducible assumption)|exact cE.snd (by with_reducible assumption)|exact cE.eK (by with_reducible assumption)|exact cN.snd (by with_reducible assumption)|exact cN.eK (by with_reducible assumption)):p:=h
noncomputable def bT:Nat->List I->J->Option (I×J):=D7 (pM [⟨12,[],.bool true⟩,⟨139,[.str nX],.aW [.agg (jV o5),.bool true]⟩,⟨139,[.str (nX++[45,47,46])],.aW [.agg (jV jy),.bool true]⟩]) (td Tryz.prog.globals.size [] [k8])
noncomputable def Y(n:Nat):ay->List I->J->an:=fD Tryz.prog bT n
end Go.Proofs.cR
namespace Go.Proofs.cR
open Go aD Go.Proofs dE
set_option maxRecDepth 100000
set_option maxHeartbeats 1000000
theorem RG(call:ay->List I->J->an)(n:Nat)(h:J):
  av Tryz.prog Tryz.f92 none call [] (ag.mk [(0,.aR),(1,.int .i64 (.ofNat n))] [] .none h) (.ret)
   (ag.mk [(4,.int .i64 (.ofNat n))] [] .none h):=
 a1 [4] (hs:=[.v (.bool true),.b true,.b true,.b true,.b true]) (by kernel_rfl)<| .cons (by kernel_rfl:c7 Tryz.prog h BinOp.eql 47 (Operand.tmp 6) (Operand.const (Value.pointer none)) I.aR I.aR=some (I.bool true))<| .cons (by kernel_rfl:true=true)<| .cons (by kernel_rfl:true=true)<| .cons (by kernel_rfl:true=true)<| .cons (by kernel_rfl:true=true)<| .nil
theorem JT(call:ay->List I->J->an)(r n:Nat)(h:J):
  av Tryz.prog Tryz.f92 none call [0] (ag.mk [(0,.ptr r 0),(1,.int .i64 (.ofNat n))] [] .none h) (.nrm)
   (ag.mk [(0,.ptr r 0),(1,.int .i64 (.ofNat n))] [] .none h):=
 a1 [0,1] (hs:=[]) (by kernel_rfl)<| .nil
theorem RH(call:ay->List I->J->an)(r n:Nat)(h:J)
  (H1:bC (.ofNat 60) (.ofNat n)=true):
  av Tryz.prog Tryz.f92 none call [1,0] (ag.mk [(0,.ptr r 0),(1,.int .i64 (.ofNat n))] [] .none h) (.ret)
   (ag.mk [(0,.ptr r 0),(1,.int .i64 (.ofNat n)),(4,.int .i64 (.ofNat n))] [] .none h):=
 a1 [0,1,4] (hs:=[.v (.bool false),.b false,.b false,.b false,.b true]) (by kernel_rfl)<| .cons (by kernel_rfl:c7 Tryz.prog h BinOp.eql 47 (Operand.tmp 6) (Operand.const (Value.pointer none)) (I.ptr r 0) I.aR=some (I.bool false))<| .cons (by kernel_rfl:false=false)<| .cons (by kernel_rfl:false=false)<| .cons (by kernel_rfl:false=false)<| .cons H1<| .nil
theorem RI(call:ay->List I->J->an)(r n:Nat)(h:J)
  (H1:bC (.ofNat 60) (.ofNat n)=false):
  av Tryz.prog Tryz.f92 none call [1,0] (ag.mk [(0,.ptr r 0),(1,.int .i64 (.ofNat n))] [] .none h) (.nrm)
   (ag.mk [(0,.ptr r 0),(1,.int .i64 (.ofNat n))] [] .none h):=
 a1 [0,1,4] (hs:=[.v (.bool false),.b false,.b false,.b false,.b false]) (by kernel_rfl)<| .cons (by kernel_rfl:c7 Tryz.prog h BinOp.eql 47 (Operand.tmp 6) (Operand.const (Value.pointer none)) (I.ptr r 0) I.aR=some (I.bool false))<| .cons (by kernel_rfl:false=false)<| .cons (by kernel_rfl:false=false)<| .cons (by kernel_rfl:false=false)<| .cons H1<| .nil
theorem RJ(call:ay->List I->J->an)(r n k:Nat)(h:J)
  (H1:arith .add .i64 (.ofNat n) (.ofNat 1)=some (.int .i64 (.ofNat k))):
  av Tryz.prog Tryz.f92 none call [1,1,0] (ag.mk [(0,.ptr r 0),(1,.int .i64 (.ofNat n))] [] .none h) (.nrm)
   (ag.mk [(0,.ptr r 0),(1,.int .i64 (.ofNat k))] [] .none h):=
 a1 [0,1] (hs:=[.v (.int .i64 (.ofNat k))]) (by kernel_rfl)<| .cons H1<| .nil
theorem RK(call:ay->List I->J->an)(r n:Nat)(h:J):
  av Tryz.prog Tryz.f92 none call [1,1,1,0,0] (ag.mk [(0,.ptr r 0),(1,.int .i64 (.ofNat n))] [] .none h) (.nrm)
   (ag.mk [(0,.ptr r 0),(1,.int .i64 (.ofNat n)),(5,.int .i64 (.ofNat 0))] [] .none h):=
 a1 [0,1,5] (hs:=[]) (by kernel_rfl)<| .nil
theorem RL(call:ay->List I->J->an)(r n:Nat)(h:J)
  (H1:aq h r (0+3)=some .a_):
  av Tryz.prog Tryz.f92 none call [1,1,1,0,1,0,0] (ag.mk [(0,.ptr r 0),(1,.int .i64 (.ofNat n)),(5,.int .i64 (.ofNat 0))] [] .none h) (.exit 0)
   (ag.mk [(0,.ptr r 0),(1,.int .i64 (.ofNat n))] [] .none h):=
 a1 [0,1] (hs:=[.v .a_,.b false,.b false,.b false,.b false]) (by kernel_rfl)<| .cons H1<| .cons (by kernel_rfl:bC (Int.ofNat 0) (Int.ofNat 0)=false)<| .cons (by kernel_rfl:bC (Int.ofNat 0) (Int.ofNat 0)=false)<| .cons (by kernel_rfl:bC (Int.ofNat 0) (Int.ofNat 0)=false)<| .cons (by kernel_rfl:false=false)<| .nil
theorem RM(call:ay->List I->J->an)(r n b off N i q k j:Nat)(aB:b5)(x:I)(h g:J)
  (H1:aq h r (0+3)=some (.slice b off N aB))
  (az:bC (.ofNat i) (.ofNat N)=true)
  (a0:dn (.ofNat n) (.ofNat 60)=true)
  (aS:Nat.le (Nat.succ i) N/\I.ptr b q=I.ptr b (off+i*1))
  (bo:aq h b q=some x)
  (bV:call (.fn 92) [x,.int .i64 (.ofNat n)] h=an.ret (.int .i64 (.ofNat k)) g)
  (cw:arith .add .i64 (.ofNat i) (.ofNat 1)=some (.int .i64 (.ofNat j))):
  av Tryz.prog Tryz.f92 none call [1,1,1,0,1,0,0] (ag.mk [(0,.ptr r 0),(1,.int .i64 (.ofNat n)),(5,.int .i64 (.ofNat i))] [] .none h) (.nrm)
   (ag.mk [(0,.ptr r 0),(1,.int .i64 (.ofNat k)),(5,.int .i64 (.ofNat j))] [] .none g):=
 a1 [0,1,5] (hs:=[.v (.slice b off N aB),.b true,.b true,.b true,.b true,.v (.slice b off N aB),.v (.ptr b q),.v x,.c (.int .i64 (.ofNat k)) g,.v (.int .i64 (.ofNat j))]) (by kernel_rfl)<| .cons H1<| .cons az<| .cons az<| .cons az<| .cons a0<| .cons H1<| .cons aS<| .cons bo<| .cons bV<| .cons cw<| .nil
theorem RN(call:ay->List I->J->an)(r n b off N i q k j:Nat)(aB:b5)(x:I)(h g:J)
  (H1:aq h r (0+3)=some (.slice b off N aB))
  (az:bC (.ofNat i) (.ofNat N)=true)
  (a0:dn (.ofNat n) (.ofNat 60)=false):
  av Tryz.prog Tryz.f92 none call [1,1,1,0,1,0,0] (ag.mk [(0,.ptr r 0),(1,.int .i64 (.ofNat n)),(5,.int .i64 (.ofNat i))] [] .none h) (.exit 0)
   (ag.mk [(0,.ptr r 0),(1,.int .i64 (.ofNat n)),(5,.int .i64 (.ofNat i))] [] .none h):=
 a1 [0,1,5] (hs:=[.v (.slice b off N aB),.b true,.b true,.b true,.b false]) (by kernel_rfl)<| .cons H1<| .cons az<| .cons az<| .cons az<| .cons a0<| .nil
theorem RO(call:ay->List I->J->an)(r n b off N i q k j:Nat)(aB:b5)(x:I)(h g:J)
  (H1:aq h r (0+3)=some (.slice b off N aB))
  (az:bC (.ofNat i) (.ofNat N)=false):
  av Tryz.prog Tryz.f92 none call [1,1,1,0,1,0,0] (ag.mk [(0,.ptr r 0),(1,.int .i64 (.ofNat n)),(5,.int .i64 (.ofNat i))] [] .none h) (.exit 0)
   (ag.mk [(0,.ptr r 0),(1,.int .i64 (.ofNat n)),(5,.int .i64 (.ofNat i))] [] .none h):=
 a1 [0,1,5] (hs:=[.v (.slice b off N aB),.b false,.b false,.b false,.b false]) (by kernel_rfl)<| .cons H1<| .cons az<| .cons az<| .cons az<| .cons (by kernel_rfl:false=false)<| .nil
theorem RP(call:ay->List I->J->an)(r n k:Nat)(x:I)(h g:J)
  (H1:aq h r (0+4)=some x)
  (az:call (.fn 92) [x,.int .i64 (.ofNat n)] h=an.ret (.int .i64 (.ofNat k)) g):
  av Tryz.prog Tryz.f92 none call [1,1,1,1] (ag.mk [(0,.ptr r 0),(1,.int .i64 (.ofNat n))] [] .none h) (.ret)
   (ag.mk [(4,.int .i64 (.ofNat k))] [] .none g):=
 a1 [4] (hs:=[.v x,.c (.int .i64 (.ofNat k)) g]) (by kernel_rfl)<| .cons H1<| .cons az<| .nil
theorem JU(call:ay->List I->J->an)(k:Nat)(x:I)(h g:J)
  (H1:call (.fn 92) [x,.int .i64 (.ofNat 0)] h=an.ret (.int .i64 (.ofNat k)) g):
  av Tryz.prog Tryz.f79 none call [] (ag.mk [(0,x)] [] .none h) (.ret)
   (ag.mk [(2,.int .i64 (.ofNat k))] [] .none g):=
 a1 [2] (hs:=[.c (.int .i64 (.ofNat k)) g]) (by kernel_rfl)<| .cons H1<| .nil
theorem JV{B:Nat}{h:J}{xs:List a5}{vs:List I}(call:ay->List I->J->an)(r b off:Nat)(aB:b5)(aE:aq h r (0+3)=some (.slice b off vs.length aB))(ab:c6 B h xs vs)(au:∀i (ae:i<vs.length),aq h b (off+i*1)=some vs[i])(hlen:vs.length<=1000000)
  (ba:∀i (aa:i<vs.length) (ad:i<xs.length) n,n<=61->call (.fn 92) [vs[i],.int .i64 (Int.ofNat n)] h=.ret (.int .i64 (Int.ofNat (min (n+sz xs[i]) 61))) h):∀(k i n:Nat),vs.length-i=k->i<=vs.length->n<=61->
  dH Tryz.prog Tryz.f92 none call [1,1,1,0,1,0] (k+1) ⟨[(0,.ptr r 0),(1,.int .i64 (Int.ofNat n)),(5,.int .i64 (Int.ofNat i))],[],.none,h⟩ (.exit 0) ⟨[(0,.ptr r 0),(1,.int .i64 (Int.ofNat (min (n+fc (xs.drop i)) 61)))],[],.none,h⟩
 |0,i,n,aw,ae,aK=>by
  have e3:=c6.len ab
  obtain rfl:i=vs.length:=by omega
  rw[List.drop_of_length_le (by omega)]
  have e:min (n+fc []) 61=n:=by show min (n+0) 61=n;omega
  rw[e]
  exact .exit (ck.post (RO call r n b off vs.length _ 0 0 0 aB .aR h h aE (eh (by omega))) ⟨rfl,rfl,trivial⟩) (by simp)
 |k+1,i,n,aw,ae,aK=>by
  have e3:=c6.len ab
  have aa:i<vs.length:=by omega
  have ad:i<xs.length:=by omega
  rw[List.drop_eq_getElem_cons ad]
  by_cases n0:n<=60
  · have st:=RM call r n b off vs.length i (off+i*1) (min (n+sz xs[i]) 61) (i+1) aB vs[i] h h aE (ds aa) (iV (by omega)) ⟨aa,rfl⟩ (au i aa) (ba i aa ad n aK) (ij aa (by omega))
    have e:min (n+fc (xs[i]::xs.drop (i+1))) 61=min (min (n+sz xs[i]) 61+fc (xs.drop (i+1))) 61:=by
     show min (n+(sz xs[i]+fc (xs.drop (i+1)))) 61=_
     omega
    rw[e]
    exact .step st (JV call r b off aB aE ab au hlen ba k (i+1) _ (by omega) (by omega) (by omega))
  · have e:min (n+fc (xs[i]::xs.drop (i+1))) 61=n:=by omega
    rw[e]
    exact .exit (ck.post (RN call r n b off vs.length i 0 0 0 aB .aR h h aE (ds aa) (js (by omega))) ⟨rfl,rfl,trivial⟩) (by simp)
theorem JW(m n:Nat)(h:J):Y (m+1) (.fn 92) [.aR,.int .i64 (Int.ofNat n)] h=.ret (.int .i64 (Int.ofNat n)) h:=
 dJ (intr:=bT) (n:=m) (args:=[.aR,.int .i64 (Int.ofNat n)]) Tryz.func92 (by kernel_rfl) rfl (by kernel_rfl) (RG (Y m) n h) (.inl rfl) (by kernel_rfl)
theorem Ei:∀(N:Nat) (t:a5),sz t<=N->sz t<=90000->∀(B:Nat) (h:J) (v:I) (m n:Nat),sz t<m->n<=61->cN B h t v->Y m (.fn 92) [v,.int .i64 (Int.ofNat n)] h=.ret (.int .i64 (Int.ofNat (min (n+sz t) 61))) h
 |0,t,gJ,_,_,_,_,_,_,_,_,_=>by have:=nV t;omega
 |N+1,.mk k bD aJ xs rt,gJ,uj,B,h,v,m,n,hm,aK,aE=>by
  obtain⟨r,cD,bR,cl,vs,bS,bf,up,rfl,ad,ax,aO,bZ,dj,ek⟩:=aE
  have hs:sz (.mk k bD aJ xs rt)=1+fc xs+c8 rt:=by unfold sz;rfl
  rw[hs] at gJ hm uj⊢
  obtain⟨m,rfl⟩:∃j,m=j+1:=⟨m-1,by omega⟩
  have e3:=c6.len dj
  have kT:=nW xs
  by_cases n0:n<=60
  · have gi:=JT (Y m) r n h
    have s1:=RI (Y m) r n h (eh (by omega))
    have s2:=RJ (Y m) r n (n+1) h (ij (m:=100000) (by omega) (by decide))
    have bE:=RK (Y m) r (n+1) h
    have ba:∀i (aa:i<vs.length) (ad:i<xs.length) n,n<=61->Y m (.fn 92) [vs[i],.int .i64 (Int.ofNat n)] h=.ret (.int .i64 (Int.ofNat (min (n+sz xs[i]) 61))) h:=λi aa ad n aK=>by
     have lD:=ki (List.getElem_mem ad)
     exact Ei N xs[i] (by omega) (by omega) B h vs[i] m n (by omega) aK (c6.get dj i aa ad)
    have gD:aq h r (0+3)=some bR:=aH ax rfl
    have loop:av Tryz.prog Tryz.f92 none (Y m) [1,1,1,0,1,0] ⟨[(0,.ptr r 0),(1,.int .i64 (Int.ofNat (n+1))),(5,.int .i64 (Int.ofNat 0))],[],.none,h⟩ (.exit 0) ⟨[(0,.ptr r 0),(1,.int .i64 (Int.ofNat (min (n+1+fc xs) 61)))],[],.none,h⟩:=by
     rcases bZ with⟨rfl,rfl⟩|⟨b,off,aB,rfl,af,au,_⟩
     · have kX:xs=[]:=List.eq_nil_of_length_eq_zero (by simpa using e3.symm)
       subst kX
       have e:min (n+1+fc []) 61=n+1:=by show min (n+1+0) 61=n+1;omega
       rw[e]
       exact dH.run (p:=[1,1,1,0,1,0]) (n:=1) (by kernel_rfl) (.exit (RL (Y m) r (n+1) h gD) (by simp)) (by omega)
     · have:=JV (Y m) r b off aB gD dj au (by omega) ba vs.length 0 (n+1) (by omega) (by omega) (by omega)
       rw[List.drop_zero] at this
       exact dH.run (p:=[1,1,1,0,1,0]) (by kernel_rfl) this (by omega)
    have RQ:=av.block (p:=[1,1,1,0,1]) (id:=0) (by kernel_rfl) loop
    have wF:Y m (.fn 92) [cl,.int .i64 (Int.ofNat (min (n+1+fc xs) 61))] h=.ret (.int .i64 (Int.ofNat (min (n+(1+fc xs+c8 rt)) 61))) h:=by
     cases rt with
     |none=>
      have e:cl=.aR:=ek
      subst e
      obtain⟨m,rfl⟩:∃j,m=j+1:=⟨m-1,by omega⟩
      have e:min (n+(1+fc xs+c8 none)) 61=min (n+1+fc xs) 61:=by show min (n+(1+fc xs+0)) 61=_;omega
      rw[e]
      exact JW m _ h
     |some u=>
      have e8:c8 (some u)=sz u:=by unfold c8;rfl
      rw[e8] at gJ hm uj⊢
      rw[Ei N u (by omega) (by omega) B h cl m _ (by omega) (by omega) ek]
      congr 3
      omega
    have bX:=RP (Y m) r (min (n+1+fc xs) 61) (min (n+(1+fc xs+c8 rt)) 61) cl h h (aH ax rfl) wF
    exact dJ (intr:=bT) (n:=m) (args:=[.ptr r 0,.int .i64 (Int.ofNat n)]) Tryz.func92 (by kernel_rfl) rfl (by kernel_rfl) (av.seq (p:=[]) (by kernel_rfl) gi (av.seq (p:=[1]) (by kernel_rfl) s1 (av.seq (p:=[1,1]) (by kernel_rfl) s2 (av.seq (p:=[1,1,1]) (by kernel_rfl) (av.seq (p:=[1,1,1,0]) (by kernel_rfl) bE RQ) bX)))) (.inl rfl) (by kernel_rfl)
  · have gi:=JT (Y m) r n h
    have e:min (n+(1+fc xs+c8 rt)) 61=n:=by omega
    rw[e]
    have s1:=RH (Y m) r n h (ds (by omega))
    exact dJ (intr:=bT) (n:=m) (args:=[.ptr r 0,.int .i64 (Int.ofNat n)]) Tryz.func92 (by kernel_rfl) rfl (by kernel_rfl) (av.seq (p:=[]) (by kernel_rfl) gi (av.e_ (p:=[1]) (by kernel_rfl) s1 (by simp))) (.inl rfl) (by kernel_rfl)
theorem RR{t:a5}{B:Nat}{h:J}{v:I}{m:Nat}(af:sz t<=90000)(hm:sz t<m)(aE:cN B h t v):Y (m+1) (.fn 79) [v] h=.ret (.int .i64 (Int.ofNat (min (sz t) 61))) h:=by
 have e:=Ei (sz t) t (Nat.le_refl _) af B h v m 0 hm (by decide) aE
 rw[Nat.zero_add] at e
 exact dJ (intr:=bT) (n:=m) (args:=[v]) Tryz.func79 (by kernel_rfl) rfl (by kernel_rfl) (JU (Y m) _ v h h e) (.inl rfl) (by kernel_rfl)
end Go.Proofs.cR
namespace Go.Proofs.cR
open Go aD Go.Proofs dE
set_option maxRecDepth 100000
set_option maxHeartbeats 1000000
theorem RS(call:ay->List I->J->an)(v:I)(h:J):
  av Tryz.prog Tryz.f70 none call [0] (ag.mk [(0,v)] [] .none h) (.nrm)
   (ag.mk [(0,v)] [] .none h):=
 a1 [0] (hs:=[]) (by kernel_rfl)<| .nil
theorem RT(call:ay->List I->J->an)(v:I)(h g:J)
  (H1:aD.storeCells (J.push h (.cells [.int .i64 (.ofNat 0)] 3 .own 0 0)) (J.n h) 0 [.int .i64 (.ofNat 0)]=some g):
  av Tryz.prog Tryz.f70 none call [1,0] (ag.mk [(0,v)] [] .none h) (.nrm)
   (ag.mk [(0,v),(3,.ptr (J.n h) 0)] [] .none g):=
 a1 [0,3] (hs:=[.ih (.aW []) g]) (by kernel_rfl)<| .cons (⟨by kernel_rfl,H1,rfl⟩:some 1=some 1/\aD.storeCells (J.push h (cx.cells [I.int IntKind.i64 (Int.ofNat 0)] 3 eC.own 0 0)) (J.n h) 0 [I.int IntKind.i64 (Int.ofNat 0)]=some g/\I.aW []=I.aW [])<| .nil
theorem RU(call:ay->List I->J->an)(v w:I)(a:Nat)(h g:J)
  (H1:call (.fn 86) [v] h=an.ret w g):
  av Tryz.prog Tryz.f70 none call [1,1,0,0] (ag.mk [(0,v),(3,.ptr a 0)] [] .none h) (.nrm)
   (ag.mk [(3,.ptr a 0),(5,w)] [] .none g):=
 a1 [3,5] (hs:=[.c w g]) (by kernel_rfl)<| .cons H1<| .nil
theorem RV(call:ay->List I->J->an)(l a i j:Nat)(h g:J)
  (H1:aq h a 0=some (.int .i64 (.ofNat i)))
  (az:arith .add .i64 (.ofNat i) (.ofNat 1)=some (.int .i64 (.ofNat j)))
  (a0:aD.storeCells h a 0 [.int .i64 (.ofNat j)]=some g)
  (aS:aq g a 0=some (.int .i64 (.ofNat j)))
  (bo:bC (.ofNat 60) (.ofNat j)=true):
  av Tryz.prog Tryz.f70 (some l) call [1,1,0,1,0,1] (ag.mk [(3,.ptr a 0)] [] .none h) (.exit 0)
   (ag.mk [(3,.ptr a 0)] [] .none g):=
 a1 [3] (hs:=[.v (.int .i64 (.ofNat i)),.v (.int .i64 (.ofNat j)),.ih (.aW []) g,.v (.int .i64 (.ofNat j)),.b true]) (by kernel_rfl)<| .cons H1<| .cons az<| .cons (⟨by kernel_rfl,a0,rfl⟩:some 1=some 1/\aD.storeCells h a 0 [I.int IntKind.i64 (Int.ofNat j)]=some g/\I.aW []=I.aW [])<| .cons aS<| .cons bo<| .nil
theorem RW(call:ay->List I->J->an)(l a i j:Nat)(h g:J)
  (H1:aq h a 0=some (.int .i64 (.ofNat i)))
  (az:arith .add .i64 (.ofNat i) (.ofNat 1)=some (.int .i64 (.ofNat j)))
  (a0:aD.storeCells h a 0 [.int .i64 (.ofNat j)]=some g)
  (aS:aq g a 0=some (.int .i64 (.ofNat j)))
  (bo:bC (.ofNat 60) (.ofNat j)=false):
  av Tryz.prog Tryz.f70 (some l) call [1,1,0,1,0,1] (ag.mk [(3,.ptr a 0)] [] .none h) (.nrm)
   (ag.mk [(3,.ptr a 0)] [] .none g):=
 a1 [3] (hs:=[.v (.int .i64 (.ofNat i)),.v (.int .i64 (.ofNat j)),.ih (.aW []) g,.v (.int .i64 (.ofNat j)),.b false]) (by kernel_rfl)<| .cons H1<| .cons az<| .cons (⟨by kernel_rfl,a0,rfl⟩:some 1=some 1/\aD.storeCells h a 0 [I.int IntKind.i64 (Int.ofNat j)]=some g/\I.aW []=I.aW [])<| .cons aS<| .cons bo<| .nil
theorem RX(call:ay->List I->J->an)(a j ee:Nat)(h:J)
  (H1:aq h a 0=some (.int .i64 (.ofNat j))):
  av Tryz.prog Tryz.f70 none call [1,1,1] (ag.mk [(3,.ptr a 0)] [.collected ee] .none h) (.ret)
   (ag.mk [(2,.int .i64 (.ofNat j))] [.collected ee] .none h):=
 a1 [2] (hs:=[.v (.int .i64 (.ofNat j))]) (by kernel_rfl)<| .cons H1<| .nil
theorem RY(call:ay->List I->J->an)(r:Nat)(h:J):
  av Tryz.prog Tryz.f86 none call [] (ag.mk [(0,.ptr r 0)] [] .none h) (.ret)
   (ag.mk [(2,.fn 99 [] [.ptr (J.n h) 0])] [] .none (J.push h (.cells [.ptr r 0] 47 .own 0 0))):=
 a1 [2] (hs:=[]) (by kernel_rfl)<| .nil
theorem RZ(call:ay->List I->J->an)(h:J):
  av Tryz.prog Tryz.f86 none call [] (ag.mk [(0,.aR)] [] .none h) (.ret)
   (ag.mk [(2,.fn 99 [] [.ptr (J.n h) 0])] [] .none (J.push h (.cells [.aR] 47 .own 0 0))):=
 a1 [2] (hs:=[]) (by kernel_rfl)<| .nil
theorem R0(call:ay->List I->J->an)(l a:Nat)(v w:I)(h aa ad:J)
  (H1:aD.storeCells (J.push (J.push h (.cells [.cc l] 139 .own 0 0)) (.cells [.fi] 139 .own 0 0)) (J.n (J.push h (.cells [.cc l] 139 .own 0 0))) 0 [.fn 100 [] [.ptr (J.n h) 0,.ptr (J.n (J.push h (.cells [.cc l] 139 .own 0 0))) 0]]=some aa)
  (az:aq aa (J.n (J.push h (.cells [.cc l] 139 .own 0 0))) 0=some (.fn 100 [] [.ptr (J.n h) 0,.ptr (J.n h+1) 0]))
  (a0:aq aa a 0=some v)
  (aS:call (.fn 100) [v,.ptr (J.n h) 0,.ptr (J.n h+1) 0] aa=an.ret w ad):
  av Tryz.prog Tryz.f99 none call [] (ag.mk [(0,.cc l),(1,.ptr a 0)] [] .none h) (.nrm)
   (ag.mk [] [] .none ad):=
 a1 [] (hs:=[.ih (.aW []) aa,.v (.fn 100 [] [.ptr (J.n h) 0,.ptr (J.n h+1) 0]),.v v,.c w ad]) (by kernel_rfl)<| .cons (⟨by kernel_rfl,H1,rfl⟩:some 1=some 1/\aD.storeCells (J.push (J.push h (cx.cells [I.cc l] 139 eC.own 0 0)) (cx.cells [I.fi] 139 eC.own 0 0)) (J.n (J.push h (cx.cells [I.cc l] 139 eC.own 0 0))) 0 [I.fn 100 [] [I.ptr (J.n h) 0,I.ptr (J.n (J.push h (cx.cells [I.cc l] 139 eC.own 0 0))) 0]]=some aa/\I.aW []=I.aW [])<| .cons az<| .cons a0<| .cons aS<| .nil
theorem R1(call:ay->List I->J->an)(y z:Nat)(h:J):
  av Tryz.prog Tryz.f100 none call [] (ag.mk [(0,.aR),(1,.ptr y 0),(2,.ptr z 0)] [] .none h) (.ret)
   (ag.mk [(4,.bool true)] [] .none h):=
 a1 [4] (hs:=[.v (.bool true),.b true]) (by kernel_rfl)<| .cons (by kernel_rfl:c7 Tryz.prog h BinOp.eql 47 (Operand.tmp 7) (Operand.const (Value.pointer none)) I.aR I.aR=some (I.bool true))<| .cons (by kernel_rfl:true=true)<| .nil
theorem R2(call:ay->List I->J->an)(r y z:Nat)(h:J):
  av Tryz.prog Tryz.f100 none call [0] (ag.mk [(0,.ptr r 0),(1,.ptr y 0),(2,.ptr z 0)] [] .none h) (.nrm)
   (ag.mk [(0,.ptr r 0),(1,.ptr y 0),(2,.ptr z 0)] [] .none h):=
 a1 [0,1,2] (hs:=[]) (by kernel_rfl)<| .nil
theorem R3(call:ay->List I->J->an)(r y z:Nat)(h:J):
  av Tryz.prog Tryz.f100 none call [1,0] (ag.mk [(0,.ptr r 0),(1,.ptr y 0),(2,.ptr z 0)] [] .none h) (.nrm)
   (ag.mk [(0,.ptr r 0),(1,.ptr y 0),(2,.ptr z 0)] [] .none h):=
 a1 [0,1,2] (hs:=[.v (.bool false),.b false]) (by kernel_rfl)<| .cons (by kernel_rfl:c7 Tryz.prog h BinOp.eql 47 (Operand.tmp 7) (Operand.const (Value.pointer none)) (I.ptr r 0) I.aR=some (I.bool false))<| .cons (by kernel_rfl:false=false)<| .nil
theorem R4(call:ay->List I->J->an)(r y z l:Nat)(h g:J)
  (H1:aq h y 0=some (.cc l))
  (az:call (.cc l) [.ptr r 0] h=an.ret (.bool true) g):
  av Tryz.prog Tryz.f100 none call [1,1,0] (ag.mk [(0,.ptr r 0),(1,.ptr y 0),(2,.ptr z 0)] [] .none h) (.nrm)
   (ag.mk [(0,.ptr r 0),(1,.ptr y 0),(2,.ptr z 0)] [] .none g):=
 a1 [0,1,2] (hs:=[.v (.cc l),.c (.bool true) g,.b false]) (by kernel_rfl)<| .cons H1<| .cons az<| .cons (by kernel_rfl:(!true)=false)<| .nil
theorem R5(call:ay->List I->J->an)(r y z l:Nat)(h g:J)
  (H1:aq h y 0=some (.cc l))
  (az:call (.cc l) [.ptr r 0] h=an.ret (.bool false) g):
  av Tryz.prog Tryz.f100 none call [1,1,0] (ag.mk [(0,.ptr r 0),(1,.ptr y 0),(2,.ptr z 0)] [] .none h) (.ret)
   (ag.mk [(4,.bool false)] [] .none g):=
 a1 [4] (hs:=[.v (.cc l),.c (.bool false) g,.b true]) (by kernel_rfl)<| .cons H1<| .cons az<| .cons (by kernel_rfl:(!false)=true)<| .nil
theorem R6(call:ay->List I->J->an)(r y z b off N:Nat)(aB:b5)(h:J)
  (H1:aq h r (0+3)=some (.slice b off N aB)):
  av Tryz.prog Tryz.f100 none call [1,1,1,0,0] (ag.mk [(0,.ptr r 0),(1,.ptr y 0),(2,.ptr z 0)] [] .none h) (.nrm)
   (ag.mk [(0,.ptr r 0),(1,.ptr y 0),(2,.ptr z 0),(16,.slice b off N aB),(17,.int .i64 (.ofNat N)),(18,.int .i64 (.ofNat 0))] [] .none h):=
 a1 [0,1,2,16,17,18] (hs:=[.v (.slice b off N aB)]) (by kernel_rfl)<| .cons H1<| .nil
theorem R7(call:ay->List I->J->an)(r y z:Nat)(h:J)
  (H1:aq h r (0+3)=some .a_):
  av Tryz.prog Tryz.f100 none call [1,1,1,0,0] (ag.mk [(0,.ptr r 0),(1,.ptr y 0),(2,.ptr z 0)] [] .none h) (.nrm)
   (ag.mk [(0,.ptr r 0),(1,.ptr y 0),(2,.ptr z 0),(16,.a_),(17,.int .i64 (.ofNat 0)),(18,.int .i64 (.ofNat 0))] [] .none h):=
 a1 [0,1,2,16,17,18] (hs:=[.v .a_]) (by kernel_rfl)<| .cons H1<| .nil
theorem JX(call:ay->List I->J->an)(r y z N i:Nat)(v:I)(h:J)
  (H1:bC (.ofNat i) (.ofNat N)=false):
  av Tryz.prog Tryz.f100 none call [1,1,1,0,1,0,0] (ag.mk [(0,.ptr r 0),(1,.ptr y 0),(2,.ptr z 0),(16,v),(17,.int .i64 (.ofNat N)),(18,.int .i64 (.ofNat i))] [] .none h) (.exit 0)
   (ag.mk [(0,.ptr r 0),(1,.ptr y 0),(2,.ptr z 0)] [] .none h):=
 a1 [0,1,2] (hs:=[.b false]) (by kernel_rfl)<| .cons H1<| .nil
theorem R8(call:ay->List I->J->an)(r y z b off N i q j:Nat)(aB:b5)(x:I)(h g:J)
  (H1:bC (.ofNat i) (.ofNat N)=true)
  (az:Nat.le (Nat.succ i) N/\I.ptr b q=I.ptr b (off+i*1))
  (a0:aq h b q=some x)
  (aS:aq h z 0=some (.fn 100 [] [.ptr y 0,.ptr z 0]))
  (bo:call (.fn 100) [x,.ptr y 0,.ptr z 0] h=an.ret (.bool true) g)
  (bV:arith .add .i64 (.ofNat i) (.ofNat 1)=some (.int .i64 (.ofNat j))):
  av Tryz.prog Tryz.f100 none call [1,1,1,0,1,0,0] (ag.mk [(0,.ptr r 0),(1,.ptr y 0),(2,.ptr z 0),(16,.slice b off N aB),(17,.int .i64 (.ofNat N)),(18,.int .i64 (.ofNat i))] [] .none h) (.nrm)
   (ag.mk [(0,.ptr r 0),(1,.ptr y 0),(2,.ptr z 0),(16,.slice b off N aB),(17,.int .i64 (.ofNat N)),(18,.int .i64 (.ofNat j))] [] .none g):=
 a1 [0,1,2,16,17,18] (hs:=[.b true,.v (.ptr b q),.v x,.v (.fn 100 [] [.ptr y 0,.ptr z 0]),.c (.bool true) g,.b false,.v (.int .i64 (.ofNat j))]) (by kernel_rfl)<| .cons H1<| .cons az<| .cons a0<| .cons aS<| .cons bo<| .cons (by kernel_rfl:(!true)=false)<| .cons bV<| .nil
theorem R9(call:ay->List I->J->an)(r y z b off N i q:Nat)(aB:b5)(x:I)(h g:J)
  (H1:bC (.ofNat i) (.ofNat N)=true)
  (az:Nat.le (Nat.succ i) N/\I.ptr b q=I.ptr b (off+i*1))
  (a0:aq h b q=some x)
  (aS:aq h z 0=some (.fn 100 [] [.ptr y 0,.ptr z 0]))
  (bo:call (.fn 100) [x,.ptr y 0,.ptr z 0] h=an.ret (.bool false) g):
  av Tryz.prog Tryz.f100 none call [1,1,1,0,1,0,0] (ag.mk [(0,.ptr r 0),(1,.ptr y 0),(2,.ptr z 0),(16,.slice b off N aB),(17,.int .i64 (.ofNat N)),(18,.int .i64 (.ofNat i))] [] .none h) (.ret)
   (ag.mk [(4,.bool false)] [] .none g):=
 a1 [4] (hs:=[.b true,.v (.ptr b q),.v x,.v (.fn 100 [] [.ptr y 0,.ptr z 0]),.c (.bool false) g,.b true]) (by kernel_rfl)<| .cons H1<| .cons az<| .cons a0<| .cons aS<| .cons bo<| .cons (by kernel_rfl:(!false)=true)<| .nil
theorem R_(call:ay->List I->J->an)(r y z:Nat)(x v:I)(h g:J)
  (H1:aq (J.room h 7) z 0=some (.fn 100 [] [.ptr y 0,.ptr z 0]))
  (az:aq (J.room h 7) r (0+4)=some x)
  (a0:call (.fn 100) [x,.ptr y 0,.ptr z 0] (J.room h 7)=an.ret v g)
  (aS:I.sound x=true:=by first|with_reducible assumption|rfl|exact cL.snd (by with_reducible assumption)|exact cL.eK (by with_reducible assumption)|exact cE.snd (by with_reducible assumption)|exact cE.eK (by with_reducible assumption)|exact cN.snd (by with_reducible assumption)|exact cN.eK (by with_reducible assumption))
  (bo:I.sound v=true:=by first|with_reducible assumption|rfl|exact cL.snd (by with_reducible assumption)|exact cL.eK (by with_reducible assumption)|exact cE.snd (by with_reducible assumption)|exact cE.eK (by with_reducible assumption)|exact cN.snd (by with_reducible assumption)|exact cN.eK (by with_reducible assumption)):
  av Tryz.prog Tryz.f100 none call [1,1,1,1] (ag.mk [(0,.ptr r 0),(1,.ptr y 0),(2,.ptr z 0)] [] .none h) (.ret)
   (ag.mk [(4,v)] [] .none g):=
 a1 [4] (hs:=[.v (.fn 100 [] [.ptr y 0,.ptr z 0]),.v x,.c v g]) (by kernel_rfl)<| .cons H1<| .cons az<| .cons a0<| .cons (by kernel_rfl:I.sound (I.fn 100 [] [I.ptr y 0,I.ptr z 0])=true)<| .cons H1<| .cons (by kernel_rfl:I.sound (I.ptr r 0)=true)<| .cons (by kernel_rfl:I.ptr r 0=I.ptr r 0)<| .cons (by kernel_rfl:I.sound (I.ptr r 0)=true)<| .cons (by kernel_rfl:I.ptr r 0=I.ptr r 0)<| .cons (by kernel_rfl:I.sound (I.ptr r (0+4))=true)<| .cons (by kernel_rfl:I.ptr r (0+4)=I.ptr r (0+4))<| .cons aS<| .cons az<| .cons bo<| .cons (by kernel_rfl:v=v)<| .nil
noncomputable def Ej:Code:=sub (fX Tryz.f70) [1,1,0,1,0,0]
noncomputable def Sa:Code:=sub (fX Tryz.f70) [1,1,0,1,0,1]
theorem Sb:Ej=.skip:=by kernel_rfl
noncomputable abbrev uU(s:LoopState)(p:Option Code)(r:aT)(N:Nat):cx:=.loop s p (d_ Tryz.f70) r [6] Ej Sa (N+2)
structure p2(N:Nat)(h:J)(r:aT)(c:Nat)(x:J):Prop where
 xv:x.get N=some (.cells [.int .i64 (Int.ofNat c)] 3 .own 0 0)
 jG:x.get (N+2)=some (.defrd (some []))
 p3:x.get (N+3)=some (uU .ready none r N)
 cc:x.get (N+4)=some (.cells [.cc (N+3)] 139 .own 0 0)
 uV:x.get (N+5)=some (.cells [.fn 100 [] [.ptr (N+4) 0,.ptr (N+5) 0]] 139 .own 0 0)
 ext:Ext N h x
structure JY(N:Nat)(h:J)(r:aT)(x:J):Prop where
 xv:x.get N=some (.cells [.int .i64 (Int.ofNat 61)] 3 .own 0 0)
 jG:x.get (N+2)=some (.defrd (some []))
 p3:x.get (N+3)=some (uU .done (some (.exit 0)) r N)
 ext:Ext N h x
theorem p2.room{N:Nat}{h:J}{r:aT}{c:Nat}{x:J}(ae:p2 N h r c x)(k:Nat):p2 N h r c (x.room k):=⟨ae.xv,ae.jG,ae.p3,ae.cc,ae.uV,ae.ext.ht⟩
theorem Sc(m:Nat){N:Nat}{h:J}{r:aT}{c:Nat}{x:J}(ai:aD.Mod r [(3,.ptr N 0)])(ae:p2 N h r c x)(ah:c<=60)(v:I):
  ∃b y,Y (m+1) (.cc (N+3)) [v] x=.ret (.bool b) y/\((b=true/\c+1<=60/\p2 N h r (c+1) y)\/(b=false/\60<c+1/\JY N h r y)):=by
 have bg:Y (m+1) (.cc (N+3)) [v] x=ow Tryz.prog (Y m) (N+3) [v] x:=rfl
 rw[bg]
 have a2:∀q,ck Tryz.prog (d_ Tryz.f70) (some (N+3)) (Y m) Ej ⟨put 6 v [(3,.ptr N 0)],[],q,x⟩ .nrm ⟨[(3,.ptr N 0)],[],q,x⟩:=λq r' hm=>by
  rw[Sb]
  exact⟨r',rfl,hm.sub ⟨rfl,trivial⟩⟩
 have e9:(x.set (N+3) (some (uU .busy none r N))).get N=some (.cells [.int .i64 (Int.ofNat c)] 3 .own 0 0):=by
  rw[J.b_,if_neg (by omega)];exact ae.xv
 by_cases n0:c+1<=60
 · have af:=RW (Y m) (N+3) N c (c+1) _ _ (lK e9) (ij (m:=100) (by omega) (by decide)) (zW (y:=.int .i64 (Int.ofNat (c+1))) rfl e9) (lK (t:=3) (by rw[J.b_,if_pos rfl])) (eh (by omega))
   have e:=IK ae.p3 ai (a2 _) af (by rw[J.b_,if_neg (by omega),J.b_,if_pos rfl])
   rw[e]
   refine⟨true,_,rfl,.inl ⟨rfl,n0,?_,?_,?_,?_,?_,?_⟩⟩
   · simp only[J.b_];rw[if_neg (by omega),if_pos trivial]
   · simp only[J.b_];rw[if_neg (by omega),if_neg (by omega),if_neg (by omega)];exact ae.jG
   · simp only[J.b_];rw[if_pos trivial]
   · simp only[J.b_];rw[if_neg (by omega),if_neg (by omega),if_neg (by omega)];exact ae.cc
   · simp only[J.b_];rw[if_neg (by omega),if_neg (by omega),if_neg (by omega)];exact ae.uV
   · exact((ae.ext.hA (by omega)).hA (by omega)).hA (by omega)
 · have af:=RV (Y m) (N+3) N c (c+1) _ _ (lK e9) (ij (m:=100) (by omega) (by decide)) (zW (y:=.int .i64 (Int.ofNat (c+1))) rfl e9) (lK (t:=3) (by rw[J.b_,if_pos rfl])) (ds (by omega))
   have e:=IK ae.p3 ai (a2 _) af (by rw[J.b_,if_neg (by omega),J.b_,if_pos rfl])
   rw[e]
   have wu:c+1=61:=by omega
   refine⟨false,_,rfl,.inr ⟨rfl,by omega,?_,?_,?_,?_⟩⟩
   · simp only[J.b_];rw[if_neg (by omega),if_pos trivial,wu]
   · simp only[J.b_];rw[if_neg (by omega),if_neg (by omega),if_neg (by omega)];exact ae.jG
   · simp only[J.b_];rw[if_pos trivial]
   · exact((ae.ext.hA (by omega)).hA (by omega)).hA (by omega)
def th(N:Nat)(h:J)(r:aT)(c s:Nat)(b:Bool)(y:J):Prop:=(b=true/\c+s<=60/\p2 N h r (c+s) y)\/(b=false/\60<c+s/\JY N h r y)
def Ek(m:Nat)(N:Nat)(h:J)(r:aT)(B:Nat)(ot:Option a5):Prop:=∀(v:I) (c:Nat) (x:J),c<=60->cE B h ot v->p2 N h r c x->∃b y,Y m (.fn 100) [v,.ptr (N+4) 0,.ptr (N+5) 0] x=.ret (.bool b) y/\th N h r c (c8 ot) b y
theorem JZ{m N B R b off:Nat}{h:J}{r:aT}{xs:List a5}{vs:List I}(aB:b5)(bO:B<=N)(af:b<B)(ab:c6 B h xs vs)(au:∀i (ae:i<vs.length),aq h b (off+i*1)=some vs[i])(hlen:vs.length<=1000000)
  (ba:∀i (ad:i<xs.length),Ek m N h r B (some xs[i])):∀(k i c:Nat) (x:J),vs.length-i=k->i<=vs.length->c<=60->p2 N h r c x->
  ∃e Γ y,dH Tryz.prog Tryz.f100 none (Y m) [1,1,1,0,1,0] (k+1) ⟨[(0,.ptr R 0),(1,.ptr (N+4) 0),(2,.ptr (N+5) 0),(16,.slice b off vs.length aB),(17,.int .i64 (Int.ofNat vs.length)),(18,.int .i64 (Int.ofNat i))],[],.none,x⟩ e ⟨Γ,[],.none,y⟩/\
   ((e=.exit 0/\Γ=[(0,.ptr R 0),(1,.ptr (N+4) 0),(2,.ptr (N+5) 0)]/\th N h r c (fc (xs.drop i)) true y)\/(e=.ret/\Γ=[(4,.bool false)]/\th N h r c (fc (xs.drop i)) false y))
 |0,i,c,x,aw,ae,ah,ni=>by
  have e3:=c6.len ab
  obtain rfl:i=vs.length:=by omega
  rw[List.drop_of_length_le (by omega)]
  exact⟨_,_,_,.exit (JX (Y m) R (N+4) (N+5) _ _ _ x (eh (by omega))) (by simp),.inl ⟨rfl,rfl,.inl ⟨rfl,ah,ni⟩⟩⟩
 |k+1,i,c,x,aw,ae,ah,ni=>by
  have e3:=c6.len ab
  have aa:i<vs.length:=by omega
  have ad:i<xs.length:=by omega
  have aG:fc (xs.drop i)=sz xs[i]+fc (xs.drop (i+1)):=by
   rw[List.drop_eq_getElem_cons ad];rfl
  have gD:aq x b (off+i*1)=some vs[i]:=by
   rw[<-au i aa]
   unfold aq
   rw[ni.ext.get b (by omega)]
  obtain⟨da,y,aA,aC⟩:=ba i ad vs[i] c x ah (c6.get ab i aa ad) ni
  have e8:c8 (some xs[i])=sz xs[i]:=by unfold c8;rfl
  rw[e8] at aC
  rcases aC with⟨rfl,bN,eW⟩|⟨rfl,bN,eW⟩
  · have st:=R8 (Y m) R (N+4) (N+5) b off vs.length i (off+i*1) (i+1) aB vs[i] x y (ds aa) ⟨aa,rfl⟩ gD (lK ni.uV) aA (ij aa (by omega))
    obtain⟨e,Γ,z,bp,bB⟩:=JZ (R:=R) aB bO af ab au hlen ba k (i+1) (c+sz xs[i]) y (by omega) (by omega) bN eW
    refine⟨e,Γ,z,.step st bp,?_⟩
    unfold th at bB⊢
    rw[aG,<-Nat.add_assoc]
    exact bB
  · have st:=R9 (Y m) R (N+4) (N+5) b off vs.length i (off+i*1) aB vs[i] x y (ds aa) ⟨aa,rfl⟩ gD (lK ni.uV) aA
    exact⟨_,_,_,.exit st (by simp),.inr ⟨rfl,rfl,.inr ⟨rfl,by omega,eW⟩⟩⟩
theorem El{N B:Nat}{h:J}{r:aT}(ai:aD.Mod r [(3,.ptr N 0)])(bO:B<=N):∀(K:Nat) (ot:Option a5),c8 ot<=K->c8 ot<=90000->∀m,c8 ot+3<=m->Ek m N h r B ot
 |K,none,_,_,m,hm=>λv c x ah aE ni=>by
  obtain rfl:v=.aR:=aE
  obtain⟨m,rfl⟩:∃j,m=j+1:=⟨m-1,by omega⟩
  exact⟨true,x,dJ (intr:=bT) (n:=m) (args:=[.aR,.ptr (N+4) 0,.ptr (N+5) 0]) Tryz.func100 (by kernel_rfl) rfl (by kernel_rfl) (R1 (Y m) (N+4) (N+5) x) (.inl rfl) (by kernel_rfl),.inl ⟨rfl,ah,ni⟩⟩
 |0,some t,dq,_,m,hm=>by
  have e8:c8 (some t)=sz t:=by unfold c8;rfl
  have:=nV t
  omega
 |K+1,some (.mk k bD aJ xs rt),dq,fO,m,hm=>λv c x ah aE ni=>by
  have hs:c8 (some (.mk k bD aJ xs rt))=1+fc xs+c8 rt:=by rw[im,o4]
  obtain⟨R,cD,bR,cl,vs,bS,bf,up,rfl,ad,ax,aO,bZ,dj,ek⟩:=aE
  rw[hs] at dq fO hm⊢
  obtain⟨m,rfl⟩:∃j,m=j+1:=⟨m-1,by omega⟩
  obtain⟨m,rfl⟩:∃j,m=j+1:=⟨m-1,by omega⟩
  have e3:=c6.len dj
  have kT:=nW xs
  have gi:=R2 (Y (m+1)) R (N+4) (N+5) x
  have s1:=R3 (Y (m+1)) R (N+4) (N+5) x
  obtain⟨da,y,aA,aC⟩:=Sc m ai ni ah (.ptr R 0)
  rcases aC with⟨rfl,bN,eW⟩|⟨rfl,bN,eW⟩
  · have s2:=R4 (Y (m+1)) R (N+4) (N+5) (N+3) x y (lK ni.cc) aA
    have n1:y.get R=some (.cells [.int .i64 (Int.ofNat k),.str bD,cD,bR,cl] 51 bS bf up):=by
     rw[eW.ext.get R (by omega)];exact ax
    have gD:aq y R (0+3)=some bR:=aH n1 rfl
    have ba:∀i (ad:i<xs.length),Ek (m+1) N h r B (some xs[i]):=λi ad=>by
     have lD:=ki (List.getElem_mem ad)
     have e8:c8 (some xs[i])=sz xs[i]:=by unfold c8;rfl
     exact El ai bO K (some xs[i]) (by omega) (by omega) (m+1) (by omega)
    have loop:∃e Γ z,av Tryz.prog Tryz.f100 none (Y (m+1)) [1,1,1,0] ⟨[(0,.ptr R 0),(1,.ptr (N+4) 0),(2,.ptr (N+5) 0)],[],.none,y⟩ e ⟨Γ,[],.none,z⟩/\
      ((e=.nrm/\Γ=[(0,.ptr R 0),(1,.ptr (N+4) 0),(2,.ptr (N+5) 0)]/\th N h r (c+1) (fc xs) true z)\/(e=.ret/\Γ=[(4,.bool false)]/\th N h r (c+1) (fc xs) false z)):=by
     rcases bZ with⟨rfl,rfl⟩|⟨b,off,aB,rfl,af,au,_⟩
     · have kX:xs=[]:=List.eq_nil_of_length_eq_zero (by simpa using e3.symm)
       subst kX
       refine⟨_,_,_,av.seq (p:=[1,1,1,0]) (by kernel_rfl) (R7 (Y (m+1)) R (N+4) (N+5) y gD) (av.block (p:=[1,1,1,0,1]) (id:=0) (by kernel_rfl) (dH.run (p:=[1,1,1,0,1,0]) (n:=1) (by kernel_rfl) (.exit (JX (Y (m+1)) R (N+4) (N+5) 0 0 _ y (by kernel_rfl)) (by simp)) (by omega))),.inl ⟨rfl,rfl,.inl ⟨rfl,bN,eW⟩⟩⟩
     · obtain⟨e,Γ,z,bp,bB⟩:=JZ (R:=R) aB bO af dj au (by omega) ba vs.length 0 (c+1) y (by omega) (by omega) bN eW
       rw[List.drop_zero] at bB
       have cU:=dH.run (p:=[1,1,1,0,1,0]) (by kernel_rfl) bp (by omega)
       have hD:=R6 (Y (m+1)) R (N+4) (N+5) b off vs.length aB y gD
       rcases bB with⟨rfl,gw,k_⟩|⟨rfl,gw,k_⟩
       · exact⟨_,_,_,av.seq (p:=[1,1,1,0]) (by kernel_rfl) hD (av.block (p:=[1,1,1,0,1]) (id:=0) (by kernel_rfl) cU),.inl ⟨rfl,gw,k_⟩⟩
       · exact⟨_,_,_,av.seq (p:=[1,1,1,0]) (by kernel_rfl) hD (av.nb (p:=[1,1,1,0,1]) (id:=0) (by kernel_rfl) cU (by simp)),.inr ⟨rfl,gw,k_⟩⟩
    obtain⟨e,Γ,z,bp,bB⟩:=loop
    rcases bB with⟨rfl,rfl,bB⟩|⟨rfl,rfl,bB⟩
    · rcases bB with⟨_,cU,hD⟩|⟨cU,_⟩
      · have gw:=hD.room 7
        have Sd:(z.room 7).get R=some (.cells [.int .i64 (Int.ofNat k),.str bD,cD,bR,cl] 51 bS bf up):=by
         rw[gw.ext.get R (by omega)];exact ax
        obtain⟨da,w,dI,c9⟩:=El ai bO K rt (by omega) (by omega) (m+1) (by omega) cl (c+1+fc xs) _ cU ek gw
        have eY:I.sound cl=true:=by
         cases rt with
         |none=>obtain rfl:cl=.aR:=ek;rfl
         |some u=>
          cases u with
          |mk k bD aJ ys rt=>obtain⟨r,cD,bR,_,vs,bS,bf,up,rfl,_⟩:=ek;rfl
        have bX:=R_ (Y (m+1)) R (N+4) (N+5) cl (.bool da) z w (lK gw.uV) (aH Sd rfl) dI eY rfl
        refine⟨da,w,dJ (intr:=bT) (n:=m+1) (args:=[.ptr R 0,.ptr (N+4) 0,.ptr (N+5) 0]) Tryz.func100 (by kernel_rfl) rfl (by kernel_rfl) (av.seq (p:=[]) (by kernel_rfl) gi (av.seq (p:=[1]) (by kernel_rfl) s1 (av.seq (p:=[1,1]) (by kernel_rfl) s2 (av.seq (p:=[1,1,1]) (by kernel_rfl) bp bX)))) (.inl rfl) rfl,?_⟩
        have g3:c+1+fc xs+c8 rt=c+(1+fc xs+c8 rt):=by omega
        unfold th at c9⊢
        rw[g3] at c9
        exact c9
      · simp at cU
    · rcases bB with⟨cU,_⟩|⟨_,cU,hD⟩
      · simp at cU
      · exact⟨false,z,dJ (intr:=bT) (n:=m+1) (args:=[.ptr R 0,.ptr (N+4) 0,.ptr (N+5) 0]) Tryz.func100 (by kernel_rfl) rfl (by kernel_rfl) (av.seq (p:=[]) (by kernel_rfl) gi (av.seq (p:=[1]) (by kernel_rfl) s1 (av.seq (p:=[1,1]) (by kernel_rfl) s2 (av.e_ (p:=[1,1,1]) (by kernel_rfl) bp (by simp))))) (.inl rfl) (by kernel_rfl),.inr ⟨rfl,by omega,hD⟩⟩
  · have s2:=R5 (Y (m+1)) R (N+4) (N+5) (N+3) x y (lK ni.cc) aA
    exact⟨false,y,dJ (intr:=bT) (n:=m+1) (args:=[.ptr R 0,.ptr (N+4) 0,.ptr (N+5) 0]) Tryz.func100 (by kernel_rfl) rfl (by kernel_rfl) (av.seq (p:=[]) (by kernel_rfl) gi (av.seq (p:=[1]) (by kernel_rfl) s1 (av.e_ (p:=[1,1]) (by kernel_rfl) s2 (by simp)))) (.inl rfl) (by kernel_rfl),.inr ⟨rfl,by omega,eW⟩⟩
end Go.Proofs.cR
namespace Go.Proofs.cR
open Go aD Go.Proofs dE
set_option maxRecDepth 100000
set_option maxHeartbeats 1000000
theorem Se{call:ay->List I->J->an}(j N:Nat)(r:aT)(q:bJ)(h:J)(hm:aD.Mod r [(2,.int .i64 (Int.ofNat j))])(aG:h.get (N+2)=some (.defrd (some []))):
  l7 Tryz.prog call Tryz.f70 (.ok .ret r [.collected (N+2)] q h)=.ret (.int .i64 (Int.ofNat j)) (h.set (N+2) (some (.defrd none))):=by
 have ai:=Dn hm (rfl:na Tryz.prog (d_ Tryz.f70) Tryz.f70 [(2,.int .i64 (Int.ofNat j))] (h.set (N+2) (some (.defrd none)))=some (.int .i64 (Int.ofNat j)))
 simp only[l7,jM,aG,List.nil_append,ai]
theorem Em{ot:Option a5}{B:Nat}{h:J}{v:I}(m:Nat)(fO:c8 ot<=90000)(bO:B<=h.n)(aE:cE B h ot v)(hm:c8 ot+3<=m):
  ∃al,Y (m+2) (.fn 70) [v] h=.ret (.int .i64 (Int.ofNat (min (c8 ot) 61))) al/\Ext h.n h al:=by
 have Sf:=aE.nZ
 let aa:=(h.push (.cells [.int .i64 (Int.ofNat 0)] 3 .own 0 0)).set h.n (some (.cells [.int .i64 (Int.ofNat 0)] 3 .own 0 0))
 let ad:=aa.push (.cells [v] 47 .own 0 0)
 have aQ:aa.n=h.n+1:=rfl
 have bI:ad.n=h.n+2:=rfl
 have c1:aD.storeCells (h.push (.cells [.int .i64 (Int.ofNat 0)] 3 .own 0 0)) h.n 0 [.int .i64 (Int.ofNat 0)]=some aa:=
  zW (x:=.int .i64 (Int.ofNat 0)) (t:=3) rfl (by rw[J.eA,if_pos rfl])
 have Sg:Y (m+1) (.fn 86) [v] aa=.ret (.fn 99 [] [.ptr (h.n+1) 0]) ad:=by
  rcases Sf with rfl|⟨R,rfl⟩
  · exact dJ (intr:=bT) (n:=m) (args:=[.aR]) Tryz.func86 (by kernel_rfl) rfl (by kernel_rfl) (RZ (Y m) aa) (.inl rfl) rfl
  · exact dJ (intr:=bT) (n:=m) (args:=[.ptr R 0]) Tryz.func86 (by kernel_rfl) rfl (by kernel_rfl) (RY (Y m) R aa) (.inl rfl) rfl
 have w:WF Tryz.prog Tryz.f70 none (Y (m+1)) [] (λe r d q al=>∃iW,l7 Tryz.prog (Y (m+1)) Tryz.f70 (.ok e r d q al)=.ret (.int .i64 (Int.ofNat (min (c8 ot) 61))) iW/\Ext h.n h iW) (ny 0 [v] .leaf) [] .none h:=by
  refine WF.seq (p:=[]) (by kernel_rfl) (W.of (RS (Y (m+1)) v h) (zS [v]) λbb cV=>.inl ⟨rfl,?_⟩)
  refine WF.seq (p:=[1]) (by kernel_rfl) (W.of (RT (Y (m+1)) v h aa c1) cV λa3 h2=>.inl ⟨rfl,?_⟩)
  refine WF.seq (p:=[1,1]) (by kernel_rfl) ?_
  refine WF.seq (p:=[1,1,0]) (by kernel_rfl) (W.of (RU (Y (m+1)) v _ h.n aa ad Sg) h2 λfv Ap=>.inl ⟨rfl,?_⟩)
  refine WF.block (p:=[1,1,0,1]) (id:=0) (by kernel_rfl) ?_
  refine WF.range (p:=[1,1,0,1,0]) (t:=5) (ps:=[6]) (by kernel_rfl) (by kernel_rfl) (hf:=rfl) (hm:=Ap) ?_
  let ir:=(ad.push (.defrd (some []))).push (uU .ready none fv h.n)
  let bh:=((ir.push (.cells [.cc (h.n+3)] 139 .own 0 0)).push (.cells [.fi] 139 .own 0 0)).set (h.n+5) (some (.cells [.fn 100 [] [.ptr (h.n+4) 0,.ptr (h.n+5) 0]] 139 .own 0 0))
  have J0:aD.Mod fv [(3,.ptr h.n 0)]:=Ap.sub ⟨rfl,trivial⟩
  have aas:ir.n=h.n+4:=rfl
  have g3:Ext h.n h aa:=(Ext.push (Nat.le_refl _) _).hA (Nat.le_refl _)
  have rf:Ext h.n h ad:=g3.mo (by omega)
  have hE:Ext h.n h ir:=(rf.mo (by omega)).mo (by show h.n<=h.n+3;omega)
  have jA:Ext h.n h bh:=((hE.mo (by omega)).mo (by show h.n<=h.n+5;omega)).hA (by omega)
  have i0:p2 h.n h fv 0 bh:=by
   refine⟨?_,?_,?_,?_,?_,?_⟩
   · simp only[bh,ir,ad,aa,J.eA,J.b_,J.mT,J.tS];grind
   · simp only[bh,ir,ad,aa,J.eA,J.b_,J.mT,J.tS];grind
   · simp only[bh,ir,ad,aa,J.eA,J.b_,J.mT,J.tS];grind
   · simp only[bh,ir,ad,aa,J.eA,J.b_,J.mT,J.tS];grind
   · simp only[bh,ir,ad,aa,J.eA,J.b_,J.mT,J.tS];grind
   · exact jA
  obtain⟨da,y,aA,aC⟩:=El J0 bO (c8 ot) ot (Nat.le_refl _) fO m hm v 0 bh (by decide) aE i0
  have ct:aD.storeCells ((ir.push (.cells [.cc (h.n+3)] 139 .own 0 0)).push (.cells [.fi] 139 .own 0 0)) (h.n+5) 0 [.fn 100 [] [.ptr (h.n+4) 0,.ptr (h.n+5) 0]]=some bh:=
   zW (x:=.fi) rfl (by rw[J.eA];exact if_pos rfl)
  have fI:bh.get (h.n+1)=some (.cells [v] 47 .own 0 0):=by
   simp only[bh,ir,ad,aa,J.eA,J.b_,J.mT,J.tS];grind
  have En:=R0 (Y m) (h.n+3) (h.n+1) v (.bool da) ir bh y ct (lK i0.uV) (lK fI) aA
  have J1:Y (m+1) (.fn 99) [.cc (h.n+3),.ptr (h.n+1) 0] ir=.ret (.aW []) y:=
   dJ (intr:=bT) (n:=m) (args:=[.cc (h.n+3),.ptr (h.n+1) 0]) Tryz.func99 (by kernel_rfl) rfl (by kernel_rfl) En (.inr rfl) (by kernel_rfl)
  have fin:∀(j:Nat) (z:J),j=min (c8 ot) 61->z.get h.n=some (.cells [.int .i64 (Int.ofNat j)] 3 .own 0 0)->z.get (h.n+2)=some (.defrd (some []))->Ext h.n h z->
    WF Tryz.prog Tryz.f70 none (Y (m+1)) [1,1,1] (λe r d q al=>∃iW,l7 Tryz.prog (Y (m+1)) Tryz.f70 (.ok e r d q al)=.ret (.int .i64 (Int.ofNat (min (c8 ot) 61))) iW/\Ext h.n h iW) fv [.collected (h.n+2)] .none z:=λj z aL a4 l9 Sh=>by
   refine W.of (RX (Y (m+1)) h.n j (h.n+2) _ (lK a4)) J0 λg4 Si=>?_
   subst aL
   exact⟨_,Se (min (c8 ot) 61) h.n g4 _ _ Si l9,Sh.hA (by omega)⟩
  rcases aC with⟨rfl,bN,eW⟩|⟨rfl,bN,eW⟩
  · have xw:kR (h.n+3) fv [.collected (h.n+2)] .none (.ret (.aW []) y)=.ok .nrm fv [.collected (h.n+2)] .none (y.set (h.n+3) (some (uU .exhausted none fv h.n))):=by
      simp only[kR,eW.p3]
    refine⟨.nrm,_,(congrArg (kR (h.n+3) fv [.collected (h.n+2)] .none) J1).trans xw,.inr ⟨by simp,.inl ⟨rfl,?_⟩⟩⟩
    exact fin (0+c8 ot) _ (by omega) (by rw[J.b_,if_neg (by omega)];exact eW.xv) (by rw[J.b_,if_neg (by omega)];exact eW.jG) (eW.ext.hA (by omega))
  · have xw:kR (h.n+3) fv [.collected (h.n+2)] .none (.ret (.aW []) y)=.ok (.exit 0) fv [.collected (h.n+2)] .none (y.set (h.n+3) (some (uU .exhausted (some (.exit 0)) fv h.n))):=by
      simp only[kR,eW.p3]
    refine⟨.exit 0,_,(congrArg (kR (h.n+3) fv [.collected (h.n+2)] .none) J1).trans xw,.inl ⟨rfl,.inl ⟨rfl,?_⟩⟩⟩
    exact fin 61 _ (by omega) (by rw[J.b_,if_neg (by omega)];exact eW.xv) (by rw[J.b_,if_neg (by omega)];exact eW.jG) (eW.ext.hA (by omega))
 obtain⟨e,r,d,q,al,dI,iW,c9,wA⟩:=w
 exact⟨iW,IL (intr:=bT) (n:=m+1) (args:=[v]) Tryz.func70 (by kernel_rfl) rfl (by kernel_rfl) ⟨e,r,d,q,al,dI,c9⟩,wA⟩
end Go.Proofs.cR
namespace Go.Proofs.cR
open Go aD Go.Proofs dE
set_option maxRecDepth 100000
set_option maxHeartbeats 1000000
theorem Sj(call:ay->List I->J->an)(v w:I)(h:J):
  av Tryz.prog Tryz.f87 none call [0] (ag.mk [(0,v),(1,w)] [] .none h) (.nrm)
   (ag.mk [(0,v),(1,w)] [] .none h):=
 a1 [0,1] (hs:=[]) (by kernel_rfl)<| .nil
theorem Sk(call:ay->List I->J->an)(b off N aI bx M:Nat)(aB bQ:b5)(h:J)
  (H1:(!a7 (.ofNat N) (.ofNat M))=true):
  av Tryz.prog Tryz.f87 none call [1,0] (ag.mk [(0,.slice b off N aB),(1,.slice aI bx M bQ)] [] .none h) (.ret)
   (ag.mk [(0,.slice b off N aB),(1,.slice aI bx M bQ),(4,.bool false)] [] .none h):=
 a1 [0,1,4] (hs:=[.b true]) (by kernel_rfl)<| .cons H1<| .nil
theorem Sl(call:ay->List I->J->an)(b off N aI bx M:Nat)(aB bQ:b5)(h:J)
  (H1:(!a7 (.ofNat N) (.ofNat M))=false):
  av Tryz.prog Tryz.f87 none call [1,0] (ag.mk [(0,.slice b off N aB),(1,.slice aI bx M bQ)] [] .none h) (.nrm)
   (ag.mk [(0,.slice b off N aB),(1,.slice aI bx M bQ)] [] .none h):=
 a1 [0,1,4] (hs:=[.b false]) (by kernel_rfl)<| .cons H1<| .nil
theorem Sm(call:ay->List I->J->an)(aI bx M:Nat)(bQ:b5)(h:J)
  (H1:(!a7 (.ofNat 0) (.ofNat M))=true):
  av Tryz.prog Tryz.f87 none call [1,0] (ag.mk [(0,.a_),(1,.slice aI bx M bQ)] [] .none h) (.ret)
   (ag.mk [(0,.a_),(1,.slice aI bx M bQ),(4,.bool false)] [] .none h):=
 a1 [0,1,4] (hs:=[.b true]) (by kernel_rfl)<| .cons H1<| .nil
theorem Sn(call:ay->List I->J->an)(aI bx M:Nat)(bQ:b5)(h:J)
  (H1:(!a7 (.ofNat 0) (.ofNat M))=false):
  av Tryz.prog Tryz.f87 none call [1,0] (ag.mk [(0,.a_),(1,.slice aI bx M bQ)] [] .none h) (.nrm)
   (ag.mk [(0,.a_),(1,.slice aI bx M bQ)] [] .none h):=
 a1 [0,1,4] (hs:=[.b false]) (by kernel_rfl)<| .cons H1<| .nil
theorem So(call:ay->List I->J->an)(b off N:Nat)(aB:b5)(h:J)
  (H1:(!a7 (.ofNat N) (.ofNat 0))=true):
  av Tryz.prog Tryz.f87 none call [1,0] (ag.mk [(0,.slice b off N aB),(1,.a_)] [] .none h) (.ret)
   (ag.mk [(0,.slice b off N aB),(1,.a_),(4,.bool false)] [] .none h):=
 a1 [0,1,4] (hs:=[.b true]) (by kernel_rfl)<| .cons H1<| .nil
theorem Sp(call:ay->List I->J->an)(b off N:Nat)(aB:b5)(h:J)
  (H1:(!a7 (.ofNat N) (.ofNat 0))=false):
  av Tryz.prog Tryz.f87 none call [1,0] (ag.mk [(0,.slice b off N aB),(1,.a_)] [] .none h) (.nrm)
   (ag.mk [(0,.slice b off N aB),(1,.a_)] [] .none h):=
 a1 [0,1,4] (hs:=[.b false]) (by kernel_rfl)<| .cons H1<| .nil
theorem Sq(call:ay->List I->J->an)(h:J):
  av Tryz.prog Tryz.f87 none call [1,0] (ag.mk [(0,.a_),(1,.a_)] [] .none h) (.nrm)
   (ag.mk [(0,.a_),(1,.a_)] [] .none h):=
 a1 [0,1,4] (hs:=[.b false]) (by kernel_rfl)<| .cons (by kernel_rfl:(!a7 (Int.ofNat 0) (Int.ofNat 0))=false)<| .nil
theorem Eo(call:ay->List I->J->an)(b off N:Nat)(aB:b5)(w:I)(h:J):
  av Tryz.prog Tryz.f87 none call [1,1,0,0] (ag.mk [(0,.slice b off N aB),(1,w)] [] .none h) (.nrm)
   (ag.mk [(0,.slice b off N aB),(1,w),(12,.int .i64 (.ofNat N)),(13,.int .i64 (.ofNat 0))] [] .none h):=
 a1 [0,1,12,13] (hs:=[]) (by kernel_rfl)<| .nil
theorem J2(call:ay->List I->J->an)(w:I)(h:J):
  av Tryz.prog Tryz.f87 none call [1,1,0,0] (ag.mk [(0,.a_),(1,w)] [] .none h) (.nrm)
   (ag.mk [(0,.a_),(1,w),(12,.int .i64 (.ofNat 0)),(13,.int .i64 (.ofNat 0))] [] .none h):=
 a1 [0,1,12,13] (hs:=[]) (by kernel_rfl)<| .nil
theorem Aq(call:ay->List I->J->an)(N i:Nat)(v w:I)(h:J)
  (H1:bC (.ofNat i) (.ofNat N)=false):
  av Tryz.prog Tryz.f87 none call [1,1,0,1,0,0] (ag.mk [(0,v),(1,w),(12,.int .i64 (.ofNat N)),(13,.int .i64 (.ofNat i))] [] .none h) (.exit 0)
   (ag.mk [] [] .none h):=
 a1 [] (hs:=[.b false]) (by kernel_rfl)<| .cons H1<| .nil
theorem Sr(call:ay->List I->J->an)(b off N aI bx M i q aN j:Nat)(s t:List UInt8)(aB bQ:b5)(h:J)
  (H1:bC (.ofNat i) (.ofNat N)=true)
  (az:Nat.le (Nat.succ i) N/\I.ptr b q=I.ptr b (off+i*1))
  (a0:aq (J.room h 9) b q=some (.str s))
  (aS:Nat.le (Nat.succ i) M/\I.ptr aI aN=I.ptr aI (bx+i*1))
  (bo:aq (J.room h 9) aI aN=some (.str t))
  (bV:(!cg s t)=true):
  av Tryz.prog Tryz.f87 none call [1,1,0,1,0,0] (ag.mk [(0,.slice b off N aB),(1,.slice aI bx M bQ),(12,.int .i64 (.ofNat N)),(13,.int .i64 (.ofNat i))] [] .none h) (.ret)
   (ag.mk [(0,.slice b off N aB),(1,.slice aI bx M bQ),(4,.bool false),(12,.int .i64 (.ofNat N)),(13,.int .i64 (.ofNat i))] [] .none (J.room h 9)):=
 a1 [0,1,4,12,13] (hs:=[.b true,.v (.ptr b q),.v (.str s),.v (.ptr aI aN),.v (.str t),.b true]) (by kernel_rfl)<| .cons H1<| .cons az<| .cons a0<| .cons aS<| .cons bo<| .cons (by kernel_rfl:I.sound (I.slice b off N aB)=true)<| .cons (by kernel_rfl:I.slice b off N aB=I.slice b off N aB)<| .cons (by kernel_rfl:I.sound (I.int IntKind.i64 (Int.ofNat i))=true)<| .cons (by kernel_rfl:I.int IntKind.i64 (Int.ofNat i)=I.int IntKind.i64 (Int.ofNat i))<| .cons (by kernel_rfl:I.sound (I.ptr b q)=true)<| .cons az<| .cons (by kernel_rfl:I.sound (I.str s)=true)<| .cons a0<| .cons (by kernel_rfl:I.sound (I.slice aI bx M bQ)=true)<| .cons (by kernel_rfl:I.slice aI bx M bQ=I.slice aI bx M bQ)<| .cons (by kernel_rfl:I.sound (I.int IntKind.i64 (Int.ofNat i))=true)<| .cons (by kernel_rfl:I.int IntKind.i64 (Int.ofNat i)=I.int IntKind.i64 (Int.ofNat i))<| .cons (by kernel_rfl:I.sound (I.ptr aI aN)=true)<| .cons aS<| .cons (by kernel_rfl:I.sound (I.str t)=true)<| .cons bo<| .cons (by kernel_rfl:I.sound (I.bool !cg s t)=true)<| .cons (by kernel_rfl:(I.bool !cg s t)=I.bool !cg s t)<| .cons bV<| .nil
theorem Ss(call:ay->List I->J->an)(b off N aI bx M i q aN j:Nat)(s t:List UInt8)(aB bQ:b5)(h:J)
  (H1:bC (.ofNat i) (.ofNat N)=true)
  (az:Nat.le (Nat.succ i) N/\I.ptr b q=I.ptr b (off+i*1))
  (a0:aq (J.room h 9) b q=some (.str s))
  (aS:Nat.le (Nat.succ i) M/\I.ptr aI aN=I.ptr aI (bx+i*1))
  (bo:aq (J.room h 9) aI aN=some (.str t))
  (bV:(!cg s t)=false)
  (cw:arith .add .i64 (.ofNat i) (.ofNat 1)=some (.int .i64 (.ofNat j))):
  av Tryz.prog Tryz.f87 none call [1,1,0,1,0,0] (ag.mk [(0,.slice b off N aB),(1,.slice aI bx M bQ),(12,.int .i64 (.ofNat N)),(13,.int .i64 (.ofNat i))] [] .none h) (.nrm)
   (ag.mk [(0,.slice b off N aB),(1,.slice aI bx M bQ),(12,.int .i64 (.ofNat N)),(13,.int .i64 (.ofNat j))] [] .none (J.room h 9)):=
 a1 [0,1,4,12,13] (hs:=[.b true,.v (.ptr b q),.v (.str s),.v (.ptr aI aN),.v (.str t),.b false,.v (.int .i64 (.ofNat j))]) (by kernel_rfl)<| .cons H1<| .cons az<| .cons a0<| .cons aS<| .cons bo<| .cons (by kernel_rfl:I.sound (I.slice b off N aB)=true)<| .cons (by kernel_rfl:I.slice b off N aB=I.slice b off N aB)<| .cons (by kernel_rfl:I.sound (I.int IntKind.i64 (Int.ofNat i))=true)<| .cons (by kernel_rfl:I.int IntKind.i64 (Int.ofNat i)=I.int IntKind.i64 (Int.ofNat i))<| .cons (by kernel_rfl:I.sound (I.ptr b q)=true)<| .cons az<| .cons (by kernel_rfl:I.sound (I.str s)=true)<| .cons a0<| .cons (by kernel_rfl:I.sound (I.slice aI bx M bQ)=true)<| .cons (by kernel_rfl:I.slice aI bx M bQ=I.slice aI bx M bQ)<| .cons (by kernel_rfl:I.sound (I.int IntKind.i64 (Int.ofNat i))=true)<| .cons (by kernel_rfl:I.int IntKind.i64 (Int.ofNat i)=I.int IntKind.i64 (Int.ofNat i))<| .cons (by kernel_rfl:I.sound (I.ptr aI aN)=true)<| .cons aS<| .cons (by kernel_rfl:I.sound (I.str t)=true)<| .cons bo<| .cons (by kernel_rfl:I.sound (I.bool !cg s t)=true)<| .cons (by kernel_rfl:(I.bool !cg s t)=I.bool !cg s t)<| .cons bV<| .cons cw<| .nil
theorem St(call:ay->List I->J->an)(h:J):
  av Tryz.prog Tryz.f87 none call [1,1,1] (ag.mk [] [] .none h) (.ret)
   (ag.mk [(4,.bool true)] [] .none h):=
 a1 [4] (hs:=[]) (by kernel_rfl)<| .nil
theorem p4{a b:Nat}(h:a≠b):(!a7 (Int.ofNat a) (Int.ofNat b))=true:=by
 rw[k3 h];rfl
theorem uW{a b:Nat}(h:a=b):(!a7 (Int.ofNat a) (Int.ofNat b))=false:=by
 rw[sM h];rfl
theorem xx:∀(us bs:List aU),us.length≠bs.length->fY us bs=false
 |[],[],h=>absurd rfl h
 |[],_::_,_=>by rw[fY];all_goals simp
 |_::_,[],_=>by rw[fY];all_goals simp
 |x::us,y::bs,h=>by
  rw[fY,xx us bs (by simpa using h),Bool.and_false]
theorem cL.strs{B:Nat}{h:J}{v:I}{us:List aU}(hs:cL B h v (us.map .str)):(v=.a_/\us=[])\/∃b off aB,v=.slice b off us.length aB/\b<B/\∀i (ae:i<us.length),aq h b (off+i*1)=some (.str us[i]):=by
 rcases hs with⟨aa,ad⟩|⟨b,off,aB,aa,ad,ax,_⟩
 · exact .inl ⟨aa,by simpa using ad⟩
 · refine .inr ⟨b,off,aB,by simpa using aa,ad,λi ae=>?_⟩
   have:=ax i (by simpa using ae)
   simpa using this
theorem i_{B b i:Nat}{h x:J}(e:Ext B h x)(af:b<B):aq x b i=aq h b i:=by
 unfold aq;rw[e.get b af]
theorem J3{B b off aI bx:Nat}{h:J}{us bs:List aU}(call:ay->List I->J->an)(aB bQ:b5)(af:b<B)(di:aI<B)(a2:∀i (ae:i<us.length),aq h b (off+i*1)=some (.str us[i]))(te:∀i (ae:i<bs.length),aq h aI (bx+i*1)=some (.str bs[i]))(au:us.length=bs.length)(hlen:us.length<=90000):∀(k i:Nat) (x:J),us.length-i=k->i<=us.length->Ext B h x->
  ∃e Γ y,dH Tryz.prog Tryz.f87 none call [1,1,0,1,0] (k+1) ⟨[(0,.slice b off us.length aB),(1,.slice aI bx bs.length bQ),(12,.int .i64 (Int.ofNat us.length)),(13,.int .i64 (Int.ofNat i))],[],.none,x⟩ e ⟨Γ,[],.none,y⟩/\
   ((e=.exit 0/\Γ=[]/\fY (us.drop i) (bs.drop i)=true)\/(e=.ret/\Γ=[(4,.bool false)]/\fY (us.drop i) (bs.drop i)=false))/\Ext B h y
 |0,i,x,aw,ae,ab=>by
  obtain rfl:i=us.length:=by omega
  rw[List.drop_of_length_le (Nat.le_refl _),au,List.drop_of_length_le (Nat.le_refl _)]
  exact⟨_,_,_,.exit (Aq call _ _ _ _ x (eh (by omega))) (by simp),.inl ⟨rfl,rfl,by rw[fY]⟩,ab⟩
 |k+1,i,x,aw,ae,ab=>by
  have aa:i<us.length:=by omega
  have ad:i<bs.length:=by omega
  have aA:aq (x.room 9) b (off+i*1)=some (.str us[i]):=(i_ ab.ht af).trans (a2 i aa)
  have aC:aq (x.room 9) aI (bx+i*1)=some (.str bs[i]):=(i_ ab.ht di).trans (te i ad)
  rw[List.drop_eq_getElem_cons aa,List.drop_eq_getElem_cons ad,fY]
  cases ah:cg us[i] bs[i] with
  |true=>
   obtain⟨e,Γ,y,bp,bB,cU⟩:=J3 call aB bQ af di a2 te au hlen k (i+1) (x.room 9) (by omega) (by omega) ab.ht
   refine⟨e,Γ,y,.step (Ss call b off us.length aI bx bs.length i (off+i*1) (bx+i*1) (i+1) us[i] bs[i] aB bQ x (ds aa) ⟨aa,rfl⟩ aA ⟨ad,rfl⟩ aC (by rw[ah];rfl) (ij aa (by omega))) bp,?_,cU⟩
   rw[Bool.true_and];exact bB
  |false=>
   exact⟨_,[(4,.bool false)],_,.exit (ck.post (Sr call b off us.length aI bx bs.length i (off+i*1) (bx+i*1) 0 us[i] bs[i] aB bQ x (ds aa) ⟨aa,rfl⟩ aA ⟨ad,rfl⟩ aC (by rw[ah];rfl)) ⟨rfl,trivial⟩) (by simp),.inr ⟨rfl,rfl,by rw[Bool.false_and]⟩,ab.ht⟩
theorem Su(m:Nat){B:Nat}{h:J}{v w:I}{us bs:List aU}(a2:cL B h v (us.map .str))(af:cL B h w (bs.map .str))(hlen:us.length<=90000):∃al,Y (m+1) (.fn 87) [v,w] h=.ret (.bool (fY us bs)) al/\Ext B h al:=by
 have run:∃Γ y,av Tryz.prog Tryz.f87 none (Y m) [1] ⟨[(0,v),(1,w)],[],.none,h⟩ .ret ⟨Γ,[],.none,y⟩/\Γ=[(4,.bool (fY us bs))]/\Ext B h y:=by
  have go:∀z,cL B h v (us.map .str)->us.length=bs.length->av Tryz.prog Tryz.f87 none (Y m) [1,0] ⟨[(0,v),(1,w)],[],.none,h⟩ .nrm ⟨[(0,v),(1,w)],[],.none,h⟩->(∃e Γ y,av Tryz.prog Tryz.f87 none (Y m) [1,1,0] ⟨[(0,v),(1,w)],[],.none,h⟩ e ⟨Γ,[],.none,y⟩/\((e=.nrm/\Γ=[]/\fY us bs=true)\/(e=.ret/\Γ=[(4,.bool false)]/\fY us bs=false))/\Ext B h y)->z=0->∃Γ y,av Tryz.prog Tryz.f87 none (Y m) [1] ⟨[(0,v),(1,w)],[],.none,h⟩ .ret ⟨Γ,[],.none,y⟩/\Γ=[(4,.bool (fY us bs))]/\Ext B h y:=by
   rintro z _ _ bb ⟨e,Γ,y,a3,fv,g4⟩ _
   rcases fv with⟨rfl,rfl,lS⟩|⟨rfl,rfl,lS⟩
   · rw[lS]
     exact⟨_,y,av.seq (p:=[1]) (by kernel_rfl) bb (av.seq (p:=[1,1]) (by kernel_rfl) a3 (St (Y m) y)),rfl,g4⟩
   · rw[lS]
     exact⟨_,y,av.seq (p:=[1]) (by kernel_rfl) bb (av.e_ (p:=[1,1]) (by kernel_rfl) a3 (by simp)),rfl,g4⟩
  rcases a2.strs with⟨rfl,rfl⟩|⟨b,off,aB,rfl,eJ,fI⟩
  · rcases af.strs with⟨rfl,rfl⟩|⟨aI,bx,bQ,rfl,di,h4⟩
    · refine go 0 a2 rfl (Sq (Y m) h) ⟨_,_,_,av.seq (p:=[1,1,0]) (by kernel_rfl) (J2 (Y m) _ h) (av.block (p:=[1,1,0,1]) (id:=0) (by kernel_rfl) (dH.run (p:=[1,1,0,1,0]) (n:=1) (by kernel_rfl) (.exit (Aq (Y m) 0 0 _ _ h (by kernel_rfl)) (by simp)) (by omega))),.inl ⟨rfl,rfl,by rw[fY]⟩,Ext.refl _ _⟩ rfl
    · by_cases a4:bs.length=0
      · obtain rfl:bs=[]:=List.eq_nil_of_length_eq_zero a4
        refine go 0 a2 rfl (ck.post (Sn (Y m) aI bx 0 bQ h (by kernel_rfl)) ⟨rfl,rfl,trivial⟩) ⟨_,_,_,av.seq (p:=[1,1,0]) (by kernel_rfl) (J2 (Y m) _ h) (av.block (p:=[1,1,0,1]) (id:=0) (by kernel_rfl) (dH.run (p:=[1,1,0,1,0]) (n:=1) (by kernel_rfl) (.exit (Aq (Y m) 0 0 _ _ h (by kernel_rfl)) (by simp)) (by omega))),.inl ⟨rfl,rfl,by rw[fY]⟩,Ext.refl _ _⟩ rfl
      · refine⟨[(4,.bool false)],_,av.e_ (p:=[1]) (by kernel_rfl) (ck.post (Sm (Y m) aI bx bs.length bQ h (p4 (λe=>a4 e.symm))) ⟨rfl,trivial⟩) (by simp),?_,Ext.refl _ _⟩
        rw[xx [] bs (λe=>a4 e.symm)]
  · rcases af.strs with⟨rfl,rfl⟩|⟨aI,bx,bQ,rfl,di,h4⟩
    · by_cases a4:us.length=0
      · obtain rfl:us=[]:=List.eq_nil_of_length_eq_zero a4
        refine go 0 a2 rfl (ck.post (Sp (Y m) b off 0 aB h (by kernel_rfl)) ⟨rfl,rfl,trivial⟩) ⟨_,_,_,av.seq (p:=[1,1,0]) (by kernel_rfl) (Eo (Y m) b off 0 aB _ h) (av.block (p:=[1,1,0,1]) (id:=0) (by kernel_rfl) (dH.run (p:=[1,1,0,1,0]) (n:=1) (by kernel_rfl) (.exit (Aq (Y m) 0 0 _ _ h (by kernel_rfl)) (by simp)) (by omega))),.inl ⟨rfl,rfl,by rw[fY]⟩,Ext.refl _ _⟩ rfl
      · refine⟨[(4,.bool false)],_,av.e_ (p:=[1]) (by kernel_rfl) (ck.post (So (Y m) b off us.length aB h (p4 a4)) ⟨rfl,trivial⟩) (by simp),?_,Ext.refl _ _⟩
        rw[xx us [] a4]
    · by_cases a4:us.length=bs.length
      · obtain⟨e,Γ,y,bp,bB,cU⟩:=J3 (Y m) aB bQ eJ di fI h4 a4 hlen us.length 0 h (by omega) (by omega) (Ext.refl _ _)
        have hD:=dH.run (p:=[1,1,0,1,0]) (by kernel_rfl) bp (by omega)
        rw[List.drop_zero,List.drop_zero] at bB
        refine go 0 a2 a4 (ck.post (Sl (Y m) b off us.length aI bx bs.length aB bQ h (uW a4)) ⟨rfl,rfl,trivial⟩) ?_ rfl
        rcases bB with⟨rfl,gw,k_⟩|⟨rfl,gw,k_⟩
        · exact⟨_,_,_,av.seq (p:=[1,1,0]) (by kernel_rfl) (Eo (Y m) b off us.length aB _ h) (av.block (p:=[1,1,0,1]) (id:=0) (by kernel_rfl) hD),.inl ⟨rfl,gw,k_⟩,cU⟩
        · exact⟨_,_,_,av.seq (p:=[1,1,0]) (by kernel_rfl) (Eo (Y m) b off us.length aB _ h) (av.nb (p:=[1,1,0,1]) (id:=0) (by kernel_rfl) hD (by simp)),.inr ⟨rfl,gw,k_⟩,cU⟩
      · refine⟨[(4,.bool false)],_,av.e_ (p:=[1]) (by kernel_rfl) (ck.post (Sk (Y m) b off us.length aI bx bs.length aB bQ h (p4 a4)) ⟨rfl,trivial⟩) (by simp),?_,Ext.refl _ _⟩
        rw[xx us bs a4]
 obtain⟨Γ,y,bb,rfl,fv⟩:=run
 exact⟨y,dJ (intr:=bT) (n:=m) (args:=[v,w]) Tryz.func87 (by kernel_rfl) rfl (by kernel_rfl) (av.seq (p:=[]) (by kernel_rfl) (Sj (Y m) v w h) bb) (.inl rfl) rfl,fv⟩
end Go.Proofs.cR
namespace Go.Proofs.cR
open Go aD Go.Proofs dE
set_option maxRecDepth 100000
set_option maxHeartbeats 1000000
theorem Sv(call:ay->List I->J->an)(v w:I)(h:J):
  av Tryz.prog Tryz.f88 none call [0] (ag.mk [(0,v),(1,w),(2,.fn 71 [] [])] [] .none h) (.nrm)
   (ag.mk [(0,v),(1,w),(2,.fn 71 [] [])] [] .none h):=
 a1 [0,1,2] (hs:=[]) (by kernel_rfl)<| .nil
theorem Sw(call:ay->List I->J->an)(b off N aI bx M:Nat)(aB bQ:b5)(h:J)
  (H1:(!a7 (.ofNat N) (.ofNat M))=true):
  av Tryz.prog Tryz.f88 none call [1,0] (ag.mk [(0,.slice b off N aB),(1,.slice aI bx M bQ),(2,.fn 71 [] [])] [] .none h) (.ret)
   (ag.mk [(0,.slice b off N aB),(1,.slice aI bx M bQ),(2,.fn 71 [] []),(6,.bool false)] [] .none h):=
 a1 [0,1,2,6] (hs:=[.b true]) (by kernel_rfl)<| .cons H1<| .nil
theorem Sx(call:ay->List I->J->an)(b off N aI bx M:Nat)(aB bQ:b5)(h:J)
  (H1:(!a7 (.ofNat N) (.ofNat M))=false):
  av Tryz.prog Tryz.f88 none call [1,0] (ag.mk [(0,.slice b off N aB),(1,.slice aI bx M bQ),(2,.fn 71 [] [])] [] .none h) (.nrm)
   (ag.mk [(0,.slice b off N aB),(1,.slice aI bx M bQ),(2,.fn 71 [] [])] [] .none h):=
 a1 [0,1,2,6] (hs:=[.b false]) (by kernel_rfl)<| .cons H1<| .nil
theorem Sy(call:ay->List I->J->an)(aI bx M:Nat)(bQ:b5)(h:J)
  (H1:(!a7 (.ofNat 0) (.ofNat M))=true):
  av Tryz.prog Tryz.f88 none call [1,0] (ag.mk [(0,.a_),(1,.slice aI bx M bQ),(2,.fn 71 [] [])] [] .none h) (.ret)
   (ag.mk [(0,.a_),(1,.slice aI bx M bQ),(2,.fn 71 [] []),(6,.bool false)] [] .none h):=
 a1 [0,1,2,6] (hs:=[.b true]) (by kernel_rfl)<| .cons H1<| .nil
theorem Sz(call:ay->List I->J->an)(aI bx M:Nat)(bQ:b5)(h:J)
  (H1:(!a7 (.ofNat 0) (.ofNat M))=false):
  av Tryz.prog Tryz.f88 none call [1,0] (ag.mk [(0,.a_),(1,.slice aI bx M bQ),(2,.fn 71 [] [])] [] .none h) (.nrm)
   (ag.mk [(0,.a_),(1,.slice aI bx M bQ),(2,.fn 71 [] [])] [] .none h):=
 a1 [0,1,2,6] (hs:=[.b false]) (by kernel_rfl)<| .cons H1<| .nil
theorem SA(call:ay->List I->J->an)(b off N:Nat)(aB:b5)(h:J)
  (H1:(!a7 (.ofNat N) (.ofNat 0))=true):
  av Tryz.prog Tryz.f88 none call [1,0] (ag.mk [(0,.slice b off N aB),(1,.a_),(2,.fn 71 [] [])] [] .none h) (.ret)
   (ag.mk [(0,.slice b off N aB),(1,.a_),(2,.fn 71 [] []),(6,.bool false)] [] .none h):=
 a1 [0,1,2,6] (hs:=[.b true]) (by kernel_rfl)<| .cons H1<| .nil
theorem SB(call:ay->List I->J->an)(b off N:Nat)(aB:b5)(h:J)
  (H1:(!a7 (.ofNat N) (.ofNat 0))=false):
  av Tryz.prog Tryz.f88 none call [1,0] (ag.mk [(0,.slice b off N aB),(1,.a_),(2,.fn 71 [] [])] [] .none h) (.nrm)
   (ag.mk [(0,.slice b off N aB),(1,.a_),(2,.fn 71 [] [])] [] .none h):=
 a1 [0,1,2,6] (hs:=[.b false]) (by kernel_rfl)<| .cons H1<| .nil
theorem SC(call:ay->List I->J->an)(h:J):
  av Tryz.prog Tryz.f88 none call [1,0] (ag.mk [(0,.a_),(1,.a_),(2,.fn 71 [] [])] [] .none h) (.nrm)
   (ag.mk [(0,.a_),(1,.a_),(2,.fn 71 [] [])] [] .none h):=
 a1 [0,1,2,6] (hs:=[.b false]) (by kernel_rfl)<| .cons (by kernel_rfl:(!a7 (Int.ofNat 0) (Int.ofNat 0))=false)<| .nil
theorem Ep(call:ay->List I->J->an)(b off N:Nat)(aB:b5)(w:I)(h:J):
  av Tryz.prog Tryz.f88 none call [1,1,0,0] (ag.mk [(0,.slice b off N aB),(1,w),(2,.fn 71 [] [])] [] .none h) (.nrm)
   (ag.mk [(1,w),(2,.fn 71 [] []),(15,.slice b off N aB),(16,.int .i64 (.ofNat N)),(17,.int .i64 (.ofNat 0))] [] .none h):=
 a1 [1,2,15,16,17] (hs:=[]) (by kernel_rfl)<| .nil
theorem J4(call:ay->List I->J->an)(w:I)(h:J):
  av Tryz.prog Tryz.f88 none call [1,1,0,0] (ag.mk [(0,.a_),(1,w),(2,.fn 71 [] [])] [] .none h) (.nrm)
   (ag.mk [(1,w),(2,.fn 71 [] []),(15,.a_),(16,.int .i64 (.ofNat 0)),(17,.int .i64 (.ofNat 0))] [] .none h):=
 a1 [1,2,15,16,17] (hs:=[]) (by kernel_rfl)<| .nil
theorem Ar(call:ay->List I->J->an)(N i:Nat)(v w:I)(h:J)
  (H1:bC (.ofNat i) (.ofNat N)=false):
  av Tryz.prog Tryz.f88 none call [1,1,0,1,0,0] (ag.mk [(1,w),(2,.fn 71 [] []),(15,v),(16,.int .i64 (.ofNat N)),(17,.int .i64 (.ofNat i))] [] .none h) (.exit 0)
   (ag.mk [] [] .none h):=
 a1 [] (hs:=[.b false]) (by kernel_rfl)<| .cons H1<| .nil
theorem SD(call:ay->List I->J->an)(b off N aI bx M i q aN j:Nat)(x y:I)(aB bQ:b5)(h g:J)
  (H1:bC (.ofNat i) (.ofNat N)=true)
  (az:Nat.le (Nat.succ i) N/\I.ptr b q=I.ptr b (off+i*1))
  (a0:aq h b q=some x)
  (aS:Nat.le (Nat.succ i) M/\I.ptr aI aN=I.ptr aI (bx+i*1))
  (bo:aq h aI aN=some y)
  (bV:call (.fn 71) [x,y] h=an.ret (.bool true) g)
  (cw:arith .add .i64 (.ofNat i) (.ofNat 1)=some (.int .i64 (.ofNat j))):
  av Tryz.prog Tryz.f88 none call [1,1,0,1,0,0] (ag.mk [(1,.slice aI bx M bQ),(2,.fn 71 [] []),(15,.slice b off N aB),(16,.int .i64 (.ofNat N)),(17,.int .i64 (.ofNat i))] [] .none h) (.nrm)
   (ag.mk [(1,.slice aI bx M bQ),(2,.fn 71 [] []),(15,.slice b off N aB),(16,.int .i64 (.ofNat N)),(17,.int .i64 (.ofNat j))] [] .none g):=
 a1 [1,2,15,16,17] (hs:=[.b true,.v (.ptr b q),.v x,.v (.ptr aI aN),.v y,.c (.bool true) g,.b false,.v (.int .i64 (.ofNat j))]) (by kernel_rfl)<| .cons H1<| .cons az<| .cons a0<| .cons aS<| .cons bo<| .cons bV<| .cons (by kernel_rfl:(!true)=false)<| .cons cw<| .nil
theorem SE(call:ay->List I->J->an)(b off N aI bx M i q aN j:Nat)(x y:I)(aB bQ:b5)(h g:J)
  (H1:bC (.ofNat i) (.ofNat N)=true)
  (az:Nat.le (Nat.succ i) N/\I.ptr b q=I.ptr b (off+i*1))
  (a0:aq h b q=some x)
  (aS:Nat.le (Nat.succ i) M/\I.ptr aI aN=I.ptr aI (bx+i*1))
  (bo:aq h aI aN=some y)
  (bV:call (.fn 71) [x,y] h=an.ret (.bool false) g):
  av Tryz.prog Tryz.f88 none call [1,1,0,1,0,0] (ag.mk [(1,.slice aI bx M bQ),(2,.fn 71 [] []),(15,.slice b off N aB),(16,.int .i64 (.ofNat N)),(17,.int .i64 (.ofNat i))] [] .none h) (.ret)
   (ag.mk [(6,.bool false)] [] .none g):=
 a1 [6] (hs:=[.b true,.v (.ptr b q),.v x,.v (.ptr aI aN),.v y,.c (.bool false) g,.b true]) (by kernel_rfl)<| .cons H1<| .cons az<| .cons a0<| .cons aS<| .cons bo<| .cons bV<| .cons (by kernel_rfl:(!false)=true)<| .nil
theorem SF(call:ay->List I->J->an)(h:J):
  av Tryz.prog Tryz.f88 none call [1,1,1] (ag.mk [] [] .none h) (.ret)
   (ag.mk [(6,.bool true)] [] .none h):=
 a1 [6] (hs:=[]) (by kernel_rfl)<| .nil
theorem Er(call:ay->List I->J->an)(v w:I)(h:J):
  av Tryz.prog Tryz.f71 none call [0] (ag.mk [(0,v),(1,w)] [] .none h) (.nrm)
   (ag.mk [(0,v),(1,w)] [] .none h):=
 a1 [0,1] (hs:=[]) (by kernel_rfl)<| .nil
theorem SG(call:ay->List I->J->an)(h:J):
  av Tryz.prog Tryz.f71 none call [1,0] (ag.mk [(0,.aR),(1,.aR)] [] .none h) (.ret)
   (ag.mk [(4,.bool true)] [] .none h):=
 a1 [4] (hs:=[.v (.bool true),.b true,.b true,.b true,.b true,.v (.bool true),.b true,.b true,.v (.bool true),.b true]) (by kernel_rfl)<| .cons (by kernel_rfl:c7 Tryz.prog h BinOp.eql 47 (Operand.tmp 5) (Operand.const (Value.pointer none)) I.aR I.aR=some (I.bool true))<| .cons (by kernel_rfl:true=true)<| .cons (by kernel_rfl:true=true)<| .cons (by kernel_rfl:true=true)<| .cons (by kernel_rfl:true=true)<| .cons (by kernel_rfl:c7 Tryz.prog h BinOp.eql 47 (Operand.tmp 11) (Operand.const (Value.pointer none)) I.aR I.aR=some (I.bool true))<| .cons (by kernel_rfl:true=true)<| .cons (by kernel_rfl:true=true)<| .cons (by kernel_rfl:c7 Tryz.prog h BinOp.eql 47 (Operand.tmp 14) (Operand.const (Value.pointer none)) I.aR I.aR=some (I.bool true))<| .cons (by kernel_rfl:true=true)<| .nil
theorem SH(call:ay->List I->J->an)(r:Nat)(h:J):
  av Tryz.prog Tryz.f71 none call [1,0] (ag.mk [(0,.aR),(1,.ptr r 0)] [] .none h) (.ret)
   (ag.mk [(4,.bool false)] [] .none h):=
 a1 [4] (hs:=[.v (.bool true),.b true,.b true,.b true,.b true,.v (.bool true),.b true,.b true,.v (.bool false),.b true]) (by kernel_rfl)<| .cons (by kernel_rfl:c7 Tryz.prog h BinOp.eql 47 (Operand.tmp 5) (Operand.const (Value.pointer none)) I.aR I.aR=some (I.bool true))<| .cons (by kernel_rfl:true=true)<| .cons (by kernel_rfl:true=true)<| .cons (by kernel_rfl:true=true)<| .cons (by kernel_rfl:true=true)<| .cons (by kernel_rfl:c7 Tryz.prog h BinOp.eql 47 (Operand.tmp 11) (Operand.const (Value.pointer none)) I.aR I.aR=some (I.bool true))<| .cons (by kernel_rfl:true=true)<| .cons (by kernel_rfl:true=true)<| .cons (by kernel_rfl:c7 Tryz.prog h BinOp.eql 47 (Operand.tmp 14) (Operand.const (Value.pointer none)) (I.ptr r 0) I.aR=some (I.bool false))<| .cons (by kernel_rfl:true=true)<| .nil
theorem SI(call:ay->List I->J->an)(r:Nat)(h:J):
  av Tryz.prog Tryz.f71 none call [1,0] (ag.mk [(0,.ptr r 0),(1,.aR)] [] .none h) (.ret)
   (ag.mk [(4,.bool false)] [] .none h):=
 a1 [4] (hs:=[.v (.bool false),.b false,.b false,.v (.bool true),.b false,.b true,.v (.bool false),.b false,.b false,.b false]) (by kernel_rfl)<| .cons (by kernel_rfl:c7 Tryz.prog h BinOp.eql 47 (Operand.tmp 5) (Operand.const (Value.pointer none)) (I.ptr r 0) I.aR=some (I.bool false))<| .cons (by kernel_rfl:false=false)<| .cons (by kernel_rfl:false=false)<| .cons (by kernel_rfl:c7 Tryz.prog h BinOp.eql 47 (Operand.tmp 8) (Operand.const (Value.pointer none)) I.aR I.aR=some (I.bool true))<| .cons (by kernel_rfl:false=false)<| .cons (by kernel_rfl:true=true)<| .cons (by kernel_rfl:c7 Tryz.prog h BinOp.eql 47 (Operand.tmp 11) (Operand.const (Value.pointer none)) (I.ptr r 0) I.aR=some (I.bool false))<| .cons (by kernel_rfl:false=false)<| .cons (by kernel_rfl:false=false)<| .cons (by kernel_rfl:false=false)<| .nil
theorem xy:∀(us bs:List a5),us.length≠bs.length->gl us bs=false
 |[],[],h=>absurd rfl h
 |[],_::_,_=>by rw[gl];all_goals simp
 |_::_,[],_=>by rw[gl];all_goals simp
 |x::us,y::bs,h=>by
  rw[gl,xy us bs (by simpa using h),Bool.and_false]
abbrev J5(m B:Nat)(h:J)(xs ys:List a5)(vs ws:List I):Prop:=∀i (aa:i<vs.length) (ad:i<ws.length) (ax:i<xs.length) (aO:i<ys.length) x,Ext B h x->∃al,Y m (.fn 71) [vs[i],ws[i]] x=.ret (.bool (rn xs[i] ys[i])) al/\Ext B x al
theorem J6{m B b off aI bx:Nat}{h:J}{xs ys:List a5}{vs ws:List I}(aB bQ:b5)(af:b<B)(di:aI<B)(a2:∀i (ae:i<vs.length),aq h b (off+i*1)=some vs[i])(te:∀i (ae:i<ws.length),aq h aI (bx+i*1)=some ws[i])(e3:vs.length=xs.length)(ky:ws.length=ys.length)(au:vs.length=ws.length)(hlen:vs.length<=90000)(ba:J5 m B h xs ys vs ws):∀(k i:Nat) (x:J),vs.length-i=k->i<=vs.length->Ext B h x->
  ∃e Γ y,dH Tryz.prog Tryz.f88 none (Y m) [1,1,0,1,0] (k+1) ⟨[(1,.slice aI bx ws.length bQ),(2,.fn 71 [] []),(15,.slice b off vs.length aB),(16,.int .i64 (Int.ofNat vs.length)),(17,.int .i64 (Int.ofNat i))],[],.none,x⟩ e ⟨Γ,[],.none,y⟩/\
   ((e=.exit 0/\Γ=[]/\gl (xs.drop i) (ys.drop i)=true)\/(e=.ret/\Γ=[(6,.bool false)]/\gl (xs.drop i) (ys.drop i)=false))/\Ext B h y
 |0,i,x,aw,ae,ab=>by
  obtain rfl:i=vs.length:=by omega
  rw[List.drop_of_length_le (by omega),List.drop_of_length_le (by omega)]
  exact⟨_,_,_,.exit (Ar (Y m) _ _ _ _ x (eh (by omega))) (by simp),.inl ⟨rfl,rfl,by rw[gl]⟩,ab⟩
 |k+1,i,x,aw,ae,ab=>by
  have aa:i<vs.length:=by omega
  have ad:i<ws.length:=by omega
  have ax:i<xs.length:=by omega
  have aO:i<ys.length:=by omega
  have aA:aq x b (off+i*1)=some vs[i]:=(i_ ab af).trans (a2 i aa)
  have aC:aq x aI (bx+i*1)=some ws[i]:=(i_ ab di).trans (te i ad)
  rw[List.drop_eq_getElem_cons ax,List.drop_eq_getElem_cons aO,gl]
  obtain⟨g,c1,c2⟩:=ba i aa ad ax aO x ab
  have aj:Ext B h g:=ab.trans (Nat.le_refl _) c2
  cases ah:rn xs[i] ys[i] with
  |true=>
   rw[ah] at c1
   obtain⟨e,Γ,y,bp,bB,cU⟩:=J6 aB bQ af di a2 te e3 ky au hlen ba k (i+1) g (by omega) (by omega) aj
   refine⟨e,Γ,y,.step (SD (Y m) b off vs.length aI bx ws.length i (off+i*1) (bx+i*1) (i+1) vs[i] ws[i] aB bQ x g (ds aa) ⟨aa,rfl⟩ aA ⟨ad,rfl⟩ aC c1 (ij aa (by omega))) bp,?_,cU⟩
   rw[Bool.true_and];exact bB
  |false=>
   rw[ah] at c1
   exact⟨_,_,_,.exit (SE (Y m) b off vs.length aI bx ws.length i (off+i*1) (bx+i*1) 0 vs[i] ws[i] aB bQ x g (ds aa) ⟨aa,rfl⟩ aA ⟨ad,rfl⟩ aC c1) (by simp),.inr ⟨rfl,rfl,by rw[Bool.false_and]⟩,aj⟩
theorem SJ(m:Nat){B:Nat}{h:J}{v w:I}{xs ys:List a5}{vs ws:List I}(a2:cL B h v vs)(af:cL B h w ws)(e3:vs.length=xs.length)(ky:ws.length=ys.length)(hlen:vs.length<=90000)(ba:J5 m B h xs ys vs ws):∃al,Y (m+1) (.fn 88) [v,w,.fn 71 [] []] h=.ret (.bool (gl xs ys)) al/\Ext B h al:=by
 have run:∃Γ y,av Tryz.prog Tryz.f88 none (Y m) [1] ⟨[(0,v),(1,w),(2,.fn 71 [] [])],[],.none,h⟩ .ret ⟨Γ,[],.none,y⟩/\Γ=[(6,.bool (gl xs ys))]/\Ext B h y:=by
  have go:∀z,av Tryz.prog Tryz.f88 none (Y m) [1,0] ⟨[(0,v),(1,w),(2,.fn 71 [] [])],[],.none,h⟩ .nrm ⟨[(0,v),(1,w),(2,.fn 71 [] [])],[],.none,h⟩->(∃e Γ y,av Tryz.prog Tryz.f88 none (Y m) [1,1,0] ⟨[(0,v),(1,w),(2,.fn 71 [] [])],[],.none,h⟩ e ⟨Γ,[],.none,y⟩/\((e=.nrm/\Γ=[]/\gl xs ys=true)\/(e=.ret/\Γ=[(6,.bool false)]/\gl xs ys=false))/\Ext B h y)->z=0->∃Γ y,av Tryz.prog Tryz.f88 none (Y m) [1] ⟨[(0,v),(1,w),(2,.fn 71 [] [])],[],.none,h⟩ .ret ⟨Γ,[],.none,y⟩/\Γ=[(6,.bool (gl xs ys))]/\Ext B h y:=by
   rintro z bb ⟨e,Γ,y,a3,fv,g4⟩ _
   rcases fv with⟨rfl,rfl,lS⟩|⟨rfl,rfl,lS⟩
   · rw[lS]
     exact⟨_,y,av.seq (p:=[1]) (by kernel_rfl) bb (av.seq (p:=[1,1]) (by kernel_rfl) a3 (SF (Y m) y)),rfl,g4⟩
   · rw[lS]
     exact⟨_,y,av.seq (p:=[1]) (by kernel_rfl) bb (av.e_ (p:=[1,1]) (by kernel_rfl) a3 (by simp)),rfl,g4⟩
  have nil:∀(us bs:List a5),us.length=0->bs.length=0->gl us bs=true:=λus bs aa ad=>by
   rw[List.eq_nil_of_length_eq_zero aa,List.eq_nil_of_length_eq_zero ad,gl]
  rcases a2 with⟨rfl,rfl⟩|⟨b,off,aB,rfl,eJ,fI,eL⟩
  · rcases af with⟨rfl,rfl⟩|⟨aI,bx,bQ,rfl,di,h4,et⟩
    · refine go 0 (SC (Y m) h) ⟨_,_,_,av.seq (p:=[1,1,0]) (by kernel_rfl) (J4 (Y m) _ h) (av.block (p:=[1,1,0,1]) (id:=0) (by kernel_rfl) (dH.run (p:=[1,1,0,1,0]) (n:=1) (by kernel_rfl) (.exit (Ar (Y m) 0 0 _ _ h (by kernel_rfl)) (by simp)) (by omega))),.inl ⟨rfl,rfl,nil _ _ e3.symm ky.symm⟩,Ext.refl _ _⟩ rfl
    · by_cases a4:ws.length=0
      · obtain rfl:ws=[]:=List.eq_nil_of_length_eq_zero a4
        refine go 0 (ck.post (Sz (Y m) aI bx 0 bQ h (by kernel_rfl)) ⟨rfl,rfl,rfl,trivial⟩) ⟨_,_,_,av.seq (p:=[1,1,0]) (by kernel_rfl) (J4 (Y m) _ h) (av.block (p:=[1,1,0,1]) (id:=0) (by kernel_rfl) (dH.run (p:=[1,1,0,1,0]) (n:=1) (by kernel_rfl) (.exit (Ar (Y m) 0 0 _ _ h (by kernel_rfl)) (by simp)) (by omega))),.inl ⟨rfl,rfl,nil _ _ e3.symm ky.symm⟩,Ext.refl _ _⟩ rfl
      · refine⟨[(6,.bool false)],_,av.e_ (p:=[1]) (by kernel_rfl) (ck.post (Sy (Y m) aI bx ws.length bQ h (p4 (λe=>a4 e.symm))) ⟨rfl,trivial⟩) (by simp),?_,Ext.refl _ _⟩
        rw[xy xs ys (by simp at e3;omega)]
  · rcases af with⟨rfl,rfl⟩|⟨aI,bx,bQ,rfl,di,h4,et⟩
    · by_cases a4:vs.length=0
      · obtain rfl:vs=[]:=List.eq_nil_of_length_eq_zero a4
        refine go 0 (ck.post (SB (Y m) b off 0 aB h (by kernel_rfl)) ⟨rfl,rfl,rfl,trivial⟩) ⟨_,_,_,av.seq (p:=[1,1,0]) (by kernel_rfl) (Ep (Y m) b off 0 aB _ h) (av.block (p:=[1,1,0,1]) (id:=0) (by kernel_rfl) (dH.run (p:=[1,1,0,1,0]) (n:=1) (by kernel_rfl) (.exit (Ar (Y m) 0 0 _ _ h (by kernel_rfl)) (by simp)) (by omega))),.inl ⟨rfl,rfl,nil _ _ e3.symm ky.symm⟩,Ext.refl _ _⟩ rfl
      · refine⟨[(6,.bool false)],_,av.e_ (p:=[1]) (by kernel_rfl) (ck.post (SA (Y m) b off vs.length aB h (p4 a4)) ⟨rfl,trivial⟩) (by simp),?_,Ext.refl _ _⟩
        rw[xy xs ys (by simp at ky;omega)]
    · by_cases a4:vs.length=ws.length
      · obtain⟨e,Γ,y,bp,bB,cU⟩:=J6 aB bQ eJ di fI h4 e3 ky a4 hlen ba vs.length 0 h (by omega) (by omega) (Ext.refl _ _)
        have hD:=dH.run (p:=[1,1,0,1,0]) (by kernel_rfl) bp (by omega)
        rw[List.drop_zero,List.drop_zero] at bB
        refine go 0 (ck.post (Sx (Y m) b off vs.length aI bx ws.length aB bQ h (uW a4)) ⟨rfl,rfl,rfl,trivial⟩) ?_ rfl
        rcases bB with⟨rfl,gw,k_⟩|⟨rfl,gw,k_⟩
        · exact⟨_,_,_,av.seq (p:=[1,1,0]) (by kernel_rfl) (Ep (Y m) b off vs.length aB _ h) (av.block (p:=[1,1,0,1]) (id:=0) (by kernel_rfl) hD),.inl ⟨rfl,gw,k_⟩,cU⟩
        · exact⟨_,_,_,av.seq (p:=[1,1,0]) (by kernel_rfl) (Ep (Y m) b off vs.length aB _ h) (av.nb (p:=[1,1,0,1]) (id:=0) (by kernel_rfl) hD (by simp)),.inr ⟨rfl,gw,k_⟩,cU⟩
      · refine⟨[(6,.bool false)],_,av.e_ (p:=[1]) (by kernel_rfl) (ck.post (Sw (Y m) b off vs.length aI bx ws.length aB bQ h (p4 a4)) ⟨rfl,trivial⟩) (by simp),?_,Ext.refl _ _⟩
        rw[xy xs ys (by omega)]
 obtain⟨Γ,y,bb,rfl,fv⟩:=run
 exact⟨y,dJ (intr:=bT) (n:=m) (args:=[v,w,.fn 71 [] []]) Tryz.func88 (by kernel_rfl) rfl (by kernel_rfl) (av.seq (p:=[]) (by kernel_rfl) (Sv (Y m) v w h) bb) (.inl rfl) rfl,fv⟩
end Go.Proofs.cR
namespace Go.Proofs.cR
open Go aD Go.Proofs dE
set_option maxRecDepth 100000
set_option maxHeartbeats 1000000
theorem xz:fZ none none=true:=by rw[fZ]
theorem As(t:a5):fZ none (some t)=false:=by rw[fZ]<;>simp
theorem At(t:a5):fZ (some t) none=false:=by rw[fZ]<;>simp
theorem SK(m:Nat)(h:J):Y (m+1) (.fn 71) [.aR,.aR] h=.ret (.bool true) h:=
 dJ (intr:=bT) (n:=m) (args:=[.aR,.aR]) Tryz.func71 (by kernel_rfl) rfl (by kernel_rfl) (av.seq (p:=[]) (by kernel_rfl) (Er (Y m) _ _ h) (av.e_ (p:=[1]) (by kernel_rfl) (SG (Y m) h) (by simp))) (.inl rfl) (by kernel_rfl)
theorem SL(m R:Nat)(h:J):Y (m+1) (.fn 71) [.aR,.ptr R 0] h=.ret (.bool false) h:=
 dJ (intr:=bT) (n:=m) (args:=[.aR,.ptr R 0]) Tryz.func71 (by kernel_rfl) rfl (by kernel_rfl) (av.seq (p:=[]) (by kernel_rfl) (Er (Y m) _ _ h) (av.e_ (p:=[1]) (by kernel_rfl) (SH (Y m) R h) (by simp))) (.inl rfl) (by kernel_rfl)
theorem SM(m R:Nat)(h:J):Y (m+1) (.fn 71) [.ptr R 0,.aR] h=.ret (.bool false) h:=
 dJ (intr:=bT) (n:=m) (args:=[.ptr R 0,.aR]) Tryz.func71 (by kernel_rfl) rfl (by kernel_rfl) (av.seq (p:=[]) (by kernel_rfl) (Er (Y m) _ _ h) (av.e_ (p:=[1]) (by kernel_rfl) (SI (Y m) R h) (by simp))) (.inl rfl) (by kernel_rfl)
theorem SN(m:Nat)(r:Nat)(a3:Nat)(h:J){R:an->Prop}(H:∃aQ:Nat,aq (h.room 54) r (0+0)=some (.int .i64 (.ofNat aQ))/\∃bI:Nat,aq (h.room 54) a3 (0+0)=some (.int .i64 (.ofNat bI))/\(aQ=bI->∃s1:List UInt8,aq (h.room 54) r (0+1)=some (.str s1)/\∃s2:List UInt8,aq (h.room 54) a3 (0+1)=some (.str s2)/\(cg s1 s2=true->∃v1:I,aq (h.room 54) r (0+2)=some v1/\∃v2:I,aq (h.room 54) a3 (0+2)=some v2/\∃a8:Bool,∃ao:J,(Y m) (.fn 87) [v1,v2] (h.room 54)=.ret (.bool a8) ao/\(a8=true->∃cX:I,aq ao r (0+3)=some cX/\∃v4:I,aq ao a3 (0+3)=some v4/\∃aI:Bool,∃ar:J,(Y m) (.fn 88) [cX,v4,.fn 71 [] []] ao=.ret (.bool aI) ar/\(aI=true->∃gx:I,aq ar r (0+4)=some gx/\∃v6:I,aq ar a3 (0+4)=some v6/\∃cK:Bool,∃aZ:J,(Y m) (.fn 71) [gx,v6] ar=.ret (.bool cK) aZ/\I.sound v1=true/\I.sound v2=true/\I.sound cX=true/\I.sound v4=true/\I.sound gx=true/\I.sound v6=true/\R (.ret (.bool cK) aZ))/\(aI=false->I.sound v1=true/\I.sound v2=true/\I.sound cX=true/\I.sound v4=true/\R (.ret (.bool false) ar)))/\(a8=false->I.sound v1=true/\I.sound v2=true/\R (.ret (.bool false) ao)))/\(cg s1 s2=false->R (.ret (.bool false) (h.room 54))))/\(¬aQ=bI->R (.ret (.bool false) (h.room 54)))):
  R (Y (m+1) (.fn 71) [.ptr r 0,.ptr a3 0] h):=
 dF (intr:=bT) [(63,.b2 .o),(67,.b2 .o)] [(0,.v (.ptr r 0)),(1,.v (.ptr a3 0))] Tryz.func71 (by kernel_rfl) (by kernel_rfl) (by kernel_rfl) rfl (Eq.mp (by kernel_rfl) H)
theorem J7:∀(K:Nat) (oa ob:Option a5),c8 oa<=K->c8 oa<=90000->(∀t,oa=some t->g6 t<=90000)->∀(m B:Nat) (h:J) (v w:I),2*c8 oa+3<=m->cE B h oa v->cE B h ob w->∃al,Y m (.fn 71) [v,w] h=.ret (.bool (fZ oa ob)) al/\Ext B h al
 |K,none,none,_,_,_,m,B,h,v,w,hm,aE,hw=>by
  obtain rfl:v=.aR:=aE
  obtain rfl:w=.aR:=hw
  obtain⟨m,rfl⟩:∃j,m=j+1:=⟨m-1,by omega⟩
  rw[xz]
  exact⟨h,SK m h,Ext.refl _ _⟩
 |K,none,some (.mk b4 b0 e2 h6 nL),_,_,_,m,B,h,v,w,hm,aE,hw=>by
  obtain rfl:v=.aR:=aE
  obtain⟨R,cD,bR,cl,vs,bS,bf,up,rfl,ad,ax,aO,bZ,dj,ek⟩:=hw
  obtain⟨m,rfl⟩:∃j,m=j+1:=⟨m-1,by omega⟩
  rw[As]
  exact⟨h,SL m R h,Ext.refl _ _⟩
 |K,some (.mk b4 b0 e2 h6 nL),none,_,_,_,m,B,h,v,w,hm,aE,hw=>by
  obtain rfl:w=.aR:=hw
  obtain⟨R,cD,bR,cl,vs,bS,bf,up,rfl,ad,ax,aO,bZ,dj,ek⟩:=aE
  obtain⟨m,rfl⟩:∃j,m=j+1:=⟨m-1,by omega⟩
  rw[At]
  exact⟨h,SM m R h,Ext.refl _ _⟩
 |0,some t,some u,dq,_,_,m,B,h,v,w,hm,aE,hw=>by
  rw[im] at dq
  have:=nV t
  omega
 |K+1,some (.mk k bD aJ xs rt),some (.mk dA iH jx il iY),dq,fO,jQ,m,B,h,v,w,hm,aE,hw=>by
  rw[im,o4] at dq fO hm
  obtain⟨R,cD,bR,cl,vs,bS,bf,up,rfl,ad,ax,aO,bZ,dj,ek⟩:=aE
  obtain⟨dZ,rr,ru,p5,pC,xA,lx,xB,rfl,lF,n2,qP,Au,uX,Es⟩:=hw
  obtain⟨m,rfl⟩:∃j,m=j+2:=⟨m-2,by omega⟩
  have aK:=jQ _ rfl
  rw[g6] at aK
  have e3:=c6.len dj
  have ky:=c6.len uX
  have kT:=nW xs
  have hE:Ext B h (h.room 54):=Ext.room B h 54
  have n1:=(hE.get R ad).trans ax
  have p6:=(hE.get dZ lF).trans n2
  have ba:∀(oa ob:Option a5),c8 oa<=K->c8 oa<=90000->(∀t,oa=some t->g6 t<=90000)->∀(m B:Nat) (h:J) (v w:I),2*c8 oa+3<=m->cE B h oa v->cE B h ob w->∃al,Y m (.fn 71) [v,w] h=.ret (.bool (fZ oa ob)) al/\Ext B h al:=J7 K
  obtain⟨ao,c1,bh⟩:=Su m (aO.bH (dT.ext hE (Nat.le_refl _))) (qP.bH (dT.ext hE (Nat.le_refl _))) (by omega)
  have jA:Ext B h ao:=hE.trans (Nat.le_refl _) bh
  have SO:=(jA.get R ad).trans ax
  have SP:=(jA.get dZ lF).trans n2
  obtain⟨ar,c2,bz⟩:=SJ m (xs:=xs) (ys:=il) (bZ.bH (dT.ext jA (Nat.le_refl _))) (Au.bH (dT.ext jA (Nat.le_refl _))) e3 ky (by omega) (λi i1 i2 i3 i4 x ab=>by
   have lD:=ki (List.getElem_mem i3)
   have oE:=rp (List.getElem_mem i3)
   have ex:=jA.trans (Nat.le_refl _) ab
   have:=ba (some xs[i]) (some il[i]) (by rw[im];omega) (by rw[im];omega) (λt a6=>by obtain rfl:=Option.some.inj a6;omega) m B x vs[i] pC[i] (by rw[im];omega) (cN.bH (dT.ext ex (Nat.le_refl _)) _ _ (c6.get dj i i1 i3)) (cN.bH (dT.ext ex (Nat.le_refl _)) _ _ (c6.get uX i i2 i4))
   simpa only[fZ] using this)
  have n3:Ext B h ar:=jA.trans (Nat.le_refl _) bz
  have SQ:=(n3.get R ad).trans ax
  have SR:=(n3.get dZ lF).trans n2
  obtain⟨aZ,c3,db⟩:=ba rt iY (by omega) (by omega) (λt a6=>by subst a6;rw[p0] at aK;omega) (m+1) B ar cl p5 (by omega) (cE.bH (dT.ext n3 (Nat.le_refl _)) _ _ ek) (cE.bH (dT.ext n3 (Nat.le_refl _)) _ _ Es)
  have Av:Ext B h aZ:=n3.trans (Nat.le_refl _) db
  have hO:fZ (some (.mk k bD aJ xs rt)) (some (.mk dA iH jx il iY))=(Nat.beq k dA&&(cg bD iH&&(fY aJ jx&&(gl xs il&&fZ rt iY)))):=by rw[fZ,rn]
  rw[hO]
  have fin:∀b y,b=(Nat.beq k dA&&(cg bD iH&&(fY aJ jx&&(gl xs il&&fZ rt iY))))->Ext B h y->∃al,an.ret (.bool b) y=.ret (.bool (Nat.beq k dA&&(cg bD iH&&(fY aJ jx&&(gl xs il&&fZ rt iY))))) al/\Ext B h al:=λb y e x=>⟨y,by rw[e],x⟩
  refine SN (m+1) R dZ h (R:=λx=>∃al,x=.ret (.bool (Nat.beq k dA&&(cg bD iH&&(fY aJ jx&&(gl xs il&&fZ rt iY))))) al/\Ext B h al) ⟨k,aH n1 rfl,dA,aH p6 rfl,λaw=>⟨bD,aH n1 rfl,iH,aH p6 rfl,λeJ=>⟨cD,aH n1 rfl,rr,aH p6 rfl,_,ao,c1,λdi=>⟨bR,aH SO rfl,ru,aH SP rfl,_,ar,c2,λsy=>⟨cl,aH SQ rfl,p5,aH SR rfl,_,aZ,c3,hC,hC,hC,hC,hC,hC,fin _ _ ?_ Av⟩,λsy=>⟨hC,hC,hC,hC,fin _ _ (by rw[sy];simp) n3⟩⟩,λdi=>⟨hC,hC,fin _ _ (by rw[di];simp) jA⟩⟩,λeJ=>fin _ _ (by rw[eJ];simp) hE⟩,λaw=>fin _ _ ?_ hE⟩
  · subst aw
    rw[eJ,di,sy,Nat.beq_refl k];rfl
  · rw[show Nat.beq k dA=false by
     cases ab:Nat.beq k dA with
     |false=>rfl
     |true=>exact absurd (Nat.eq_of_beq_eq_true ab) aw];rfl
end Go.Proofs.cR
namespace Go.Proofs.cR
open Go aD Go.Proofs dE
set_option maxRecDepth 100000
set_option maxHeartbeats 1000000
theorem Aw(call:ay->List I->J->an)(v w:I)(h:J):
  av Tryz.prog Tryz.f80 none call [0] (ag.mk [(0,v),(1,w)] [] .none h) (.nrm)
   (ag.mk [(0,v),(1,w)] [] .none h):=
 a1 [0,1] (hs:=[]) (by kernel_rfl)<| .nil
theorem SS(call:ay->List I->J->an)(h:J):
  av Tryz.prog Tryz.f80 none call [1,0] (ag.mk [(0,.aR),(1,.aR)] [] .none h) (.ret)
   (ag.mk [(4,.bool true)] [] .none h):=
 a1 [4] (hs:=[.v (.bool true),.b true,.b true,.b true,.b true,.v (.bool true),.b true,.b true,.v (.bool true),.b true]) (by kernel_rfl)<| .cons (by kernel_rfl:c7 Tryz.prog h BinOp.eql 47 (Operand.tmp 7) (Operand.const (Value.pointer none)) I.aR I.aR=some (I.bool true))<| .cons (by kernel_rfl:true=true)<| .cons (by kernel_rfl:true=true)<| .cons (by kernel_rfl:true=true)<| .cons (by kernel_rfl:true=true)<| .cons (by kernel_rfl:c7 Tryz.prog h BinOp.eql 47 (Operand.tmp 13) (Operand.const (Value.pointer none)) I.aR I.aR=some (I.bool true))<| .cons (by kernel_rfl:true=true)<| .cons (by kernel_rfl:true=true)<| .cons (by kernel_rfl:c7 Tryz.prog h BinOp.eql 47 (Operand.tmp 16) (Operand.const (Value.pointer none)) I.aR I.aR=some (I.bool true))<| .cons (by kernel_rfl:true=true)<| .nil
theorem SU(call:ay->List I->J->an)(h:J):
  av Tryz.prog Tryz.f62 none call [1,0] (ag.mk [(0,.aR),(1,.aR)] [] .none h) (.ret)
   (ag.mk [(4,.bool true)] [] .none h):=
 a1 [4] (hs:=[.v (.bool true),.b true,.b true,.b true,.b true,.v (.bool true),.b true,.b true,.v (.bool true),.b true]) (by kernel_rfl)<| .cons (by kernel_rfl:c7 Tryz.prog h BinOp.eql 47 (Operand.tmp 5) (Operand.const (Value.pointer none)) I.aR I.aR=some (I.bool true))<| .cons (by kernel_rfl:true=true)<| .cons (by kernel_rfl:true=true)<| .cons (by kernel_rfl:true=true)<| .cons (by kernel_rfl:true=true)<| .cons (by kernel_rfl:c7 Tryz.prog h BinOp.eql 47 (Operand.tmp 11) (Operand.const (Value.pointer none)) I.aR I.aR=some (I.bool true))<| .cons (by kernel_rfl:true=true)<| .cons (by kernel_rfl:true=true)<| .cons (by kernel_rfl:c7 Tryz.prog h BinOp.eql 47 (Operand.tmp 14) (Operand.const (Value.pointer none)) I.aR I.aR=some (I.bool true))<| .cons (by kernel_rfl:true=true)<| .nil
theorem SV(call:ay->List I->J->an)(r:Nat)(h:J):
  av Tryz.prog Tryz.f80 none call [1,0] (ag.mk [(0,.aR),(1,.ptr r 0)] [] .none h) (.ret)
   (ag.mk [(4,.bool false)] [] .none h):=
 a1 [4] (hs:=[.v (.bool true),.b true,.b true,.b true,.b true,.v (.bool true),.b true,.b true,.v (.bool false),.b true]) (by kernel_rfl)<| .cons (by kernel_rfl:c7 Tryz.prog h BinOp.eql 47 (Operand.tmp 7) (Operand.const (Value.pointer none)) I.aR I.aR=some (I.bool true))<| .cons (by kernel_rfl:true=true)<| .cons (by kernel_rfl:true=true)<| .cons (by kernel_rfl:true=true)<| .cons (by kernel_rfl:true=true)<| .cons (by kernel_rfl:c7 Tryz.prog h BinOp.eql 47 (Operand.tmp 13) (Operand.const (Value.pointer none)) I.aR I.aR=some (I.bool true))<| .cons (by kernel_rfl:true=true)<| .cons (by kernel_rfl:true=true)<| .cons (by kernel_rfl:c7 Tryz.prog h BinOp.eql 47 (Operand.tmp 16) (Operand.const (Value.pointer none)) (I.ptr r 0) I.aR=some (I.bool false))<| .cons (by kernel_rfl:true=true)<| .nil
theorem SW(call:ay->List I->J->an)(r:Nat)(h:J):
  av Tryz.prog Tryz.f62 none call [1,0] (ag.mk [(0,.aR),(1,.ptr r 0)] [] .none h) (.ret)
   (ag.mk [(4,.bool false)] [] .none h):=
 a1 [4] (hs:=[.v (.bool true),.b true,.b true,.b true,.b true,.v (.bool true),.b true,.b true,.v (.bool false),.b true]) (by kernel_rfl)<| .cons (by kernel_rfl:c7 Tryz.prog h BinOp.eql 47 (Operand.tmp 5) (Operand.const (Value.pointer none)) I.aR I.aR=some (I.bool true))<| .cons (by kernel_rfl:true=true)<| .cons (by kernel_rfl:true=true)<| .cons (by kernel_rfl:true=true)<| .cons (by kernel_rfl:true=true)<| .cons (by kernel_rfl:c7 Tryz.prog h BinOp.eql 47 (Operand.tmp 11) (Operand.const (Value.pointer none)) I.aR I.aR=some (I.bool true))<| .cons (by kernel_rfl:true=true)<| .cons (by kernel_rfl:true=true)<| .cons (by kernel_rfl:c7 Tryz.prog h BinOp.eql 47 (Operand.tmp 14) (Operand.const (Value.pointer none)) (I.ptr r 0) I.aR=some (I.bool false))<| .cons (by kernel_rfl:true=true)<| .nil
theorem SX(call:ay->List I->J->an)(r:Nat)(h:J):
  av Tryz.prog Tryz.f80 none call [1,0] (ag.mk [(0,.ptr r 0),(1,.aR)] [] .none h) (.ret)
   (ag.mk [(4,.bool false)] [] .none h):=
 a1 [4] (hs:=[.v (.bool false),.b false,.b false,.v (.bool true),.b false,.b true,.v (.bool false),.b false,.b false,.b false]) (by kernel_rfl)<| .cons (by kernel_rfl:c7 Tryz.prog h BinOp.eql 47 (Operand.tmp 7) (Operand.const (Value.pointer none)) (I.ptr r 0) I.aR=some (I.bool false))<| .cons (by kernel_rfl:false=false)<| .cons (by kernel_rfl:false=false)<| .cons (by kernel_rfl:c7 Tryz.prog h BinOp.eql 47 (Operand.tmp 10) (Operand.const (Value.pointer none)) I.aR I.aR=some (I.bool true))<| .cons (by kernel_rfl:false=false)<| .cons (by kernel_rfl:true=true)<| .cons (by kernel_rfl:c7 Tryz.prog h BinOp.eql 47 (Operand.tmp 13) (Operand.const (Value.pointer none)) (I.ptr r 0) I.aR=some (I.bool false))<| .cons (by kernel_rfl:false=false)<| .cons (by kernel_rfl:false=false)<| .cons (by kernel_rfl:false=false)<| .nil
theorem SY(call:ay->List I->J->an)(r:Nat)(h:J):
  av Tryz.prog Tryz.f62 none call [1,0] (ag.mk [(0,.ptr r 0),(1,.aR)] [] .none h) (.ret)
   (ag.mk [(4,.bool false)] [] .none h):=
 a1 [4] (hs:=[.v (.bool false),.b false,.b false,.v (.bool true),.b false,.b true,.v (.bool false),.b false,.b false,.b false]) (by kernel_rfl)<| .cons (by kernel_rfl:c7 Tryz.prog h BinOp.eql 47 (Operand.tmp 5) (Operand.const (Value.pointer none)) (I.ptr r 0) I.aR=some (I.bool false))<| .cons (by kernel_rfl:false=false)<| .cons (by kernel_rfl:false=false)<| .cons (by kernel_rfl:c7 Tryz.prog h BinOp.eql 47 (Operand.tmp 8) (Operand.const (Value.pointer none)) I.aR I.aR=some (I.bool true))<| .cons (by kernel_rfl:false=false)<| .cons (by kernel_rfl:true=true)<| .cons (by kernel_rfl:c7 Tryz.prog h BinOp.eql 47 (Operand.tmp 11) (Operand.const (Value.pointer none)) (I.ptr r 0) I.aR=some (I.bool false))<| .cons (by kernel_rfl:false=false)<| .cons (by kernel_rfl:false=false)<| .cons (by kernel_rfl:false=false)<| .nil
theorem SZ(call:ay->List I->J->an)(r a3:Nat)(h:J):
  av Tryz.prog Tryz.f80 none call [1,0] (ag.mk [(0,.ptr r 0),(1,.ptr a3 0)] [] .none h) (.nrm)
   (ag.mk [(0,.ptr r 0),(1,.ptr a3 0)] [] .none h):=
 a1 [0,1] (hs:=[.v (.bool false),.b false,.b false,.v (.bool false),.b false,.b false]) (by kernel_rfl)<| .cons (by kernel_rfl:c7 Tryz.prog h BinOp.eql 47 (Operand.tmp 7) (Operand.const (Value.pointer none)) (I.ptr r 0) I.aR=some (I.bool false))<| .cons (by kernel_rfl:false=false)<| .cons (by kernel_rfl:false=false)<| .cons (by kernel_rfl:c7 Tryz.prog h BinOp.eql 47 (Operand.tmp 10) (Operand.const (Value.pointer none)) (I.ptr a3 0) I.aR=some (I.bool false))<| .cons (by kernel_rfl:false=false)<| .cons (by kernel_rfl:false=false)<| .nil
theorem S0(call:ay->List I->J->an)(r a3:Nat)(h:J):
  av Tryz.prog Tryz.f62 none call [1,0] (ag.mk [(0,.ptr r 0),(1,.ptr a3 0)] [] .none h) (.nrm)
   (ag.mk [(0,.ptr r 0),(1,.ptr a3 0)] [] .none h):=
 a1 [0,1] (hs:=[.v (.bool false),.b false,.b false,.v (.bool false),.b false,.b false]) (by kernel_rfl)<| .cons (by kernel_rfl:c7 Tryz.prog h BinOp.eql 47 (Operand.tmp 5) (Operand.const (Value.pointer none)) (I.ptr r 0) I.aR=some (I.bool false))<| .cons (by kernel_rfl:false=false)<| .cons (by kernel_rfl:false=false)<| .cons (by kernel_rfl:c7 Tryz.prog h BinOp.eql 47 (Operand.tmp 8) (Operand.const (Value.pointer none)) (I.ptr a3 0) I.aR=some (I.bool false))<| .cons (by kernel_rfl:false=false)<| .cons (by kernel_rfl:false=false)<| .nil
theorem J8(call:ay->List I->J->an)(r a3:Nat)(h:J):
  av Tryz.prog Tryz.f80 none call [1,1,1,0,0] (ag.mk [(0,.ptr r 0),(1,.ptr a3 0)] [] .none h) (.nrm)
   (ag.mk [(0,.ptr r 0),(1,.ptr a3 0),(5,.int .i64 (.ofNat 0))] [] .none h):=
 a1 [0,1,5] (hs:=[]) (by kernel_rfl)<| .nil
theorem S1(call:ay->List I->J->an)(r a3 i N:Nat)(v:I)(h:J)
  (H1:aq h r (0+2)=some v)
  (az:bU Tryz.prog h 48 v=some (.int .i64 (.ofNat N)))
  (a0:bC (.ofNat i) (.ofNat N)=false):
  av Tryz.prog Tryz.f80 none call [1,1,1,0,1,0,0] (ag.mk [(0,.ptr r 0),(1,.ptr a3 0),(5,.int .i64 (.ofNat i))] [] .none h) (.exit 0)
   (ag.mk [(0,.ptr r 0),(1,.ptr a3 0)] [] .none h):=
 a1 [0,1] (hs:=[.v v,.o (.int .i64 (.ofNat N)),.b false]) (by kernel_rfl)<| .cons H1<| .cons az<| .cons a0<| .nil
theorem S2(call:ay->List I->J->an)(r a3 b off N aI bx M i q aN j:Nat)(s t:List UInt8)(aB bQ:b5)(h:J)
  (H1:aq h r (0+2)=some (.slice b off N aB))
  (az:bC (.ofNat i) (.ofNat N)=true)
  (a0:aq (J.room h 15) r (0+2)=some (.slice b off N aB))
  (aS:Nat.le (Nat.succ i) N/\I.ptr b q=I.ptr b (off+i*1))
  (bo:aq (J.room h 15) b q=some (.str s))
  (bV:aq (J.room h 15) a3 (0+2)=some (.slice aI bx M bQ))
  (cw:Nat.le (Nat.succ i) M/\I.ptr aI aN=I.ptr aI (bx+i*1))
  (dS:aq (J.room h 15) aI aN=some (.str t))
  (fJ:(!cg s t)=true):
  av Tryz.prog Tryz.f80 none call [1,1,1,0,1,0,0] (ag.mk [(0,.ptr r 0),(1,.ptr a3 0),(5,.int .i64 (.ofNat i))] [] .none h) (.ret)
   (ag.mk [(0,.ptr r 0),(1,.ptr a3 0),(4,.bool false),(5,.int .i64 (.ofNat i))] [] .none (J.room h 15)):=
 a1 [0,1,4,5] (hs:=[.v (.slice b off N aB),.b true,.v (.slice b off N aB),.v (.ptr b q),.v (.str s),.v (.slice aI bx M bQ),.v (.ptr aI aN),.v (.str t),.b true]) (by kernel_rfl)<| .cons H1<| .cons az<| .cons a0<| .cons aS<| .cons bo<| .cons bV<| .cons cw<| .cons dS<| .cons (by kernel_rfl:I.sound (I.ptr r 0)=true)<| .cons (by kernel_rfl:I.ptr r 0=I.ptr r 0)<| .cons (by kernel_rfl:I.sound (I.ptr r 0)=true)<| .cons (by kernel_rfl:I.ptr r 0=I.ptr r 0)<| .cons (by kernel_rfl:I.sound (I.ptr r (0+2))=true)<| .cons (by kernel_rfl:I.ptr r (0+2)=I.ptr r (0+2))<| .cons (by kernel_rfl:I.sound (I.slice b off N aB)=true)<| .cons a0<| .cons (by kernel_rfl:I.sound (I.int IntKind.i64 (Int.ofNat i))=true)<| .cons (by kernel_rfl:I.int IntKind.i64 (Int.ofNat i)=I.int IntKind.i64 (Int.ofNat i))<| .cons (by kernel_rfl:I.sound (I.ptr b q)=true)<| .cons aS<| .cons (by kernel_rfl:I.sound (I.str s)=true)<| .cons bo<| .cons (by kernel_rfl:I.sound (I.ptr a3 0)=true)<| .cons (by kernel_rfl:I.ptr a3 0=I.ptr a3 0)<| .cons (by kernel_rfl:I.sound (I.ptr a3 0)=true)<| .cons (by kernel_rfl:I.ptr a3 0=I.ptr a3 0)<| .cons (by kernel_rfl:I.sound (I.ptr a3 (0+2))=true)<| .cons (by kernel_rfl:I.ptr a3 (0+2)=I.ptr a3 (0+2))<| .cons (by kernel_rfl:I.sound (I.slice aI bx M bQ)=true)<| .cons bV<| .cons (by kernel_rfl:I.sound (I.int IntKind.i64 (Int.ofNat i))=true)<| .cons (by kernel_rfl:I.int IntKind.i64 (Int.ofNat i)=I.int IntKind.i64 (Int.ofNat i))<| .cons (by kernel_rfl:I.sound (I.ptr aI aN)=true)<| .cons cw<| .cons (by kernel_rfl:I.sound (I.str t)=true)<| .cons dS<| .cons (by kernel_rfl:I.sound (I.bool !cg s t)=true)<| .cons (by kernel_rfl:(I.bool !cg s t)=I.bool !cg s t)<| .cons fJ<| .nil
theorem S3(call:ay->List I->J->an)(r a3 b off N aI bx M i q aN j:Nat)(s t:List UInt8)(aB bQ:b5)(h:J)
  (H1:aq h r (0+2)=some (.slice b off N aB))
  (az:bC (.ofNat i) (.ofNat N)=true)
  (a0:aq (J.room h 15) r (0+2)=some (.slice b off N aB))
  (aS:Nat.le (Nat.succ i) N/\I.ptr b q=I.ptr b (off+i*1))
  (bo:aq (J.room h 15) b q=some (.str s))
  (bV:aq (J.room h 15) a3 (0+2)=some (.slice aI bx M bQ))
  (cw:Nat.le (Nat.succ i) M/\I.ptr aI aN=I.ptr aI (bx+i*1))
  (dS:aq (J.room h 15) aI aN=some (.str t))
  (fJ:(!cg s t)=false)
  (hF:arith .add .i64 (.ofNat i) (.ofNat 1)=some (.int .i64 (.ofNat j))):
  av Tryz.prog Tryz.f80 none call [1,1,1,0,1,0,0] (ag.mk [(0,.ptr r 0),(1,.ptr a3 0),(5,.int .i64 (.ofNat i))] [] .none h) (.nrm)
   (ag.mk [(0,.ptr r 0),(1,.ptr a3 0),(5,.int .i64 (.ofNat j))] [] .none (J.room h 15)):=
 a1 [0,1,4,5] (hs:=[.v (.slice b off N aB),.b true,.v (.slice b off N aB),.v (.ptr b q),.v (.str s),.v (.slice aI bx M bQ),.v (.ptr aI aN),.v (.str t),.b false,.v (.int .i64 (.ofNat j))]) (by kernel_rfl)<| .cons H1<| .cons az<| .cons a0<| .cons aS<| .cons bo<| .cons bV<| .cons cw<| .cons dS<| .cons (by kernel_rfl:I.sound (I.ptr r 0)=true)<| .cons (by kernel_rfl:I.ptr r 0=I.ptr r 0)<| .cons (by kernel_rfl:I.sound (I.ptr r 0)=true)<| .cons (by kernel_rfl:I.ptr r 0=I.ptr r 0)<| .cons (by kernel_rfl:I.sound (I.ptr r (0+2))=true)<| .cons (by kernel_rfl:I.ptr r (0+2)=I.ptr r (0+2))<| .cons (by kernel_rfl:I.sound (I.slice b off N aB)=true)<| .cons a0<| .cons (by kernel_rfl:I.sound (I.int IntKind.i64 (Int.ofNat i))=true)<| .cons (by kernel_rfl:I.int IntKind.i64 (Int.ofNat i)=I.int IntKind.i64 (Int.ofNat i))<| .cons (by kernel_rfl:I.sound (I.ptr b q)=true)<| .cons aS<| .cons (by kernel_rfl:I.sound (I.str s)=true)<| .cons bo<| .cons (by kernel_rfl:I.sound (I.ptr a3 0)=true)<| .cons (by kernel_rfl:I.ptr a3 0=I.ptr a3 0)<| .cons (by kernel_rfl:I.sound (I.ptr a3 0)=true)<| .cons (by kernel_rfl:I.ptr a3 0=I.ptr a3 0)<| .cons (by kernel_rfl:I.sound (I.ptr a3 (0+2))=true)<| .cons (by kernel_rfl:I.ptr a3 (0+2)=I.ptr a3 (0+2))<| .cons (by kernel_rfl:I.sound (I.slice aI bx M bQ)=true)<| .cons bV<| .cons (by kernel_rfl:I.sound (I.int IntKind.i64 (Int.ofNat i))=true)<| .cons (by kernel_rfl:I.int IntKind.i64 (Int.ofNat i)=I.int IntKind.i64 (Int.ofNat i))<| .cons (by kernel_rfl:I.sound (I.ptr aI aN)=true)<| .cons cw<| .cons (by kernel_rfl:I.sound (I.str t)=true)<| .cons dS<| .cons (by kernel_rfl:I.sound (I.bool !cg s t)=true)<| .cons (by kernel_rfl:(I.bool !cg s t)=I.bool !cg s t)<| .cons fJ<| .cons hF<| .nil
theorem J9(call:ay->List I->J->an)(r a3:Nat)(h:J):
  av Tryz.prog Tryz.f80 none call [1,1,1,1,0,0] (ag.mk [(0,.ptr r 0),(1,.ptr a3 0)] [] .none h) (.nrm)
   (ag.mk [(0,.ptr r 0),(1,.ptr a3 0),(6,.int .i64 (.ofNat 0))] [] .none h):=
 a1 [0,1,6] (hs:=[]) (by kernel_rfl)<| .nil
theorem S4(call:ay->List I->J->an)(r a3 i N:Nat)(v:I)(h:J)
  (H1:aq h r (0+3)=some v)
  (az:bU Tryz.prog h 49 v=some (.int .i64 (.ofNat N)))
  (a0:bC (.ofNat i) (.ofNat N)=false):
  av Tryz.prog Tryz.f80 none call [1,1,1,1,0,1,0,0] (ag.mk [(0,.ptr r 0),(1,.ptr a3 0),(6,.int .i64 (.ofNat i))] [] .none h) (.exit 2)
   (ag.mk [(0,.ptr r 0),(1,.ptr a3 0)] [] .none h):=
 a1 [0,1] (hs:=[.v v,.o (.int .i64 (.ofNat N)),.b false]) (by kernel_rfl)<| .cons H1<| .cons az<| .cons a0<| .nil
theorem S5(call:ay->List I->J->an)(r a3 b off N aI bx M i q aN j:Nat)(x y:I)(cK:Bool)(aB bQ:b5)(h g:J)
  (H1:aq h r (0+3)=some (.slice b off N aB))
  (az:bC (.ofNat i) (.ofNat N)=true)
  (a0:aq (J.room h 16) r (0+3)=some (.slice b off N aB))
  (aS:Nat.le (Nat.succ i) N/\I.ptr b q=I.ptr b (off+i*1))
  (bo:aq (J.room h 16) b q=some x)
  (bV:aq (J.room h 16) a3 (0+3)=some (.slice aI bx M bQ))
  (cw:Nat.le (Nat.succ i) M/\I.ptr aI aN=I.ptr aI (bx+i*1))
  (dS:aq (J.room h 16) aI aN=some y)
  (fJ:call (.fn 80) [x,y] (J.room h 16)=an.ret (.bool cK) g)
  (hF:I.sound x=true:=by first|with_reducible assumption|rfl|exact cL.snd (by with_reducible assumption)|exact cL.eK (by with_reducible assumption)|exact cE.snd (by with_reducible assumption)|exact cE.eK (by with_reducible assumption)|exact cN.snd (by with_reducible assumption)|exact cN.eK (by with_reducible assumption))
  (kk:I.sound y=true:=by first|with_reducible assumption|rfl|exact cL.snd (by with_reducible assumption)|exact cL.eK (by with_reducible assumption)|exact cE.snd (by with_reducible assumption)|exact cE.eK (by with_reducible assumption)|exact cN.snd (by with_reducible assumption)|exact cN.eK (by with_reducible assumption))
  (lT:(!cK)=true):
  av Tryz.prog Tryz.f80 none call [1,1,1,1,0,1,0,0] (ag.mk [(0,.ptr r 0),(1,.ptr a3 0),(6,.int .i64 (.ofNat i))] [] .none h) (.ret)
   (ag.mk [(0,.ptr r 0),(1,.ptr a3 0),(4,.bool false),(6,.int .i64 (.ofNat i))] [] .none g):=
 a1 [0,1,4,6] (hs:=[.v (.slice b off N aB),.b true,.v (.slice b off N aB),.v (.ptr b q),.v x,.v (.slice aI bx M bQ),.v (.ptr aI aN),.v y,.c (.bool cK) g,.b true]) (by kernel_rfl)<| .cons H1<| .cons az<| .cons a0<| .cons aS<| .cons bo<| .cons bV<| .cons cw<| .cons dS<| .cons fJ<| .cons (by kernel_rfl:I.sound (I.ptr r 0)=true)<| .cons (by kernel_rfl:I.ptr r 0=I.ptr r 0)<| .cons (by kernel_rfl:I.sound (I.ptr r 0)=true)<| .cons (by kernel_rfl:I.ptr r 0=I.ptr r 0)<| .cons (by kernel_rfl:I.sound (I.ptr r (0+3))=true)<| .cons (by kernel_rfl:I.ptr r (0+3)=I.ptr r (0+3))<| .cons (by kernel_rfl:I.sound (I.slice b off N aB)=true)<| .cons a0<| .cons (by kernel_rfl:I.sound (I.int IntKind.i64 (Int.ofNat i))=true)<| .cons (by kernel_rfl:I.int IntKind.i64 (Int.ofNat i)=I.int IntKind.i64 (Int.ofNat i))<| .cons (by kernel_rfl:I.sound (I.ptr b q)=true)<| .cons aS<| .cons hF<| .cons bo<| .cons (by kernel_rfl:I.sound (I.ptr a3 0)=true)<| .cons (by kernel_rfl:I.ptr a3 0=I.ptr a3 0)<| .cons (by kernel_rfl:I.sound (I.ptr a3 0)=true)<| .cons (by kernel_rfl:I.ptr a3 0=I.ptr a3 0)<| .cons (by kernel_rfl:I.sound (I.ptr a3 (0+3))=true)<| .cons (by kernel_rfl:I.ptr a3 (0+3)=I.ptr a3 (0+3))<| .cons (by kernel_rfl:I.sound (I.slice aI bx M bQ)=true)<| .cons bV<| .cons (by kernel_rfl:I.sound (I.int IntKind.i64 (Int.ofNat i))=true)<| .cons (by kernel_rfl:I.int IntKind.i64 (Int.ofNat i)=I.int IntKind.i64 (Int.ofNat i))<| .cons (by kernel_rfl:I.sound (I.ptr aI aN)=true)<| .cons cw<| .cons kk<| .cons dS<| .cons (by kernel_rfl:I.sound (I.bool !cK)=true)<| .cons (by kernel_rfl:(I.bool !cK)=I.bool !cK)<| .cons lT<| .nil
theorem S6(call:ay->List I->J->an)(r a3 b off N aI bx M i q aN j:Nat)(x y:I)(cK:Bool)(aB bQ:b5)(h g:J)
  (H1:aq h r (0+3)=some (.slice b off N aB))
  (az:bC (.ofNat i) (.ofNat N)=true)
  (a0:aq (J.room h 16) r (0+3)=some (.slice b off N aB))
  (aS:Nat.le (Nat.succ i) N/\I.ptr b q=I.ptr b (off+i*1))
  (bo:aq (J.room h 16) b q=some x)
  (bV:aq (J.room h 16) a3 (0+3)=some (.slice aI bx M bQ))
  (cw:Nat.le (Nat.succ i) M/\I.ptr aI aN=I.ptr aI (bx+i*1))
  (dS:aq (J.room h 16) aI aN=some y)
  (fJ:call (.fn 80) [x,y] (J.room h 16)=an.ret (.bool cK) g)
  (hF:I.sound x=true:=by first|with_reducible assumption|rfl|exact cL.snd (by with_reducible assumption)|exact cL.eK (by with_reducible assumption)|exact cE.snd (by with_reducible assumption)|exact cE.eK (by with_reducible assumption)|exact cN.snd (by with_reducible assumption)|exact cN.eK (by with_reducible assumption))
  (kk:I.sound y=true:=by first|with_reducible assumption|rfl|exact cL.snd (by with_reducible assumption)|exact cL.eK (by with_reducible assumption)|exact cE.snd (by with_reducible assumption)|exact cE.eK (by with_reducible assumption)|exact cN.snd (by with_reducible assumption)|exact cN.eK (by with_reducible assumption))
  (lT:(!cK)=false)
  (o6:arith .add .i64 (.ofNat i) (.ofNat 1)=some (.int .i64 (.ofNat j))):
  av Tryz.prog Tryz.f80 none call [1,1,1,1,0,1,0,0] (ag.mk [(0,.ptr r 0),(1,.ptr a3 0),(6,.int .i64 (.ofNat i))] [] .none h) (.nrm)
   (ag.mk [(0,.ptr r 0),(1,.ptr a3 0),(6,.int .i64 (.ofNat j))] [] .none g):=
 a1 [0,1,4,6] (hs:=[.v (.slice b off N aB),.b true,.v (.slice b off N aB),.v (.ptr b q),.v x,.v (.slice aI bx M bQ),.v (.ptr aI aN),.v y,.c (.bool cK) g,.b false,.v (.int .i64 (.ofNat j))]) (by kernel_rfl)<| .cons H1<| .cons az<| .cons a0<| .cons aS<| .cons bo<| .cons bV<| .cons cw<| .cons dS<| .cons fJ<| .cons (by kernel_rfl:I.sound (I.ptr r 0)=true)<| .cons (by kernel_rfl:I.ptr r 0=I.ptr r 0)<| .cons (by kernel_rfl:I.sound (I.ptr r 0)=true)<| .cons (by kernel_rfl:I.ptr r 0=I.ptr r 0)<| .cons (by kernel_rfl:I.sound (I.ptr r (0+3))=true)<| .cons (by kernel_rfl:I.ptr r (0+3)=I.ptr r (0+3))<| .cons (by kernel_rfl:I.sound (I.slice b off N aB)=true)<| .cons a0<| .cons (by kernel_rfl:I.sound (I.int IntKind.i64 (Int.ofNat i))=true)<| .cons (by kernel_rfl:I.int IntKind.i64 (Int.ofNat i)=I.int IntKind.i64 (Int.ofNat i))<| .cons (by kernel_rfl:I.sound (I.ptr b q)=true)<| .cons aS<| .cons hF<| .cons bo<| .cons (by kernel_rfl:I.sound (I.ptr a3 0)=true)<| .cons (by kernel_rfl:I.ptr a3 0=I.ptr a3 0)<| .cons (by kernel_rfl:I.sound (I.ptr a3 0)=true)<| .cons (by kernel_rfl:I.ptr a3 0=I.ptr a3 0)<| .cons (by kernel_rfl:I.sound (I.ptr a3 (0+3))=true)<| .cons (by kernel_rfl:I.ptr a3 (0+3)=I.ptr a3 (0+3))<| .cons (by kernel_rfl:I.sound (I.slice aI bx M bQ)=true)<| .cons bV<| .cons (by kernel_rfl:I.sound (I.int IntKind.i64 (Int.ofNat i))=true)<| .cons (by kernel_rfl:I.int IntKind.i64 (Int.ofNat i)=I.int IntKind.i64 (Int.ofNat i))<| .cons (by kernel_rfl:I.sound (I.ptr aI aN)=true)<| .cons cw<| .cons kk<| .cons dS<| .cons (by kernel_rfl:I.sound (I.bool !cK)=true)<| .cons (by kernel_rfl:(I.bool !cK)=I.bool !cK)<| .cons lT<| .cons o6<| .nil
theorem S7(call:ay->List I->J->an)(h:J):
  av Tryz.prog Tryz.f80 none call [1,1,1,1,1] (ag.mk [] [] .none h) (.ret)
   (ag.mk [(4,.bool true)] [] .none h):=
 a1 [4] (hs:=[]) (by kernel_rfl)<| .nil
theorem J_(call:ay->List I->J->an)(v w:I)(h:J):
  av Tryz.prog Tryz.f62 none call [0] (ag.mk [(0,v),(1,w)] [] .none h) (.nrm)
   (ag.mk [(0,v),(1,w)] [] .none h):=
 a1 [0,1] (hs:=[]) (by kernel_rfl)<| .nil
theorem S8(call:ay->List I->J->an)(v w:I)(k b0:Nat)(cK:Bool)(h ao ar aZ:J)
  (H1:call (.fn 79) [v] h=an.ret (.int .i64 (.ofNat k)) ao)
  (az:dn (.ofNat k) (.ofNat 60)=true)
  (a0:call (.fn 79) [w] ao=an.ret (.int .i64 (.ofNat b0)) ar)
  (aS:dn (.ofNat b0) (.ofNat 60)=true)
  (bo:call (.fn 80) [v,w] ar=an.ret (.bool cK) aZ):
  av Tryz.prog Tryz.f62 none call [1,1] (ag.mk [(0,v),(1,w)] [] .none h) (.ret)
   (ag.mk [(4,.bool cK)] [] .none aZ):=
 a1 [4] (hs:=[.c (.int .i64 (.ofNat k)) ao,.b true,.b true,.c (.int .i64 (.ofNat b0)) ar,.b true,.b true,.b true,.b true,.b true,.c (.bool cK) aZ,.b true]) (by kernel_rfl)<| .cons H1<| .cons az<| .cons az<| .cons a0<| .cons az<| .cons az<| .cons aS<| .cons aS<| .cons aS<| .cons bo<| .cons aS<| .nil
theorem S9(call:ay->List I->J->an)(v w:I)(k b0:Nat)(cK:Bool)(h ao ar aZ:J)
  (H1:call (.fn 79) [v] h=an.ret (.int .i64 (.ofNat k)) ao)
  (az:dn (.ofNat k) (.ofNat 60)=true)
  (a0:call (.fn 79) [w] ao=an.ret (.int .i64 (.ofNat b0)) ar)
  (aS:dn (.ofNat b0) (.ofNat 60)=false):
  av Tryz.prog Tryz.f62 none call [1,1] (ag.mk [(0,v),(1,w)] [] .none h) (.ret)
   (ag.mk [(4,.bool false)] [] .none ar):=
 a1 [4] (hs:=[.c (.int .i64 (.ofNat k)) ao,.b true,.b true,.c (.int .i64 (.ofNat b0)) ar,.b true,.b true,.b false,.b false,.b false,.b false]) (by kernel_rfl)<| .cons H1<| .cons az<| .cons az<| .cons a0<| .cons az<| .cons az<| .cons aS<| .cons aS<| .cons aS<| .cons aS<| .nil
theorem S_(call:ay->List I->J->an)(v w:I)(k b0:Nat)(cK:Bool)(h ao ar aZ:J)
  (H1:call (.fn 79) [v] h=an.ret (.int .i64 (.ofNat k)) ao)
  (az:dn (.ofNat k) (.ofNat 60)=false):
  av Tryz.prog Tryz.f62 none call [1,1] (ag.mk [(0,v),(1,w)] [] .none h) (.ret)
   (ag.mk [(4,.bool false)] [] .none ao):=
 a1 [4] (hs:=[.c (.int .i64 (.ofNat k)) ao,.b false,.b false,.b false,.b false,.b false,.b false,.b false,.b false]) (by kernel_rfl)<| .cons H1<| .cons az<| .cons az<| .cons az<| .cons az<| .cons (by kernel_rfl:false=false)<| .cons (by kernel_rfl:false=false)<| .cons (by kernel_rfl:false=false)<| .cons (by kernel_rfl:false=false)<| .nil
theorem Ta(call:ay->List I->J->an)(v w:I)(h:J):
  av Tryz.prog Tryz.f48 none call [0] (ag.mk [(0,v),(1,w)] [] .none h) (.nrm)
   (ag.mk [(0,v),(1,w)] [] .none h):=
 a1 [0,1] (hs:=[]) (by kernel_rfl)<| .nil
theorem Tb(call:ay->List I->J->an)(v w:I)(k b0:Nat)(cK:Bool)(h ao ar aZ:J)
  (H1:call (.fn 70) [v] h=an.ret (.int .i64 (.ofNat k)) ao)
  (az:dn (.ofNat k) (.ofNat 60)=true)
  (a0:call (.fn 70) [w] ao=an.ret (.int .i64 (.ofNat b0)) ar)
  (aS:dn (.ofNat b0) (.ofNat 60)=true)
  (bo:call (.fn 71) [v,w] ar=an.ret (.bool cK) aZ):
  av Tryz.prog Tryz.f48 none call [1] (ag.mk [(0,v),(1,w)] [] .none h) (.ret)
   (ag.mk [(4,.bool cK)] [] .none aZ):=
 a1 [4] (hs:=[.c (.int .i64 (.ofNat k)) ao,.b true,.b true,.c (.int .i64 (.ofNat b0)) ar,.b true,.b true,.b true,.b true,.b true,.c (.bool cK) aZ,.b true]) (by kernel_rfl)<| .cons H1<| .cons az<| .cons az<| .cons a0<| .cons az<| .cons az<| .cons aS<| .cons aS<| .cons aS<| .cons bo<| .cons aS<| .nil
theorem Tc(call:ay->List I->J->an)(v w:I)(k b0:Nat)(cK:Bool)(h ao ar aZ:J)
  (H1:call (.fn 70) [v] h=an.ret (.int .i64 (.ofNat k)) ao)
  (az:dn (.ofNat k) (.ofNat 60)=true)
  (a0:call (.fn 70) [w] ao=an.ret (.int .i64 (.ofNat b0)) ar)
  (aS:dn (.ofNat b0) (.ofNat 60)=false):
  av Tryz.prog Tryz.f48 none call [1] (ag.mk [(0,v),(1,w)] [] .none h) (.ret)
   (ag.mk [(4,.bool false)] [] .none ar):=
 a1 [4] (hs:=[.c (.int .i64 (.ofNat k)) ao,.b true,.b true,.c (.int .i64 (.ofNat b0)) ar,.b true,.b true,.b false,.b false,.b false,.b false]) (by kernel_rfl)<| .cons H1<| .cons az<| .cons az<| .cons a0<| .cons az<| .cons az<| .cons aS<| .cons aS<| .cons aS<| .cons aS<| .nil
theorem Td(call:ay->List I->J->an)(v w:I)(k b0:Nat)(cK:Bool)(h ao ar aZ:J)
  (H1:call (.fn 70) [v] h=an.ret (.int .i64 (.ofNat k)) ao)
  (az:dn (.ofNat k) (.ofNat 60)=false):
  av Tryz.prog Tryz.f48 none call [1] (ag.mk [(0,v),(1,w)] [] .none h) (.ret)
   (ag.mk [(4,.bool false)] [] .none ao):=
 a1 [4] (hs:=[.c (.int .i64 (.ofNat k)) ao,.b false,.b false,.b false,.b false,.b false,.b false,.b false,.b false]) (by kernel_rfl)<| .cons H1<| .cons az<| .cons az<| .cons az<| .cons az<| .cons (by kernel_rfl:false=false)<| .cons (by kernel_rfl:false=false)<| .cons (by kernel_rfl:false=false)<| .cons (by kernel_rfl:false=false)<| .nil
theorem cL.p7{B:Nat}{h g:J}{v:I}{us:List aU}(hs:cL B h v (us.map .str)):bU Tryz.prog g 48 v=some (.int .i64 (Int.ofNat us.length)):=by
 have:=cL.len (g:=g) (t:=48) (e:=9) (by kernel_rfl) hs
 rwa [List.length_map] at this
theorem cL.lU{B:Nat}{h g:J}{v:I}{vs:List I}(hs:cL B h v vs):bU Tryz.prog g 49 v=some (.int .i64 (Int.ofNat vs.length)):=cL.len (e:=47) (by kernel_rfl) hs
theorem Ka{B R dZ:Nat}{h:J}{us bs:List aU}{cD bR cl rr ru p5 h3 gi Et Eu:I}{bS xA:eC}{bf up lx xB:Nat}(call:ay->List I->J->an)(fG:R<B)(ti:dZ<B)(aj:h.get R=some (.cells [h3,gi,cD,bR,cl] 51 bS bf up))(tj:h.get dZ=some (.cells [Et,Eu,rr,ru,p5] 51 xA lx xB))(a2:cL B h cD (us.map .str))(af:cL B h rr (bs.map .str))(au:us.length=bs.length)(hlen:us.length<=90000):∀(k i:Nat) (x:J),us.length-i=k->i<=us.length->Ext B h x->
  ∃e Γ y,dH Tryz.prog Tryz.f80 none call [1,1,1,0,1,0] (k+1) ⟨[(0,.ptr R 0),(1,.ptr dZ 0),(5,.int .i64 (Int.ofNat i))],[],.none,x⟩ e ⟨Γ,[],.none,y⟩/\
   ((e=.exit 0/\Γ=[(0,.ptr R 0),(1,.ptr dZ 0)]/\fY (us.drop i) (bs.drop i)=true)\/(e=.ret/\Γ=[(4,.bool false)]/\fY (us.drop i) (bs.drop i)=false))/\Ext B h y
 |0,i,x,aw,ae,ab=>by
  obtain rfl:i=us.length:=by omega
  rw[List.drop_of_length_le (Nat.le_refl _),au,List.drop_of_length_le (Nat.le_refl _)]
  have ed:=(ab.get R fG).trans aj
  exact⟨_,_,_,.exit (S1 call R dZ _ us.length cD x (aH ed rfl) a2.p7 (eh (by omega))) (by simp),.inl ⟨rfl,rfl,by rw[fY]⟩,ab⟩
 |k+1,i,x,aw,ae,ab=>by
  have aa:i<us.length:=by omega
  have ad:i<bs.length:=by omega
  have ed:=(ab.get R fG).trans aj
  have Te:=(ab.get dZ ti).trans tj
  have ai:=ab.ht (k:=15)
  have gy:=(ai.get R fG).trans aj
  have xC:=(ai.get dZ ti).trans tj
  rcases a2.strs with⟨_,rfl⟩|⟨b,off,aB,rfl,eJ,fI⟩
  · simp at aa
  rcases af.strs with⟨_,rfl⟩|⟨aI,bx,bQ,rfl,di,h4⟩
  · simp at ad
  have aA:aq (x.room 15) b (off+i*1)=some (.str us[i]):=(i_ ai eJ).trans (fI i aa)
  have aC:aq (x.room 15) aI (bx+i*1)=some (.str bs[i]):=(i_ ai di).trans (h4 i ad)
  rw[List.drop_eq_getElem_cons aa,List.drop_eq_getElem_cons ad,fY]
  cases ah:cg us[i] bs[i] with
  |true=>
   obtain⟨e,Γ,y,bp,bB,cU⟩:=Ka call fG ti aj tj a2 af au hlen k (i+1) (x.room 15) (by omega) (by omega) ai
   refine⟨e,Γ,y,.step (S3 call R dZ b off us.length aI bx bs.length i (off+i*1) (bx+i*1) (i+1) us[i] bs[i] aB bQ x (aH ed rfl) (ds aa) (aH gy rfl) ⟨aa,rfl⟩ aA (aH xC rfl) ⟨ad,rfl⟩ aC (by rw[ah];rfl) (ij aa (by omega))) bp,?_,cU⟩
   rw[Bool.true_and];exact bB
  |false=>
   exact⟨_,[(4,.bool false)],_,.exit (ck.post (S2 call R dZ b off us.length aI bx bs.length i (off+i*1) (bx+i*1) 0 us[i] bs[i] aB bQ x (aH ed rfl) (ds aa) (aH gy rfl) ⟨aa,rfl⟩ aA (aH xC rfl) ⟨ad,rfl⟩ aC (by rw[ah];rfl)) ⟨rfl,trivial⟩) (by simp),.inr ⟨rfl,rfl,by rw[Bool.false_and]⟩,ai⟩
abbrev Tf(m B:Nat)(h:J)(xs ys:List a5)(vs ws:List I):Prop:=∀i (aa:i<vs.length) (ad:i<ws.length) (ax:i<xs.length) (aO:i<ys.length) x,Ext B h x->∃al,Y m (.fn 80) [vs[i],ws[i]] x=.ret (.bool (rn xs[i] ys[i])) al/\Ext B x al
theorem Kb{B R dZ:Nat}{h:J}{cD bR cl rr ru p5 h3 gi Et Eu:I}{bS xA:eC}{bf up lx xB:Nat}{m:Nat}{xs ys:List a5}{vs ws:List I}(fG:R<B)(ti:dZ<B)(aj:h.get R=some (.cells [h3,gi,cD,bR,cl] 51 bS bf up))(tj:h.get dZ=some (.cells [Et,Eu,rr,ru,p5] 51 xA lx xB))(a2:cL B h bR vs)(af:cL B h ru ws)(mD:c6 B h xs vs)(Ax:c6 B h ys ws)(au:vs.length=ws.length)(hlen:vs.length<=90000)(ba:Tf m B h xs ys vs ws):∀(k i:Nat) (x:J),vs.length-i=k->i<=vs.length->Ext B h x->
  ∃e Γ y,dH Tryz.prog Tryz.f80 none (Y m) [1,1,1,1,0,1,0] (k+1) ⟨[(0,.ptr R 0),(1,.ptr dZ 0),(6,.int .i64 (Int.ofNat i))],[],.none,x⟩ e ⟨Γ,[],.none,y⟩/\
   ((e=.exit 2/\Γ=[(0,.ptr R 0),(1,.ptr dZ 0)]/\gl (xs.drop i) (ys.drop i)=true)\/(e=.ret/\Γ=[(4,.bool false)]/\gl (xs.drop i) (ys.drop i)=false))/\Ext B h y
 |0,i,x,aw,ae,ab=>by
  have e3:=c6.len mD
  have ky:=c6.len Ax
  obtain rfl:i=vs.length:=by omega
  rw[List.drop_of_length_le (by omega),List.drop_of_length_le (by omega)]
  have ed:=(ab.get R fG).trans aj
  exact⟨_,_,_,.exit (S4 (Y m) R dZ _ vs.length bR x (aH ed rfl) a2.lU (eh (by omega))) (by simp),.inl ⟨rfl,rfl,by rw[gl]⟩,ab⟩
 |k+1,i,x,aw,ae,ab=>by
  have e3:=c6.len mD
  have ky:=c6.len Ax
  have aa:i<vs.length:=by omega
  have ad:i<ws.length:=by omega
  have ax:i<xs.length:=by omega
  have aO:i<ys.length:=by omega
  have ed:=(ab.get R fG).trans aj
  have Te:=(ab.get dZ ti).trans tj
  have ai:=ab.ht (k:=16)
  have gy:=(ai.get R fG).trans aj
  have xC:=(ai.get dZ ti).trans tj
  have t1:=c6.get mD i aa ax
  have t2:=c6.get Ax i ad aO
  rcases a2 with⟨_,rfl⟩|⟨b,off,aB,rfl,eJ,fI,eL⟩
  · simp at aa
  rcases af with⟨_,rfl⟩|⟨aI,bx,bQ,rfl,di,h4,et⟩
  · simp at ad
  have aA:aq (x.room 16) b (off+i*1)=some vs[i]:=(i_ ai eJ).trans (fI i aa)
  have aC:aq (x.room 16) aI (bx+i*1)=some ws[i]:=(i_ ai di).trans (h4 i ad)
  rw[List.drop_eq_getElem_cons ax,List.drop_eq_getElem_cons aO,gl]
  obtain⟨g,c1,c2⟩:=ba i aa ad ax aO (x.room 16) ai
  have p8:Ext B h g:=ai.trans (Nat.le_refl _) c2
  cases ah:rn xs[i] ys[i] with
  |true=>
   rw[ah] at c1
   obtain⟨e,Γ,y,bp,bB,cU⟩:=Kb fG ti aj tj (.inr ⟨b,off,aB,rfl,eJ,fI,eL⟩) (.inr ⟨aI,bx,bQ,rfl,di,h4,et⟩) mD Ax au hlen ba k (i+1) g (by omega) (by omega) p8
   refine⟨e,Γ,y,.step (S6 (Y m) R dZ b off vs.length aI bx ws.length i (off+i*1) (bx+i*1) (i+1) vs[i] ws[i] true aB bQ x g (aH ed rfl) (ds aa) (aH gy rfl) ⟨aa,rfl⟩ aA (aH xC rfl) ⟨ad,rfl⟩ aC c1 t1.snd t2.snd rfl (ij aa (by omega))) bp,?_,cU⟩
   rw[Bool.true_and];exact bB
  |false=>
   rw[ah] at c1
   exact⟨_,[(4,.bool false)],_,.exit (ck.post (S5 (Y m) R dZ b off vs.length aI bx ws.length i (off+i*1) (bx+i*1) 0 vs[i] ws[i] false aB bQ x g (aH ed rfl) (ds aa) (aH gy rfl) ⟨aa,rfl⟩ aA (aH xC rfl) ⟨ad,rfl⟩ aC c1 t1.snd t2.snd rfl) ⟨rfl,trivial⟩) (by simp),.inr ⟨rfl,rfl,by rw[Bool.false_and]⟩,p8⟩
theorem Tg(m:Nat)(h:J):Y (m+1) (.fn 80) [.aR,.aR] h=.ret (.bool true) h:=
 dJ (intr:=bT) (n:=m) (args:=[.aR,.aR]) Tryz.func80 (by kernel_rfl) rfl (by kernel_rfl) (av.seq (p:=[]) (by kernel_rfl) (Aw (Y m) _ _ h) (av.e_ (p:=[1]) (by kernel_rfl) (SS (Y m) h) (by simp))) (.inl rfl) (by kernel_rfl)
theorem Th(m R:Nat)(h:J):Y (m+1) (.fn 80) [.aR,.ptr R 0] h=.ret (.bool false) h:=
 dJ (intr:=bT) (n:=m) (args:=[.aR,.ptr R 0]) Tryz.func80 (by kernel_rfl) rfl (by kernel_rfl) (av.seq (p:=[]) (by kernel_rfl) (Aw (Y m) _ _ h) (av.e_ (p:=[1]) (by kernel_rfl) (SV (Y m) R h) (by simp))) (.inl rfl) (by kernel_rfl)
theorem Ti(m R:Nat)(h:J):Y (m+1) (.fn 80) [.ptr R 0,.aR] h=.ret (.bool false) h:=
 dJ (intr:=bT) (n:=m) (args:=[.ptr R 0,.aR]) Tryz.func80 (by kernel_rfl) rfl (by kernel_rfl) (av.seq (p:=[]) (by kernel_rfl) (Aw (Y m) _ _ h) (av.e_ (p:=[1]) (by kernel_rfl) (SX (Y m) R h) (by simp))) (.inl rfl) (by kernel_rfl)
end Go.Proofs.cR
namespace Go.Proofs.cR
open Go aD Go.Proofs dE
set_option maxRecDepth 100000
set_option maxHeartbeats 1000000
theorem Tj(call:ay->List I->J->an)(r:Nat)(a3:Nat)(h:J){Q:bF->ag->Prop}(H:∃aQ:Nat,aq (h.room 58) r (0+0)=some (.int .i64 (.ofNat aQ))/\∃bI:Nat,aq (h.room 58) a3 (0+0)=some (.int .i64 (.ofNat bI))/\(aQ=bI->∃s1:List UInt8,aq (h.room 58) r (0+1)=some (.str s1)/\∃s2:List UInt8,aq (h.room 58) a3 (0+1)=some (.str s2)/\((!cg s1 s2)=true->Q .ret (ag.mk [(0,.ptr r 0),(1,.ptr a3 0),(4,.bool false)] [] .none (h.room 58)))/\((!cg s1 s2)=false->∃v1:I,aq (h.room 58) r (0+2)=some v1/\∃cr:Nat,bU Tryz.prog (h.room 58) 48 v1=some (.int .i64 (.ofNat cr))/\∃v2:I,aq (h.room 58) a3 (0+2)=some v2/\∃cF:Nat,bU Tryz.prog (h.room 58) 48 v2=some (.int .i64 (.ofNat cF))/\(cr=cF->∃cX:I,aq (h.room 58) r (0+3)=some cX/\∃dc:Nat,bU Tryz.prog (h.room 58) 49 cX=some (.int .i64 (.ofNat dc))/\∃v4:I,aq (h.room 58) a3 (0+3)=some v4/\∃dk:Nat,bU Tryz.prog (h.room 58) 49 v4=some (.int .i64 (.ofNat dk))/\(dc=dk->∃gx:I,aq (h.room 58) r (0+4)=some gx/\∃v6:I,aq (h.room 58) a3 (0+4)=some v6/\∃a8:Bool,∃ao:J,call (.fn 80) [gx,v6] (h.room 58)=.ret (.bool a8) ao/\I.sound v1=true/\I.sound v2=true/\I.sound cX=true/\I.sound v4=true/\I.sound gx=true/\I.sound v6=true/\(a8=true->Q .nrm (ag.mk [(0,.ptr r 0),(1,.ptr a3 0)] [] .none ao))/\(a8=false->Q .ret (ag.mk [(0,.ptr r 0),(1,.ptr a3 0),(4,.bool false)] [] .none ao)))/\(¬dc=dk->I.sound v1=true/\I.sound v2=true/\I.sound cX=true/\I.sound v4=true/\Q .ret (ag.mk [(0,.ptr r 0),(1,.ptr a3 0),(4,.bool false)] [] .none (h.room 58))))/\(¬cr=cF->I.sound v1=true/\I.sound v2=true/\Q .ret (ag.mk [(0,.ptr r 0),(1,.ptr a3 0),(4,.bool false)] [] .none (h.room 58)))))/\(¬aQ=bI->Q .ret (ag.mk [(0,.ptr r 0),(1,.ptr a3 0),(4,.bool false)] [] .none (h.room 58)))):
  bw Tryz.prog Tryz.f80 call [1,1,0] ⟨[(0,.ptr r 0),(1,.ptr a3 0)],[],.none,h⟩ Q:=
 e6 [(69,.b2 .o),(73,.b2 .o)] [0,1,2,4] [(0,.v (.ptr r 0)),(1,.v (.ptr a3 0))] rfl (Eq.mp (by kernel_rfl) H)
theorem Kc:∀(K:Nat) (oa ob:Option a5),c8 oa<=K->c8 oa<=90000->(∀t,oa=some t->g6 t<=90000)->∀(m B:Nat) (h:J) (v w:I),c8 oa+1<=m->cE B h oa v->cE B h ob w->∃al,Y m (.fn 80) [v,w] h=.ret (.bool (fZ oa ob)) al/\Ext B h al
 |K,none,none,_,_,_,m,B,h,v,w,hm,aE,hw=>by
  obtain rfl:v=.aR:=aE
  obtain rfl:w=.aR:=hw
  obtain⟨m,rfl⟩:∃j,m=j+1:=⟨m-1,by omega⟩
  rw[xz]
  exact⟨h,Tg m h,Ext.refl _ _⟩
 |K,none,some (.mk b4 b0 e2 h6 nL),_,_,_,m,B,h,v,w,hm,aE,hw=>by
  obtain rfl:v=.aR:=aE
  obtain⟨R,cD,bR,cl,vs,bS,bf,up,rfl,ad,ax,aO,bZ,dj,ek⟩:=hw
  obtain⟨m,rfl⟩:∃j,m=j+1:=⟨m-1,by omega⟩
  rw[As]
  exact⟨h,Th m R h,Ext.refl _ _⟩
 |K,some (.mk b4 b0 e2 h6 nL),none,_,_,_,m,B,h,v,w,hm,aE,hw=>by
  obtain rfl:w=.aR:=hw
  obtain⟨R,cD,bR,cl,vs,bS,bf,up,rfl,ad,ax,aO,bZ,dj,ek⟩:=aE
  obtain⟨m,rfl⟩:∃j,m=j+1:=⟨m-1,by omega⟩
  rw[At]
  exact⟨h,Ti m R h,Ext.refl _ _⟩
 |0,some t,some u,dq,_,_,m,B,h,v,w,hm,aE,hw=>by
  rw[im] at dq
  have:=nV t
  omega
 |K+1,some (.mk k bD aJ xs rt),some (.mk dA iH jx il iY),dq,fO,jQ,m,B,h,v,w,hm,aE,hw=>by
  rw[im,o4] at dq fO hm
  obtain⟨R,cD,bR,cl,vs,bS,bf,up,rfl,ad,ax,aO,bZ,dj,ek⟩:=aE
  obtain⟨dZ,rr,ru,p5,pC,xA,lx,xB,rfl,lF,n2,qP,Au,uX,Es⟩:=hw
  obtain⟨m,rfl⟩:∃j,m=j+1:=⟨m-1,by omega⟩
  have aK:=jQ _ rfl
  rw[g6] at aK
  have e3:=c6.len dj
  have ky:=c6.len uX
  have kT:=nW xs
  have hE:Ext B h (h.room 58):=Ext.room B h 58
  have n1:=(hE.get R ad).trans ax
  have p6:=(hE.get dZ lF).trans n2
  have ba:∀(oa ob:Option a5),c8 oa<=K->c8 oa<=90000->(∀t,oa=some t->g6 t<=90000)->∀(m B:Nat) (h:J) (v w:I),c8 oa+1<=m->cE B h oa v->cE B h ob w->∃al,Y m (.fn 80) [v,w] h=.ret (.bool (fZ oa ob)) al/\Ext B h al:=Kc K
  have hO:fZ (some (.mk k bD aJ xs rt)) (some (.mk dA iH jx il iY))=(Nat.beq k dA&&(cg bD iH&&(fY aJ jx&&(gl xs il&&fZ rt iY)))):=by rw[fZ,rn]
  rw[hO]
  have fin:∀b y,av Tryz.prog Tryz.f80 none (Y m) [1,1] ⟨[(0,.ptr R 0),(1,.ptr dZ 0)],[],.none,h⟩ .ret ⟨[(4,.bool b)],[],.none,y⟩->b=(Nat.beq k dA&&(cg bD iH&&(fY aJ jx&&(gl xs il&&fZ rt iY))))->Ext B h y->∃al,Y (m+1) (.fn 80) [.ptr R 0,.ptr dZ 0] h=.ret (.bool (Nat.beq k dA&&(cg bD iH&&(fY aJ jx&&(gl xs il&&fZ rt iY))))) al/\Ext B h al:=λb y ai af ab=>by
   rw[<-af]
   exact⟨y,dJ (intr:=bT) (n:=m) (args:=[.ptr R 0,.ptr dZ 0]) Tryz.func80 (by kernel_rfl) rfl (by kernel_rfl) (av.seq (p:=[]) (by kernel_rfl) (Aw (Y m) _ _ h) (av.seq (p:=[1]) (by kernel_rfl) (SZ (Y m) R dZ h) ai)) (.inl rfl) (by kernel_rfl),ab⟩
  have lV:∀y,av Tryz.prog Tryz.f80 none (Y m) [1,1,0] ⟨[(0,.ptr R 0),(1,.ptr dZ 0)],[],.none,h⟩ .ret ⟨[(0,.ptr R 0),(1,.ptr dZ 0),(4,.bool false)],[],.none,y⟩->(Nat.beq k dA&&(cg bD iH&&(fY aJ jx&&(gl xs il&&fZ rt iY))))=false->Ext B h y->∃al,Y (m+1) (.fn 80) [.ptr R 0,.ptr dZ 0] h=.ret (.bool (Nat.beq k dA&&(cg bD iH&&(fY aJ jx&&(gl xs il&&fZ rt iY))))) al/\Ext B h al:=λy ai af ab=>
   fin false y (av.e_ (p:=[1,1]) (by kernel_rfl) (ck.post ai ⟨rfl,trivial⟩) (by simp)) af.symm ab
  have nj:=dT.ext hE (Nat.le_refl _)
  obtain⟨aZ,c3,db⟩:=ba rt iY (by omega) (by omega) (λt a6=>by subst a6;rw[p0] at aK;omega) m B (h.room 58) cl p5 (by omega) (cE.bH nj _ _ ek) (cE.bH nj _ _ Es)
  have Av:Ext B h aZ:=hE.trans (Nat.le_refl _) db
  have no:∀(y:J),(Nat.beq k dA&&(cg bD iH&&(fY aJ jx&&(gl xs il&&fZ rt iY))))=false->Ext B h y->∃yX,(bF.ret=.ret/\(⟨[(0,.ptr R 0),(1,.ptr dZ 0),(4,.bool false)],[],.none,y⟩:ag)=⟨[(0,.ptr R 0),(1,.ptr dZ 0),(4,.bool false)],[],.none,yX⟩/\(Nat.beq k dA&&(cg bD iH&&(fY aJ jx&&(gl xs il&&fZ rt iY))))=false/\Ext B h yX):=λy aa ad=>⟨y,rfl,rfl,aa,ad⟩
  have pI:=Tj (Y m) R dZ h (Q:=λe s=>(∃y,e=.ret/\s=⟨[(0,.ptr R 0),(1,.ptr dZ 0),(4,.bool false)],[],.none,y⟩/\(Nat.beq k dA&&(cg bD iH&&(fY aJ jx&&(gl xs il&&fZ rt iY))))=false/\Ext B h y)\/(e=.nrm/\s=⟨[(0,.ptr R 0),(1,.ptr dZ 0)],[],.none,aZ⟩/\k=dA/\cg bD iH=true/\aJ.length=jx.length/\vs.length=pC.length/\fZ rt iY=true)) (by
   refine⟨k,aH n1 rfl,dA,aH p6 rfl,λaw=>⟨bD,aH n1 rfl,iH,aH p6 rfl,λhs=>.inl (no _ (by rw[show cg bD iH=false by simpa using hs];simp) hE),λhs=>?_⟩,λaw=>.inl (no _ ?_ hE)⟩
   · refine⟨cD,aH n1 rfl,_,aO.p7,rr,aH p6 rfl,_,qP.p7,λma=>⟨bR,aH n1 rfl,_,bZ.lU,ru,aH p6 rfl,_,Au.lU,λmD=>⟨cl,aH n1 rfl,p5,aH p6 rfl,_,aZ,c3,hC,hC,hC,hC,hC,hC,λaf=>.inr ⟨rfl,rfl,aw,by simpa using hs,ma,mD,af⟩,λaf=>.inl (no _ (by rw[af];simp) Av)⟩,λmD=>⟨hC,hC,hC,hC,.inl (no _ (by rw[xy xs il (by omega)];simp) hE)⟩⟩,λma=>⟨hC,hC,.inl (no _ (by rw[xx aJ jx ma];simp) hE)⟩⟩
   · have rf:Nat.beq k dA=false:=by
       cases ab:Nat.beq k dA with
       |false=>rfl
       |true=>exact absurd (Nat.eq_of_beq_eq_true ab) aw
     rw[rf];rfl)
  obtain⟨e,st,s1,⟨y,rfl,rfl,aV,aN⟩|⟨rfl,rfl,aw,eJ,ma,mD,D_⟩⟩:=pI
  · exact lV _ s1 aV aN
  · rw[eJ,D_] at fin⊢
    obtain⟨e,Γ,y,bp,bB,cU⟩:=Ka (Y m) ad lF ax n2 aO qP ma (by omega) aJ.length 0 aZ (by omega) (by omega) Av
    have hD:=dH.run (p:=[1,1,1,0,1,0]) (by kernel_rfl) bp (by omega)
    rw[List.drop_zero,List.drop_zero] at bB
    have Tk:Nat.beq k dA=true:=by subst aw;exact Nat.beq_refl k
    rcases bB with⟨rfl,rfl,k_⟩|⟨rfl,rfl,k_⟩
    · have du:=av.seq (p:=[1,1,1,0]) (by kernel_rfl) (J8 (Y m) R dZ aZ) (av.block (p:=[1,1,1,0,1]) (id:=0) (by kernel_rfl) hD)
      obtain⟨e,Γ,z,aQ,bI,cr⟩:=Kb (m:=m) (xs:=xs) (ys:=il) ad lF ax n2 bZ Au dj uX mD (by omega) (λi i1 i2 i3 i4 x ab=>by
       have lD:=ki (List.getElem_mem i3)
       have oE:=rp (List.getElem_mem i3)
       have:=ba (some xs[i]) (some il[i]) (by rw[im];omega) (by rw[im];omega) (λt a6=>by obtain rfl:=Option.some.inj a6;omega) m B x vs[i] pC[i] (by rw[im];omega) (cN.bH (dT.ext ab (Nat.le_refl _)) _ _ (c6.get dj i i1 i3)) (cN.bH (dT.ext ab (Nat.le_refl _)) _ _ (c6.get uX i i2 i4))
       simpa only[fZ] using this) vs.length 0 y (by omega) (by omega) cU
      have cF:=dH.run (p:=[1,1,1,1,0,1,0]) (by kernel_rfl) aQ (by omega)
      rw[List.drop_zero,List.drop_zero] at bI
      rcases bI with⟨rfl,rfl,dk⟩|⟨rfl,rfl,dk⟩
      · have dp:=av.seq (p:=[1,1,1,1,0]) (by kernel_rfl) (J9 (Y m) R dZ y) (av.block (p:=[1,1,1,1,0,1]) (id:=2) (by kernel_rfl) cF)
        exact fin true z (av.seq (p:=[1,1]) (by kernel_rfl) s1 (av.seq (p:=[1,1,1]) (by kernel_rfl) du (av.seq (p:=[1,1,1,1]) (by kernel_rfl) (ck.post (Γ2:=[]) dp trivial) (S7 (Y m) z)))) (by rw[Tk,k_,dk];rfl) cr
      · have dp:=av.seq (p:=[1,1,1,1,0]) (by kernel_rfl) (J9 (Y m) R dZ y) (av.nb (p:=[1,1,1,1,0,1]) (id:=2) (by kernel_rfl) cF (by simp))
        exact fin false z (av.seq (p:=[1,1]) (by kernel_rfl) s1 (av.seq (p:=[1,1,1]) (by kernel_rfl) du (av.e_ (p:=[1,1,1,1]) (by kernel_rfl) dp (by simp)))) (by rw[dk];simp) cr
    · have du:=av.seq (p:=[1,1,1,0]) (by kernel_rfl) (J8 (Y m) R dZ aZ) (av.nb (p:=[1,1,1,0,1]) (id:=0) (by kernel_rfl) hD (by simp))
      exact fin false y (av.seq (p:=[1,1]) (by kernel_rfl) s1 (av.e_ (p:=[1,1,1]) (by kernel_rfl) du (by simp))) (by rw[k_];simp) cU
def jY(oa ob:Option a5):Bool:=decide (c8 oa<=60)&&(decide (c8 ob<=60)&&fZ oa ob)
theorem uY{n:Nat}(h:n<=60):dn (Int.ofNat (min n 61)) (Int.ofNat 60)=true:=iV (by omega)
theorem Ay{n:Nat}(h:¬n<=60):dn (Int.ofNat (min n 61)) (Int.ofNat 60)=false:=js (by omega)
theorem Tl{oa ob:Option a5}{B:Nat}{h:J}{v w:I}(m:Nat)(a2:c8 oa<=90000)(af:c8 ob<=90000)(aK:∀t,oa=some t->g6 t<=90000)(bO:B<=h.n)(hm:2*c8 oa+c8 ob+5<=m)(aE:cE B h oa v)(hw:cE B h ob w):
  ∃al,Y (m+1) (.fn 48) [v,w] h=.ret (.bool (jY oa ob)) al/\Ext B h al:=by
 obtain⟨m,rfl⟩:∃j,m=j+2:=⟨m-2,by omega⟩
 obtain⟨ao,c1,bh⟩:=Em m a2 bO aE (by omega)
 have jA:Ext B h ao:=bh.le bO
 have fin:∀b y,av Tryz.prog Tryz.f48 none (Y (m+2)) [1] ⟨[(0,v),(1,w)],[],.none,h⟩ .ret ⟨[(4,.bool b)],[],.none,y⟩->b=jY oa ob->Ext B h y->∃al,Y (m+2+1) (.fn 48) [v,w] h=.ret (.bool (jY oa ob)) al/\Ext B h al:=λb y ai af ab=>by
  rw[<-af]
  exact⟨y,dJ (intr:=bT) (n:=m+2) (args:=[v,w]) Tryz.func48 (by kernel_rfl) rfl (by kernel_rfl) (av.seq (p:=[]) (by kernel_rfl) (Ta (Y (m+2)) v w h) ai) (.inl rfl) (by kernel_rfl),ab⟩
 unfold jY at fin⊢
 by_cases aa:c8 oa<=60
 · have n4:B<=ao.n:=Nat.le_trans bO jA.n
   obtain⟨ar,c2,bz⟩:=Em m af n4 (cE.bH (dT.ext jA (Nat.le_refl _)) _ _ hw) (by omega)
   have n3:Ext B h ar:=jA.trans (Nat.le_refl _) (bz.le n4)
   by_cases ad:c8 ob<=60
   · obtain⟨aZ,c3,db⟩:=J7 (c8 oa) oa ob (Nat.le_refl _) a2 aK (m+2) B ar v w (by omega) (cE.bH (dT.ext n3 (Nat.le_refl _)) _ _ aE) (cE.bH (dT.ext n3 (Nat.le_refl _)) _ _ hw)
     exact fin (fZ oa ob) aZ (Tb (Y (m+2)) v w _ _ _ h ao ar aZ c1 (uY aa) c2 (uY ad) c3) (by simp[aa,ad]) (n3.trans (Nat.le_refl _) db)
   · exact fin false ar (Tc (Y (m+2)) v w _ _ false h ao ar h c1 (uY aa) c2 (Ay ad)) (by simp[ad]) n3
 · exact fin false ao (Td (Y (m+2)) v w _ 0 false h ao h h c1 (Ay aa)) (by simp[aa]) jA
theorem Ev{ot:Option a5}{B:Nat}{h:J}{v:I}{m:Nat}(af:c8 ot<=90000)(hm:c8 ot<m)(aE:cE B h ot v):Y (m+1) (.fn 79) [v] h=.ret (.int .i64 (Int.ofNat (min (c8 ot) 61))) h:=by
 cases ot with
 |none=>
  obtain rfl:v=.aR:=aE
  obtain⟨m,rfl⟩:∃j,m=j+1:=⟨m-1,by omega⟩
  exact dJ (intr:=bT) (n:=m+1) (args:=[.aR]) Tryz.func79 (by kernel_rfl) rfl (by kernel_rfl) (JU (Y (m+1)) _ .aR h h (JW m 0 h)) (.inl rfl) (by kernel_rfl)
 |some t=>
  rw[im] at af hm⊢
  exact RR af hm aE
theorem Ew{oa ob:Option a5}(h:oa=none\/ob=none):jY oa ob=fZ oa ob:=by
 unfold jY
 have gi:c8 none<=60:=by rw[c8];omega
 rcases h with rfl|rfl
 · cases ob with
   |none=>rw[xz];simp[gi]
   |some u=>rw[As];simp
 · cases oa with
   |none=>rw[xz];simp[gi]
   |some u=>rw[At];simp
theorem Tm{oa ob:Option a5}{B:Nat}{h:J}{v w:I}(m:Nat)(a2:c8 oa<=90000)(af:c8 ob<=90000)(aK:∀t,oa=some t->g6 t<=90000)(hm:c8 oa+c8 ob+2<=m)(aE:cE B h oa v)(hw:cE B h ob w):
  ∃al,Y (m+1) (.fn 62) [v,w] h=.ret (.bool (jY oa ob)) al/\Ext B h al:=by
 obtain⟨m,rfl⟩:∃j,m=j+1:=⟨m-1,by omega⟩
 have base:∀b,av Tryz.prog Tryz.f62 none (Y (m+1)) [1,0] ⟨[(0,v),(1,w)],[],.none,h⟩ .ret ⟨[(4,.bool b)],[],.none,h⟩->jY oa ob=b->∃al,Y (m+1+1) (.fn 62) [v,w] h=.ret (.bool (jY oa ob)) al/\Ext B h al:=λb ai af=>by
  rw[af]
  exact⟨h,dJ (intr:=bT) (n:=m+1) (args:=[v,w]) Tryz.func62 (by kernel_rfl) rfl (by kernel_rfl) (av.seq (p:=[]) (by kernel_rfl) (J_ (Y (m+1)) v w h) (av.e_ (p:=[1]) (by kernel_rfl) ai (by simp))) (.inl rfl) (by kernel_rfl),Ext.refl _ _⟩
 cases oa with
 |none=>
  obtain rfl:v=.aR:=aE
  cases ob with
  |none=>
   obtain rfl:w=.aR:=hw
   exact base true (SU (Y (m+1)) h) (by rw[Ew (.inl rfl),xz])
  |some u=>
   rcases hw.nZ with rfl|⟨R,rfl⟩
   · cases u with
     |mk b4 b0 e2 h6 nL=>obtain⟨R,cD,bR,cl,vs,bS,bf,up,ab,_⟩:=hw;cases ab
   · exact base false (SW (Y (m+1)) R h) (by rw[Ew (.inl rfl),As])
 |some t=>
  cases ob with
  |none=>
   obtain rfl:w=.aR:=hw
   rcases aE.nZ with rfl|⟨R,rfl⟩
   · cases t with
     |mk b4 b0 e2 h6 nL=>obtain⟨R,cD,bR,cl,vs,bS,bf,up,ab,_⟩:=aE;cases ab
   · exact base false (SY (Y (m+1)) R h) (by rw[Ew (.inr rfl),At])
  |some u=>
   rcases aE.nZ with rfl|⟨R,rfl⟩
   · cases t with
     |mk b4 b0 e2 h6 nL=>obtain⟨R,cD,bR,cl,vs,bS,bf,up,ab,_⟩:=aE;cases ab
   rcases hw.nZ with rfl|⟨dZ,rfl⟩
   · cases u with
     |mk b4 b0 e2 h6 nL=>obtain⟨R,cD,bR,cl,vs,bS,bf,up,ab,_⟩:=hw;cases ab
   have fin:∀b y,av Tryz.prog Tryz.f62 none (Y (m+1)) [1,1] ⟨[(0,.ptr R 0),(1,.ptr dZ 0)],[],.none,h⟩ .ret ⟨[(4,.bool b)],[],.none,y⟩->b=jY (some t) (some u)->Ext B h y->∃al,Y (m+1+1) (.fn 62) [.ptr R 0,.ptr dZ 0] h=.ret (.bool (jY (some t) (some u))) al/\Ext B h al:=λb y ai af ab=>by
    rw[<-af]
    exact⟨y,dJ (intr:=bT) (n:=m+1) (args:=[.ptr R 0,.ptr dZ 0]) Tryz.func62 (by kernel_rfl) rfl (by kernel_rfl) (av.seq (p:=[]) (by kernel_rfl) (J_ (Y (m+1)) _ _ h) (av.seq (p:=[1]) (by kernel_rfl) (S0 (Y (m+1)) R dZ h) ai)) (.inl rfl) (by kernel_rfl),ab⟩
   have c1:=Ev (m:=m) a2 (by omega) aE
   unfold jY at fin⊢
   by_cases aa:c8 (some t)<=60
   · have c2:=Ev (m:=m) af (by omega) hw
     by_cases ad:c8 (some u)<=60
     · obtain⟨aZ,c3,db⟩:=Kc (c8 (some t)) (some t) (some u) (Nat.le_refl _) a2 aK (m+1) B h (.ptr R 0) (.ptr dZ 0) (by omega) aE hw
       exact fin (fZ (some t) (some u)) aZ (S8 (Y (m+1)) (.ptr R 0) (.ptr dZ 0) _ _ _ h h h aZ c1 (uY aa) c2 (uY ad) c3) (by simp[aa,ad]) db
     · exact fin false h (S9 (Y (m+1)) (.ptr R 0) (.ptr dZ 0) _ _ false h h h h c1 (uY aa) c2 (Ay ad)) (by simp[ad]) (Ext.refl _ _)
   · exact fin false h (S_ (Y (m+1)) (.ptr R 0) (.ptr dZ 0) _ 0 false h h h h c1 (Ay aa)) (by simp[aa]) (Ext.refl _ _)
end Go.Proofs.cR
