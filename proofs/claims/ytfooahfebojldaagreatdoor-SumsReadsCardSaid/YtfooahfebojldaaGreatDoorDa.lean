/-
  PROVED HERE: contracts of functions (Da). No condition beside each statement's own.
-/
import Derived.Test.YtfooahfebojldaaGreatDoorSxa
import Derived.Test.YtfooahfebojldaaGreatDoorAed
import Derived.Test.YtfooahfebojldaaGreatDoorProg
import Derived.Test.YtfooahfebojldaaGreatDoorTx
set_option linter.unusedVariables false
set_option linter.unusedSimpArgs false
namespace dD
open aC
abbrev bc:=List UInt8
inductive a_ where
 |mk (k:Nat) (b8:bc) (ns:List bc) (xs:List a_) (rt:Option a_)
def a_.k:a_->Nat|.mk k _ _ _ _=>k
mutual
def sz:a_->Nat
 |.mk _ _ _ xs rt=>1+eh xs+dy rt
def eh:List a_->Nat
 |[]=>0
 |t::c7=>sz t+eh c7
def dy:Option a_->Nat
 |none=>0
 |some t=>sz t
end
def km:List bc->List bc->Bool
 |[],[]=>true
 |x::xs,y::ys=>cF x y&&km xs ys
 |_,_=>false
mutual
def uA:a_->a_->Bool
 |.mk k b8 ns xs rt,.mk k' mV nB mW nC=>Nat.beq k k'&&(cF b8 mV&&(km ns nB&&(jY xs mW&&ig rt nC)))
def jY:List a_->List a_->Bool
 |[],[]=>true
 |x::xs,y::ys=>uA x y&&jY xs ys
 |_,_=>false
def ig:Option a_->Option a_->Bool
 |none,none=>true
 |some x,some y=>uA x y
 |_,_=>false
end
theorem uB(k:Nat)(b8:bc)(ns:List bc)(xs:List a_)(rt:Option a_):sz (.mk k b8 ns xs rt)=1+eh xs+dy rt:=by rw[sz]
theorem lW(t:a_):dy (some t)=sz t:=by rw[dy]
theorem sD:∀t:a_,0<sz t
 |.mk _ _ _ _ _=>by unfold sz;omega
theorem pa{t:a_}:∀{l:List a_},t∈l->sz t<=eh l
 |[],h=>by cases h
 |x::l,h=>by
  unfold eh
  rcases List.mem_cons.1 h with rfl|h
  · omega
  · have:=pa h;omega
theorem pb:∀l:List a_,l.length<=eh l
 |[]=>Nat.le_refl _
 |x::l=>by
  have:=pb l
  have:=sD x
  unfold eh
  simp;omega
mutual
def iH:a_->Nat
 |.mk _ _ ns xs rt=>ns.length+lz xs+q6 rt
def lz:List a_->Nat
 |[]=>0
 |t::c7=>iH t+lz c7
def q6:Option a_->Nat
 |none=>0
 |some t=>iH t
end
theorem BM{t:a_}:∀{l:List a_},t∈l->iH t<=lz l
 |[],h=>by cases h
 |x::l,h=>by
  rw[lz]
  rcases List.mem_cons.1 h with rfl|h
  · omega
  · have:=BM h;omega
def h5(n:Nat):Bool:=(decide (97<=n)&&decide (n<=122))||((decide (65<=n)&&decide (n<=90))||decide (n=95))
def jI(n:Nat):Bool:=decide (48<=n)&&decide (n<=57)
def kK(n:Nat):Bool:=h5 n||jI n||decide (n=45)||decide (n=47)||decide (n=46)
def Fk:bc->Bool
 |[]=>false
 |c::_=>h5 c.toNat
def jb(s:bc):Bool:=decide (1<=s.length)&&decide (s.length<=24)&&Fk s&&s.all (λc=>h5 c.toNat||jI c.toNat)
def mi(s:bc):Bool:=decide (1<=s.length)&&decide (s.length<=161)&&s.all (λc=>kK c.toNat)
theorem BN(x y:UInt8)(a b:bc):en (x::a) (y::b)=if x.toNat=y.toNat then en a b else decide (x.toNat<y.toNat):=by
 by_cases h:x.toNat=y.toNat
 · rw[if_pos h];simp only[en,h,Nat.beq_refl]
 · rw[if_neg h]
   have ag:Nat.beq x.toNat y.toNat=false:=by
    cases ad:Nat.beq x.toNat y.toNat with
    |false=>rfl
    |true=>exact absurd (Nat.eq_of_beq_eq_true ad) h
   simp only[en,ag]
   exact Bool.eq_iff_iff.2 (by rw[Nat.blt_eq];simp)
def pc:bc:=(List.range 26).map (λi=>UInt8.ofNat (97+i))++(List.range 26).map (λi=>UInt8.ofNat (65+i))++(List.range 10).map (λi=>UInt8.ofNat (48+i))++[95]
def qg(n:Nat):Bool:=h5 n||jI n
def k3(p:Nat->Bool):List J:=(List.range 256).map λn=>.bool (p n)
def e8(sep:bc):List bc->bc
 |[]=>[]
 |x::l=>x++l.flatMap (λy=>sep++y)
theorem Tb(sep:bc):∀(l:List bc) (y:bc),l≠[]->e8 sep (l++[y])=e8 sep l++sep++y
 |[],y,h=>absurd rfl h
 |x::l,y,_=>by
  show x++(l++[y]).flatMap _=x++l.flatMap _++sep++y
  rw[List.flatMap_append]
  simp
theorem Tc(sep y:bc):e8 sep ([]++[y])=y:=by simp[e8]
theorem yR(sep:bc)(l:List bc){i:Nat}(h:i<l.length):e8 sep (l.take (i+1))=if 0<i then e8 sep (l.take i)++sep++l[i] else l[i]:=by
 rw[List.take_succ_eq_append_getElem h]
 by_cases az:0<i
 · rw[if_pos az,Tb]
   intro e
   have aD:(l.take i).length=i:=by rw[List.length_take];omega
   rw[e] at aD
   simp at aD
   omega
 · rw[if_neg az]
   obtain rfl:i=0:=by omega
   exact Tc sep _
theorem yS(sep:bc)(l:List bc):∀(i:Nat),(e8 sep (l.take i)).length<=(e8 sep l).length:=by
 intro i
 cases l with
 |nil=>simp
 |cons x l=>
  cases i with
  |zero=>simp[e8]
  |succ i=>
   show(x++(l.take i).flatMap _).length<=(x++l.flatMap _).length
   have e:l.flatMap (λy=>sep++y)=(l.take i).flatMap (λy=>sep++y)++(l.drop i).flatMap (λy=>sep++y):=by
    rw[<-List.flatMap_append,List.take_append_drop]
   rw[e]
   simp only[List.length_append]
   omega
theorem uC(sep:bc)(l:List bc){i:Nat}(h:i<l.length):l[i].length<=(e8 sep l).length:=by
 have ab:=yS sep l (i+1)
 rw[yR sep l h] at ab
 split at ab
 · simp at ab;omega
 · exact ab
def word:Nat->bc
 |1=>[97,110,121]
 |2=>[105,110,116]
 |3=>[98,111,111,108]
 |4=>[115,116,114]
 |5=>[110,105,108]
 |_=>[]
def hJ(ns ws:List bc):List bc:=List.zipWith (λn w=>n++[58,32]++w) ns ws
def ih(fG:List Nat)(ws:List bc):List bc:=List.zipWith (λk w=>if k=8 then[40]++w++[41] else w) fG ws
def shape(k:Nat)(b8:bc)(ns:List bc)(fG:List Nat)(ws:List bc)(r:bc):bc:=
 if k=6 then b8 else if k=7 then[123]++e8 [44,32] (hJ ns ws)++[125] else if k=8 then[102,110,40]++e8 [44,32] ws++[41,32,45,62,32]++r
 else if k=9 then e8 [32,124,32] (ih fG ws) else word k
mutual
def wr:a_->bc
 |.mk k b8 ns xs rt=>shape k b8 ns (xs.map a_.k) (cR xs) (lA rt)
def cR:List a_->List bc
 |[]=>[]
 |t::c7=>wr t::cR c7
def lA:Option a_->bc
 |none=>[]
 |some t=>wr t
end
mutual
def okW:a_->Bool
 |.mk k b8 ns xs rt=>decide (1<=k)&&decide (k<=9)&&(decide (k≠7)||decide (xs.length=ns.length))&&(decide (k≠8)||rt.isSome)&&uD xs&&yT rt
def uD:List a_->Bool
 |[]=>true
 |t::c7=>okW t&&uD c7
def yT:Option a_->Bool
 |none=>true
 |some t=>okW t
end
theorem wv:∀l:List a_,(cR l).length=l.length
 |[]=>by rw[cR];rfl
 |x::l=>by rw[cR];simp[wv l]
theorem wx:∀(l:List a_) (i:Nat) (h:i<l.length) (an:i<(cR l).length),(cR l)[i]=wr l[i]
 |[],i,h,_=>by simp at h
 |x::l,0,_,_=>by simp only[cR];rfl
 |x::l,i+1,h,an=>by
  have:=wx l i (by simpa using h) (by rw[wv];simpa using h)
  simpa only[cR,List.getElem_cons_succ] using this
theorem KP{t:a_}:∀{l:List a_},uD l=true->t∈l->okW t=true
 |[],_,h=>by cases h
 |x::l,aD,h=>by
  rw[uD,Bool.and_eq_true] at aD
  rcases List.mem_cons.1 h with rfl|h
  · exact aD.1
  · exact KP aD.2 h
def nD(p:Option bc)(x:bc):Bool:=match p with
 |none=>true
 |some q=>en q x
def mX(p:Option bc):List bc->Bool
 |[]=>true
 |x::l=>jb x&&(nD p x&&mX (some x) l)
def pd(p:Option bc):List Nat->List bc->Bool
 |k::fG,w::ws=>(decide (k≠9)&&decide (k≠1))&&(nD p w&&pd (some w) fG ws)
 |_,_=>true
def mY(l:List bc):Nat->Option bc
 |0=>none
 |i+1=>l[i]?
theorem KQ{s:bc}(h:jb s=true):s.length<=24:=by
 unfold jb at h
 simp only[Bool.and_eq_true,decide_eq_true_eq] at h
 exact h.1.1.2
def k4(k:Nat)(s:bc)(N M:Nat)(o:Bool):Bool:=(!((!cF s []) !=decide (k=6)))&&(!(decide (0<N)&&decide (k≠7)))&&(!(decide (0<M)&&decide (k<7)))&&(!(o !=decide (k=8)))
def gR(k:Nat)(b8:bc)(ns:List bc)(fG:List Nat)(ws:List bc)(n:Nat)(r:Bool):Bool:=
 if k=6 then mi b8 else if k=7 then decide (ns.length=n)&&mX none ns else if k=8 then r else if k=9 then pd none fG ws&&decide (2<=n) else true
mutual
def e9:a_->Bool
 |.mk k b8 ns xs rt=>(decide (1<=k)&&decide (k<=9))&&(k4 k b8 ns.length xs.length rt.isSome&&(hk xs&&gR k b8 ns (xs.map a_.k) (cR xs) xs.length (jZ rt)))
def hk:List a_->Bool
 |[]=>true
 |t::c7=>e9 t&&hk c7
def jZ:Option a_->Bool
 |none=>false
 |some t=>e9 t
end
theorem BO{t:a_}:∀{l:List a_},hk l=true->t∈l->e9 t=true
 |[],_,h=>by cases h
 |x::l,aD,h=>by
  rw[hk,Bool.and_eq_true] at aD
  rcases List.mem_cons.1 h with rfl|h
  · exact aD.1
  · exact BO aD.2 h
theorem wy(k:Nat)(b8:bc)(ns:List bc)(xs:List a_)(rt:Option a_):e9 (.mk k b8 ns xs rt)=((decide (1<=k)&&decide (k<=9))&&(k4 k b8 ns.length xs.length rt.isSome&&(hk xs&&gR k b8 ns (xs.map a_.k) (cR xs) xs.length (jZ rt)))):=by rw[e9]
mutual
theorem BP:∀t:a_,e9 t=true->okW t=true
 |.mk k b8 ns xs rt,h=>by
  rw[wy] at h
  simp only[Bool.and_eq_true,decide_eq_true_eq] at h
  obtain⟨⟨bx,g5⟩,aU,ad,ax⟩:=h
  have wz:=KR xs ad
  have KS:rt.isSome=decide (k=8):=by
   unfold k4 at aU
   simp only[Bool.and_eq_true] at aU
   have:=aU.2
   revert this
   cases rt.isSome<;>cases aj:decide (k=8)<;>simp
  have a7:yT rt=true:=by
   cases rt with
   |none=>rw[yT]
   |some u=>
    have k5:k=8:=by simpa using KS.symm
    subst k5
    have hu:e9 u=true:=by simpa[gR,jZ] using ax
    rw[yT]
    exact BP u hu
  rw[okW]
  simp only[Bool.and_eq_true,Bool.or_eq_true,decide_eq_true_eq]
  refine⟨⟨⟨⟨⟨bx,g5⟩,?_⟩,?_⟩,wz⟩,a7⟩
  · by_cases e:k=7
    · subst e
      right
      have:ns.length=xs.length/\mX none ns=true:=by simpa[gR] using ax
      exact this.1.symm
    · exact .inl e
  · by_cases e:k=8
    · right;rw[KS];simp[e]
    · exact .inl e
theorem KR:∀l:List a_,hk l=true->uD l=true
 |[],_=>by rw[uD]
 |t::l,h=>by
  rw[hk,Bool.and_eq_true] at h
  rw[uD,BP t h.1,KR l h.2];rfl
end
def k6(c:Nat):List bc->Nat
 |[]=>0
 |x::l=>x.length+c+k6 c l
theorem KT(sep:bc):∀l:List bc,(l.flatMap (λy=>sep++y)).length=k6 sep.length l
 |[]=>rfl
 |x::l=>by
  rw[List.flatMap_cons,List.length_append,KT sep l,List.length_append,k6]
  omega
theorem Fl(sep:bc):∀l:List bc,(e8 sep l).length<=k6 sep.length l
 |[]=>Nat.le_refl _
 |x::l=>by
  show(x++l.flatMap _).length<=_
  rw[List.length_append,KT,k6]
  omega
theorem KU:∀(p:Option bc) (ns:List bc),mX p ns=true->∀n∈ns,n.length<=24
 |_,[],_,n,aM=>by cases aM
 |p,x::l,h,n,aM=>by
  rw[mX,Bool.and_eq_true,Bool.and_eq_true] at h
  rcases List.mem_cons.1 aM with rfl|aM
  · exact KQ h.1
  · exact KU (some x) l h.2.2 n aM
def yU:List a_->Prop
 |[]=>True
 |t::l=>(wr t).length+30<=300*sz t/\yU l
theorem KV:∀xs:List a_,yU xs->k6 2 (cR xs)<=300*eh xs
 |[],_=>by rw[cR,k6];omega
 |t::l,h=>by
  have ab:=h.1
  have:=KV l h.2
  rw[cR,k6,eh];omega
theorem KW:∀(ns:List bc) (xs:List a_),yU xs->(∀n∈ns,n.length<=24)->k6 2 (hJ ns (cR xs))<=300*eh xs
 |[],xs,_,_=>by simp[hJ,k6]
 |n::ns,[],_,_=>by simp[hJ,cR,k6]
 |n::ns,t::l,h,aM=>by
  have ab:=h.1
  have ae:=aM n (by simp)
  have:=KW ns l h.2 (λm hm=>aM m (by simp[hm]))
  unfold hJ at this⊢
  rw[cR,List.zipWith_cons_cons,k6,eh]
  simp only[List.length_append,List.length_cons,List.length_nil]
  omega
theorem KX:∀(xs:List a_),yU xs->k6 3 (ih (xs.map a_.k) (cR xs))<=300*eh xs
 |[],_=>by simp[ih,cR,k6]
 |t::l,h=>by
  have ab:=h.1
  have:=KX l h.2
  unfold ih at this⊢
  rw[List.map_cons,cR,List.zipWith_cons_cons,k6,eh]
  split
  · simp only[List.length_append,List.length_cons,List.length_nil]
    omega
  · omega
mutual
theorem BQ:∀t:a_,e9 t=true->(wr t).length+30<=300*sz t
 |.mk k b8 ns xs rt,h=>by
  rw[wy] at h
  simp only[Bool.and_eq_true,decide_eq_true_eq] at h
  obtain⟨⟨bx,g5⟩,aU,ad,ax⟩:=h
  have hs:=KY xs ad
  rw[wr,uB]
  unfold shape
  split
  · rename_i e
    subst e
    have:mi b8=true:=by simpa[gR] using ax
    unfold mi at this
    simp only[Bool.and_eq_true,decide_eq_true_eq] at this
    omega
  split
  · rename_i e
    subst e
    have hf:ns.length=xs.length/\mX none ns=true:=by simpa[gR] using ax
    have a8:=KW ns xs hs (KU none ns hf.2)
    have aW:(e8 [44,32] (hJ ns (cR xs))).length<=k6 2 (hJ ns (cR xs)):=Fl [44,32] _
    simp only[List.length_append,List.length_cons,List.length_nil]
    omega
  split
  · rename_i e
    subst e
    have a8:=KV xs hs
    have aW:(e8 [44,32] (cR xs)).length<=k6 2 (cR xs):=Fl [44,32] _
    have al:(lA rt).length<=300*dy rt:=by
     cases rt with
     |none=>rw[lA];simp
     |some u=>
      have hu:e9 u=true:=by simpa[gR,jZ] using ax
      have:=BQ u hu
      rw[lA,lW];omega
    simp only[List.length_append,List.length_cons,List.length_nil]
    omega
  split
  · have a8:=KX xs hs
    have aW:(e8 [32,124,32] (ih (xs.map a_.k) (cR xs))).length<=k6 3 (ih (xs.map a_.k) (cR xs)):=Fl [32,124,32] _
    omega
  · have:(word k).length<=4:=by
      unfold word;split<;>simp
    omega
theorem KY:∀l:List a_,hk l=true->yU l
 |[],_=>trivial
 |t::l,h=>by
  rw[hk,Bool.and_eq_true] at h
  exact⟨BQ t h.1,KY l h.2⟩
end
theorem Td(u:a_)(h:e9 u=true):okW u=true/\(wr u).length<=300*sz u:=⟨BP u h,by have:=BQ u h;omega⟩
end dD
namespace Go.Proofs.cT
open Go aC Go.Proofs dD
set_option maxRecDepth 100000
set_option maxHeartbeats 1000000
def da(B:Nat)(h:aa)(v:J)(vs:List J):Prop:=(v=.aA/\vs=[])\/∃b off aH,v=.slice b off vs.length aH/\b<B/\(∀i (hi:i<vs.length),av h b (off+i*1)=some vs[i])/\0<vs.length/\aH≠ .dead
mutual
def dI(B:Nat)(h:aa):a_->J->Prop
 |.mk k b8 ns xs rt,v=>∃r bk a6 cZ vs bN lo up,v=.ptr r 0/\r<B/\h.get r=some (.cells [.int .i64 (Int.ofNat k),.str b8,bk,a6,cZ] 51 bN lo up)/\da B h bk (ns.map .str)/\da B h a6 vs/\dU B h xs vs/\dE B h rt cZ
def dU(B:Nat)(h:aa):List a_->List J->Prop
 |[],vs=>vs=[]
 |t::c7,vs=>∃v ws,vs=v::ws/\dI B h t v/\dU B h c7 ws
def dE(B:Nat)(h:aa):Option a_->J->Prop
 |none,v=>v=.bb
 |some t,v=>dI B h t v
end
def gE(B:Nat)(h g:aa):Prop:=∀b,b<B->g.get b=h.get b
theorem gE.ext{B C:Nat}{h g:aa}(e:Ext C h g)(b4:B<=C):gE B h g:=λb ag=>e.get b (by omega)
theorem da.b0{B:Nat}{h g:aa}{v:J}{vs:List J}(e:gE B h g)(hs:da B h v vs):da B g v vs:=by
 rcases hs with hs|⟨b,off,aH,ab,ae,aB,aP⟩
 · exact .inl hs
 · refine .inr ⟨b,off,aH,ab,ae,λi hi=>?_,aP⟩
   rw[<-aB i hi]
   unfold av
   rw[e b ae]
theorem da.le{B C:Nat}{h:aa}{v:J}{vs:List J}(e:B<=C)(hs:da B h v vs):da C h v vs:=by
 rcases hs with hs|⟨b,off,aH,ab,ae,aB,aP⟩
 · exact .inl hs
 · exact .inr ⟨b,off,aH,ab,by omega,aB,aP⟩
mutual
theorem dI.b0{B:Nat}{h g:aa}(e:gE B h g):∀(t:a_) (v:J),dI B h t v->dI B g t v
 |.mk k b8 ns xs rt,v,ad=>by
  obtain⟨r,bk,a6,cZ,vs,bN,lo,up,ab,ae,aB,aP,cg,dN,fE⟩:=ad
  exact⟨r,bk,a6,cZ,vs,bN,lo,up,ab,ae,(e r ae).trans aB,aP.b0 e,cg.b0 e,dU.b0 e xs vs dN,dE.b0 e rt cZ fE⟩
theorem dU.b0{B:Nat}{h g:aa}(e:gE B h g):∀(c7:List a_) (vs:List J),dU B h c7 vs->dU B g c7 vs
 |[],vs,ad=>ad
 |t::c7,vs,ad=>by
  obtain⟨v,ws,ab,ae,aB⟩:=ad
  exact⟨v,ws,ab,dI.b0 e t v ae,dU.b0 e c7 ws aB⟩
theorem dE.b0{B:Nat}{h g:aa}(e:gE B h g):∀(t:Option a_) (v:J),dE B h t v->dE B g t v
 |none,v,ad=>ad
 |some t,v,ad=>dI.b0 e t v ad
end
mutual
theorem dI.le{B C:Nat}{h:aa}(e:B<=C):∀(t:a_) (v:J),dI B h t v->dI C h t v
 |.mk k b8 ns xs rt,v,ad=>by
  obtain⟨r,bk,a6,cZ,vs,bN,lo,up,ab,ae,aB,aP,cg,dN,fE⟩:=ad
  exact⟨r,bk,a6,cZ,vs,bN,lo,up,ab,by omega,aB,aP.le e,cg.le e,dU.le e xs vs dN,dE.le e rt cZ fE⟩
theorem dU.le{B C:Nat}{h:aa}(e:B<=C):∀(c7:List a_) (vs:List J),dU B h c7 vs->dU C h c7 vs
 |[],vs,ad=>ad
 |t::c7,vs,ad=>by
  obtain⟨v,ws,ab,ae,aB⟩:=ad
  exact⟨v,ws,ab,dI.le e t v ae,dU.le e c7 ws aB⟩
theorem dE.le{B C:Nat}{h:aa}(e:B<=C):∀(t:Option a_) (v:J),dE B h t v->dE C h t v
 |none,v,ad=>ad
 |some t,v,ad=>dI.le e t v ad
end
theorem dU.len{B:Nat}{h:aa}:∀{c7:List a_} {vs:List J},dU B h c7 vs->vs.length=c7.length
 |[],vs,ad=>by
  have e:vs=[]:=ad
  subst e;rfl
 |s::c7,vs,ad=>by
  obtain⟨u,ws,rfl,ae,aB⟩:=ad
  simp[dU.len aB]
theorem dU.get{B:Nat}{h:aa}:∀{c7:List a_} {vs:List J},dU B h c7 vs->∀i (ab:i<vs.length) (ae:i<c7.length),dI B h c7[i] vs[i]
 |[],vs,ad,i,ab,ae=>by simp at ae
 |s::c7,vs,ad,i,ab,ae=>by
  obtain⟨u,ws,rfl,aB,aP⟩:=ad
  cases i with
  |zero=>exact aB
  |succ i=>exact dU.get aP i (by simpa using ab) (by simpa using ae)
theorem da.snd{B:Nat}{h:aa}{v:J}{vs:List J}(hs:da B h v vs):J.sound v=true:=by
 rcases hs with⟨rfl,_⟩|⟨b,off,aH,rfl,_⟩<;>rfl
theorem da.len{B:Nat}{h g:aa}{v:J}{vs:List J}{t e:TypeId}(hu:Tryz.prog.underlying t=some (.slice e))(hs:da B h v vs):cq Tryz.prog g t v=some (.int .i64 (Int.ofNat vs.length)):=by
 rcases hs with⟨rfl,rfl⟩|⟨b,off,aH,rfl,_⟩
 · simp only[cq,hu];rfl
 · simp only[cq,hu]
theorem dE.q7{B:Nat}{h:aa}{ot:Option a_}{v:J}(aJ:dE B h ot v):v=.bb\/∃R,v=.ptr R 0:=by
 cases ot with
 |none=>exact .inl aJ
 |some u=>
  cases u with
  |mk k b8 ns ys rt=>obtain⟨r,bk,a6,_,vs,bN,lo,up,rfl,_⟩:=aJ;exact .inr ⟨r,rfl⟩
theorem dE.snd{B:Nat}{h:aa}{ot:Option a_}{v:J}(aJ:dE B h ot v):J.sound v=true:=by
 rcases aJ.q7 with rfl|⟨R,rfl⟩<;>rfl
theorem dI.snd{B:Nat}{h:aa}{t:a_}{v:J}(aJ:dI B h t v):J.sound v=true:=dE.snd (ot:=some t) aJ
theorem od{p:Prop}(h:p:=by first|with_reducible assumption|rfl|exact da.snd (by with_reducible assumption)|exact da.fu (by with_reducible assumption)|exact dE.snd (by with_reducible assumption)|exact dE.fu (by with_reducible assumption)|exact dI.snd (by with_reducible assumption)|exact dI.fu (by with_reducible assumption)):p:=h
noncomputable def cj:Nat->List J->aa->Option (J×aa):=q1 [⟨12,[],.bool true⟩,⟨139,[.str pc],.aL [.agg (k3 qg),.bool true]⟩,⟨139,[.str (pc++[45,47,46])],.aL [.agg (k3 kK),.bool true]⟩]
noncomputable def Y(n:Nat):aE->List J->aa->ao:=gk Tryz.prog cj n
end Go.Proofs.cT
namespace Go.Proofs.cT
open Go aC Go.Proofs dD
set_option maxRecDepth 100000
set_option maxHeartbeats 1000000
theorem Te(call:aE->List J->aa->ao)(n:Nat)(h:aa):
  aw Tryz.prog Tryz.f92 none call [] (af.mk [(0,.bb),(1,.int .i64 (.ofNat n))] [] .none h) (.ret)
   (af.mk [(4,.int .i64 (.ofNat n))] [] .none h):=
 aX [4] (hs:=[.v (.bool true),.b true,.b true,.b true,.b true]) (by kernel_rfl)<| .cons (by kernel_rfl:dr Tryz.prog h BinOp.eql 47 (Operand.tmp 6) (Operand.const (Value.pointer none)) J.bb J.bb=some (J.bool true))<| .cons (by kernel_rfl:true=true)<| .cons (by kernel_rfl:true=true)<| .cons (by kernel_rfl:true=true)<| .cons (by kernel_rfl:true=true)<| .nil
theorem KZ(call:aE->List J->aa->ao)(r n:Nat)(h:aa):
  aw Tryz.prog Tryz.f92 none call [0] (af.mk [(0,.ptr r 0),(1,.int .i64 (.ofNat n))] [] .none h) (.nrm)
   (af.mk [(0,.ptr r 0),(1,.int .i64 (.ofNat n))] [] .none h):=
 aX [0,1] (hs:=[]) (by kernel_rfl)<| .nil
theorem Tf(call:aE->List J->aa->ao)(r n:Nat)(h:aa)
  (H1:br (.ofNat 60) (.ofNat n)=true):
  aw Tryz.prog Tryz.f92 none call [1,0] (af.mk [(0,.ptr r 0),(1,.int .i64 (.ofNat n))] [] .none h) (.ret)
   (af.mk [(0,.ptr r 0),(1,.int .i64 (.ofNat n)),(4,.int .i64 (.ofNat n))] [] .none h):=
 aX [0,1,4] (hs:=[.v (.bool false),.b false,.b false,.b false,.b true]) (by kernel_rfl)<| .cons (by kernel_rfl:dr Tryz.prog h BinOp.eql 47 (Operand.tmp 6) (Operand.const (Value.pointer none)) (J.ptr r 0) J.bb=some (J.bool false))<| .cons (by kernel_rfl:false=false)<| .cons (by kernel_rfl:false=false)<| .cons (by kernel_rfl:false=false)<| .cons H1<| .nil
theorem Tg(call:aE->List J->aa->ao)(r n:Nat)(h:aa)
  (H1:br (.ofNat 60) (.ofNat n)=false):
  aw Tryz.prog Tryz.f92 none call [1,0] (af.mk [(0,.ptr r 0),(1,.int .i64 (.ofNat n))] [] .none h) (.nrm)
   (af.mk [(0,.ptr r 0),(1,.int .i64 (.ofNat n))] [] .none h):=
 aX [0,1,4] (hs:=[.v (.bool false),.b false,.b false,.b false,.b false]) (by kernel_rfl)<| .cons (by kernel_rfl:dr Tryz.prog h BinOp.eql 47 (Operand.tmp 6) (Operand.const (Value.pointer none)) (J.ptr r 0) J.bb=some (J.bool false))<| .cons (by kernel_rfl:false=false)<| .cons (by kernel_rfl:false=false)<| .cons (by kernel_rfl:false=false)<| .cons H1<| .nil
theorem Th(call:aE->List J->aa->ao)(r n k:Nat)(h:aa)
  (H1:arith .add .i64 (.ofNat n) (.ofNat 1)=some (.int .i64 (.ofNat k))):
  aw Tryz.prog Tryz.f92 none call [1,1,0] (af.mk [(0,.ptr r 0),(1,.int .i64 (.ofNat n))] [] .none h) (.nrm)
   (af.mk [(0,.ptr r 0),(1,.int .i64 (.ofNat k))] [] .none h):=
 aX [0,1] (hs:=[.v (.int .i64 (.ofNat k))]) (by kernel_rfl)<| .cons H1<| .nil
theorem Ti(call:aE->List J->aa->ao)(r n:Nat)(h:aa):
  aw Tryz.prog Tryz.f92 none call [1,1,1,0,0] (af.mk [(0,.ptr r 0),(1,.int .i64 (.ofNat n))] [] .none h) (.nrm)
   (af.mk [(0,.ptr r 0),(1,.int .i64 (.ofNat n)),(5,.int .i64 (.ofNat 0))] [] .none h):=
 aX [0,1,5] (hs:=[]) (by kernel_rfl)<| .nil
theorem Tj(call:aE->List J->aa->ao)(r n:Nat)(h:aa)
  (H1:av h r (0+3)=some .aA):
  aw Tryz.prog Tryz.f92 none call [1,1,1,0,1,0,0] (af.mk [(0,.ptr r 0),(1,.int .i64 (.ofNat n)),(5,.int .i64 (.ofNat 0))] [] .none h) (.exit 0)
   (af.mk [(0,.ptr r 0),(1,.int .i64 (.ofNat n))] [] .none h):=
 aX [0,1] (hs:=[.v .aA,.b false,.b false,.b false,.b false]) (by kernel_rfl)<| .cons H1<| .cons (by kernel_rfl:br (Int.ofNat 0) (Int.ofNat 0)=false)<| .cons (by kernel_rfl:br (Int.ofNat 0) (Int.ofNat 0)=false)<| .cons (by kernel_rfl:br (Int.ofNat 0) (Int.ofNat 0)=false)<| .cons (by kernel_rfl:false=false)<| .nil
theorem Tk(call:aE->List J->aa->ao)(r n b off N i q k j:Nat)(aH:cE)(x:J)(h g:aa)
  (H1:av h r (0+3)=some (.slice b off N aH))
  (ay:br (.ofNat i) (.ofNat N)=true)
  (aN:dq (.ofNat n) (.ofNat 60)=true)
  (aO:Nat.le (Nat.succ i) N/\J.ptr b q=J.ptr b (off+i*1))
  (bm:av h b q=some x)
  (bT:call (.fn 92) [x,.int .i64 (.ofNat n)] h=ao.ret (.int .i64 (.ofNat k)) g)
  (cA:arith .add .i64 (.ofNat i) (.ofNat 1)=some (.int .i64 (.ofNat j))):
  aw Tryz.prog Tryz.f92 none call [1,1,1,0,1,0,0] (af.mk [(0,.ptr r 0),(1,.int .i64 (.ofNat n)),(5,.int .i64 (.ofNat i))] [] .none h) (.nrm)
   (af.mk [(0,.ptr r 0),(1,.int .i64 (.ofNat k)),(5,.int .i64 (.ofNat j))] [] .none g):=
 aX [0,1,5] (hs:=[.v (.slice b off N aH),.b true,.b true,.b true,.b true,.v (.slice b off N aH),.v (.ptr b q),.v x,.c (.int .i64 (.ofNat k)) g,.v (.int .i64 (.ofNat j))]) (by kernel_rfl)<| .cons H1<| .cons ay<| .cons ay<| .cons ay<| .cons aN<| .cons H1<| .cons aO<| .cons bm<| .cons bT<| .cons cA<| .nil
theorem Tl(call:aE->List J->aa->ao)(r n b off N i q k j:Nat)(aH:cE)(x:J)(h g:aa)
  (H1:av h r (0+3)=some (.slice b off N aH))
  (ay:br (.ofNat i) (.ofNat N)=true)
  (aN:dq (.ofNat n) (.ofNat 60)=false):
  aw Tryz.prog Tryz.f92 none call [1,1,1,0,1,0,0] (af.mk [(0,.ptr r 0),(1,.int .i64 (.ofNat n)),(5,.int .i64 (.ofNat i))] [] .none h) (.exit 0)
   (af.mk [(0,.ptr r 0),(1,.int .i64 (.ofNat n)),(5,.int .i64 (.ofNat i))] [] .none h):=
 aX [0,1,5] (hs:=[.v (.slice b off N aH),.b true,.b true,.b true,.b false]) (by kernel_rfl)<| .cons H1<| .cons ay<| .cons ay<| .cons ay<| .cons aN<| .nil
theorem Tm(call:aE->List J->aa->ao)(r n b off N i q k j:Nat)(aH:cE)(x:J)(h g:aa)
  (H1:av h r (0+3)=some (.slice b off N aH))
  (ay:br (.ofNat i) (.ofNat N)=false):
  aw Tryz.prog Tryz.f92 none call [1,1,1,0,1,0,0] (af.mk [(0,.ptr r 0),(1,.int .i64 (.ofNat n)),(5,.int .i64 (.ofNat i))] [] .none h) (.exit 0)
   (af.mk [(0,.ptr r 0),(1,.int .i64 (.ofNat n)),(5,.int .i64 (.ofNat i))] [] .none h):=
 aX [0,1,5] (hs:=[.v (.slice b off N aH),.b false,.b false,.b false,.b false]) (by kernel_rfl)<| .cons H1<| .cons ay<| .cons ay<| .cons ay<| .cons (by kernel_rfl:false=false)<| .nil
theorem Tn(call:aE->List J->aa->ao)(r n k:Nat)(x:J)(h g:aa)
  (H1:av h r (0+4)=some x)
  (ay:call (.fn 92) [x,.int .i64 (.ofNat n)] h=ao.ret (.int .i64 (.ofNat k)) g):
  aw Tryz.prog Tryz.f92 none call [1,1,1,1] (af.mk [(0,.ptr r 0),(1,.int .i64 (.ofNat n))] [] .none h) (.ret)
   (af.mk [(4,.int .i64 (.ofNat k))] [] .none g):=
 aX [4] (hs:=[.v x,.c (.int .i64 (.ofNat k)) g]) (by kernel_rfl)<| .cons H1<| .cons ay<| .nil
theorem K0(call:aE->List J->aa->ao)(k:Nat)(x:J)(h g:aa)
  (H1:call (.fn 92) [x,.int .i64 (.ofNat 0)] h=ao.ret (.int .i64 (.ofNat k)) g):
  aw Tryz.prog Tryz.f79 none call [] (af.mk [(0,x)] [] .none h) (.ret)
   (af.mk [(2,.int .i64 (.ofNat k))] [] .none g):=
 aX [2] (hs:=[.c (.int .i64 (.ofNat k)) g]) (by kernel_rfl)<| .cons H1<| .nil
theorem K1{B:Nat}{h:aa}{xs:List a_}{vs:List J}(call:aE->List J->aa->ao)(r b off:Nat)(aH:cE)(aJ:av h r (0+3)=some (.slice b off vs.length aH))(ad:dU B h xs vs)(aD:∀i (hi:i<vs.length),av h b (off+i*1)=some vs[i])(hlen:vs.length<=1000000)
  (bt:∀i (ab:i<vs.length) (ae:i<xs.length) n,n<=61->call (.fn 92) [vs[i],.int .i64 (Int.ofNat n)] h=.ret (.int .i64 (Int.ofNat (min (n+sz xs[i]) 61))) h):∀(k i n:Nat),vs.length-i=k->i<=vs.length->n<=61->
  ev Tryz.prog Tryz.f92 none call [1,1,1,0,1,0] (k+1) ⟨[(0,.ptr r 0),(1,.int .i64 (Int.ofNat n)),(5,.int .i64 (Int.ofNat i))],[],.none,h⟩ (.exit 0) ⟨[(0,.ptr r 0),(1,.int .i64 (Int.ofNat (min (n+eh (xs.drop i)) 61)))],[],.none,h⟩
 |0,i,n,ax,hi,aM=>by
  have h9:=dU.len ad
  obtain rfl:i=vs.length:=by omega
  rw[List.drop_of_length_le (by omega)]
  have e:min (n+eh []) 61=n:=by show min (n+0) 61=n;omega
  rw[e]
  exact .exit (cD.post (Tm call r n b off vs.length _ 0 0 0 aH .bb h h aJ (dY (by omega))) ⟨rfl,rfl,trivial⟩) (by simp)
 |k+1,i,n,ax,hi,aM=>by
  have h9:=dU.len ad
  have ab:i<vs.length:=by omega
  have ae:i<xs.length:=by omega
  rw[List.drop_eq_getElem_cons ae]
  by_cases fQ:n<=60
  · have st:=Tk call r n b off vs.length i (off+i*1) (min (n+sz xs[i]) 61) (i+1) aH vs[i] h h aJ (du ab) (iE (by omega)) ⟨ab,rfl⟩ (aD i ab) (bt i ab ae n aM) (ki ab (by omega))
    have e:min (n+eh (xs[i]::xs.drop (i+1))) 61=min (min (n+sz xs[i]) 61+eh (xs.drop (i+1))) 61:=by
     show min (n+(sz xs[i]+eh (xs.drop (i+1)))) 61=_
     omega
    rw[e]
    exact .step st (K1 call r b off aH aJ ad aD hlen bt k (i+1) _ (by omega) (by omega) (by omega))
  · have e:min (n+eh (xs[i]::xs.drop (i+1))) 61=n:=by omega
    rw[e]
    exact .exit (cD.post (Tl call r n b off vs.length i 0 0 0 aH .bb h h aJ (du ab) (iF (by omega))) ⟨rfl,rfl,trivial⟩) (by simp)
theorem K2(m n:Nat)(h:aa):Y (m+1) (.fn 92) [.bb,.int .i64 (Int.ofNat n)] h=.ret (.int .i64 (Int.ofNat n)) h:=
 dn (intr:=cj) (n:=m) (args:=[.bb,.int .i64 (Int.ofNat n)]) Tryz.func92 (by kernel_rfl) rfl (by kernel_rfl) (Te (Y m) n h) (.inl rfl) (by kernel_rfl)
theorem Fm:∀(N:Nat) (t:a_),sz t<=N->sz t<=90000->∀(B:Nat) (h:aa) (v:J) (m n:Nat),sz t<m->n<=61->dI B h t v->Y m (.fn 92) [v,.int .i64 (Int.ofNat n)] h=.ret (.int .i64 (Int.ofNat (min (n+sz t) 61))) h
 |0,t,fU,_,_,_,_,_,_,_,_,_=>by have:=sD t;omega
 |N+1,.mk k b8 ns xs rt,fU,tO,B,h,v,m,n,hm,aM,aJ=>by
  obtain⟨r,bk,a6,cZ,vs,bN,lo,up,rfl,ae,aB,aP,cg,dN,fE⟩:=aJ
  have hs:sz (.mk k b8 ns xs rt)=1+eh xs+dy rt:=by unfold sz;rfl
  rw[hs] at fU hm tO⊢
  obtain⟨m,rfl⟩:∃j,m=j+1:=⟨m-1,by omega⟩
  have h9:=dU.len dN
  have mF:=pb xs
  by_cases fQ:n<=60
  · have s0:=KZ (Y m) r n h
    have s1:=Tg (Y m) r n h (dY (by omega))
    have s2:=Th (Y m) r n (n+1) h (ki (m:=100000) (by omega) (by decide))
    have ck:=Ti (Y m) r (n+1) h
    have bt:∀i (ab:i<vs.length) (ae:i<xs.length) n,n<=61->Y m (.fn 92) [vs[i],.int .i64 (Int.ofNat n)] h=.ret (.int .i64 (Int.ofNat (min (n+sz xs[i]) 61))) h:=λi ab ae n aM=>by
     have nh:=pa (List.getElem_mem ae)
     exact Fm N xs[i] (by omega) (by omega) B h vs[i] m n (by omega) aM (dU.get dN i ab ae)
    have iG:av h r (0+3)=some a6:=ar aB rfl
    have loop:aw Tryz.prog Tryz.f92 none (Y m) [1,1,1,0,1,0] ⟨[(0,.ptr r 0),(1,.int .i64 (Int.ofNat (n+1))),(5,.int .i64 (Int.ofNat 0))],[],.none,h⟩ (.exit 0) ⟨[(0,.ptr r 0),(1,.int .i64 (Int.ofNat (min (n+1+eh xs) 61)))],[],.none,h⟩:=by
     rcases cg with⟨rfl,rfl⟩|⟨b,off,aH,rfl,ag,aD,_⟩
     · have qT:xs=[]:=List.eq_nil_of_length_eq_zero (by simpa using h9.symm)
       subst qT
       have e:min (n+1+eh []) 61=n+1:=by show min (n+1+0) 61=n+1;omega
       rw[e]
       exact ev.run (p:=[1,1,1,0,1,0]) (n:=1) (by kernel_rfl) (.exit (Tj (Y m) r (n+1) h iG) (by simp)) (by omega)
     · have:=K1 (Y m) r b off aH iG dN aD (by omega) bt vs.length 0 (n+1) (by omega) (by omega) (by omega)
       rw[List.drop_zero] at this
       exact ev.run (p:=[1,1,1,0,1,0]) (by kernel_rfl) this (by omega)
    have To:=aw.block (p:=[1,1,1,0,1]) (id:=0) (by kernel_rfl) loop
    have x5:Y m (.fn 92) [cZ,.int .i64 (Int.ofNat (min (n+1+eh xs) 61))] h=.ret (.int .i64 (Int.ofNat (min (n+(1+eh xs+dy rt)) 61))) h:=by
     cases rt with
     |none=>
      have e:cZ=.bb:=fE
      subst e
      obtain⟨m,rfl⟩:∃j,m=j+1:=⟨m-1,by omega⟩
      have e:min (n+(1+eh xs+dy none)) 61=min (n+1+eh xs) 61:=by show min (n+(1+eh xs+0)) 61=_;omega
      rw[e]
      exact K2 m _ h
     |some u=>
      have fT:dy (some u)=sz u:=by unfold dy;rfl
      rw[fT] at fU hm tO⊢
      rw[Fm N u (by omega) (by omega) B h cZ m _ (by omega) (by omega) fE]
      congr 3
      omega
    have b6:=Tn (Y m) r (min (n+1+eh xs) 61) (min (n+(1+eh xs+dy rt)) 61) cZ h h (ar aB rfl) x5
    exact dn (intr:=cj) (n:=m) (args:=[.ptr r 0,.int .i64 (Int.ofNat n)]) Tryz.func92 (by kernel_rfl) rfl (by kernel_rfl) (aw.seq (p:=[]) (by kernel_rfl) s0 (aw.seq (p:=[1]) (by kernel_rfl) s1 (aw.seq (p:=[1,1]) (by kernel_rfl) s2 (aw.seq (p:=[1,1,1]) (by kernel_rfl) (aw.seq (p:=[1,1,1,0]) (by kernel_rfl) ck To) b6)))) (.inl rfl) (by kernel_rfl)
  · have s0:=KZ (Y m) r n h
    have e:min (n+(1+eh xs+dy rt)) 61=n:=by omega
    rw[e]
    have s1:=Tf (Y m) r n h (du (by omega))
    exact dn (intr:=cj) (n:=m) (args:=[.ptr r 0,.int .i64 (Int.ofNat n)]) Tryz.func92 (by kernel_rfl) rfl (by kernel_rfl) (aw.seq (p:=[]) (by kernel_rfl) s0 (aw.fW (p:=[1]) (by kernel_rfl) s1 (by simp))) (.inl rfl) (by kernel_rfl)
theorem Tp{t:a_}{B:Nat}{h:aa}{v:J}{m:Nat}(ag:sz t<=90000)(hm:sz t<m)(aJ:dI B h t v):Y (m+1) (.fn 79) [v] h=.ret (.int .i64 (Int.ofNat (min (sz t) 61))) h:=by
 have e:=Fm (sz t) t (Nat.le_refl _) ag B h v m 0 hm (by decide) aJ
 rw[Nat.zero_add] at e
 exact dn (intr:=cj) (n:=m) (args:=[v]) Tryz.func79 (by kernel_rfl) rfl (by kernel_rfl) (K0 (Y m) _ v h h e) (.inl rfl) (by kernel_rfl)
end Go.Proofs.cT
namespace Go.Proofs.cT
open Go aC Go.Proofs dD
set_option maxRecDepth 100000
set_option maxHeartbeats 1000000
theorem Tq(call:aE->List J->aa->ao)(v:J)(h:aa):
  aw Tryz.prog Tryz.f70 none call [0] (af.mk [(0,v)] [] .none h) (.nrm)
   (af.mk [(0,v)] [] .none h):=
 aX [0] (hs:=[]) (by kernel_rfl)<| .nil
theorem Tr(call:aE->List J->aa->ao)(v:J)(h g:aa)
  (H1:aC.storeCells (aa.push h (.cells [.int .i64 (.ofNat 0)] 3 .own 0 0)) (aa.n h) 0 [.int .i64 (.ofNat 0)]=some g):
  aw Tryz.prog Tryz.f70 none call [1,0] (af.mk [(0,v)] [] .none h) (.nrm)
   (af.mk [(0,v),(3,.ptr (aa.n h) 0)] [] .none g):=
 aX [0,3] (hs:=[.ft (.aL []) g]) (by kernel_rfl)<| .cons (⟨by kernel_rfl,H1,rfl⟩:some 1=some 1/\aC.storeCells (aa.push h (cJ.cells [J.int IntKind.i64 (Int.ofNat 0)] 3 eE.own 0 0)) (aa.n h) 0 [J.int IntKind.i64 (Int.ofNat 0)]=some g/\J.aL []=J.aL [])<| .nil
theorem Ts(call:aE->List J->aa->ao)(v w:J)(a:Nat)(h g:aa)
  (H1:call (.fn 86) [v] h=ao.ret w g):
  aw Tryz.prog Tryz.f70 none call [1,1,0,0] (af.mk [(0,v),(3,.ptr a 0)] [] .none h) (.nrm)
   (af.mk [(3,.ptr a 0),(5,w)] [] .none g):=
 aX [3,5] (hs:=[.c w g]) (by kernel_rfl)<| .cons H1<| .nil
theorem Tt(call:aE->List J->aa->ao)(l a i j:Nat)(h g:aa)
  (H1:av h a 0=some (.int .i64 (.ofNat i)))
  (ay:arith .add .i64 (.ofNat i) (.ofNat 1)=some (.int .i64 (.ofNat j)))
  (aN:aC.storeCells h a 0 [.int .i64 (.ofNat j)]=some g)
  (aO:av g a 0=some (.int .i64 (.ofNat j)))
  (bm:br (.ofNat 60) (.ofNat j)=true):
  aw Tryz.prog Tryz.f70 (some l) call [1,1,0,1,0,1] (af.mk [(3,.ptr a 0)] [] .none h) (.exit 0)
   (af.mk [(3,.ptr a 0)] [] .none g):=
 aX [3] (hs:=[.v (.int .i64 (.ofNat i)),.v (.int .i64 (.ofNat j)),.ft (.aL []) g,.v (.int .i64 (.ofNat j)),.b true]) (by kernel_rfl)<| .cons H1<| .cons ay<| .cons (⟨by kernel_rfl,aN,rfl⟩:some 1=some 1/\aC.storeCells h a 0 [J.int IntKind.i64 (Int.ofNat j)]=some g/\J.aL []=J.aL [])<| .cons aO<| .cons bm<| .nil
theorem Tu(call:aE->List J->aa->ao)(l a i j:Nat)(h g:aa)
  (H1:av h a 0=some (.int .i64 (.ofNat i)))
  (ay:arith .add .i64 (.ofNat i) (.ofNat 1)=some (.int .i64 (.ofNat j)))
  (aN:aC.storeCells h a 0 [.int .i64 (.ofNat j)]=some g)
  (aO:av g a 0=some (.int .i64 (.ofNat j)))
  (bm:br (.ofNat 60) (.ofNat j)=false):
  aw Tryz.prog Tryz.f70 (some l) call [1,1,0,1,0,1] (af.mk [(3,.ptr a 0)] [] .none h) (.nrm)
   (af.mk [(3,.ptr a 0)] [] .none g):=
 aX [3] (hs:=[.v (.int .i64 (.ofNat i)),.v (.int .i64 (.ofNat j)),.ft (.aL []) g,.v (.int .i64 (.ofNat j)),.b false]) (by kernel_rfl)<| .cons H1<| .cons ay<| .cons (⟨by kernel_rfl,aN,rfl⟩:some 1=some 1/\aC.storeCells h a 0 [J.int IntKind.i64 (Int.ofNat j)]=some g/\J.aL []=J.aL [])<| .cons aO<| .cons bm<| .nil
theorem Tv(call:aE->List J->aa->ao)(a j eU:Nat)(h:aa)
  (H1:av h a 0=some (.int .i64 (.ofNat j))):
  aw Tryz.prog Tryz.f70 none call [1,1,1] (af.mk [(3,.ptr a 0)] [.collected eU] .none h) (.ret)
   (af.mk [(2,.int .i64 (.ofNat j))] [.collected eU] .none h):=
 aX [2] (hs:=[.v (.int .i64 (.ofNat j))]) (by kernel_rfl)<| .cons H1<| .nil
theorem Tw(call:aE->List J->aa->ao)(r:Nat)(h:aa):
  aw Tryz.prog Tryz.f86 none call [] (af.mk [(0,.ptr r 0)] [] .none h) (.ret)
   (af.mk [(2,.fn 99 [] [.ptr (aa.n h) 0])] [] .none (aa.push h (.cells [.ptr r 0] 47 .own 0 0))):=
 aX [2] (hs:=[]) (by kernel_rfl)<| .nil
theorem Tx(call:aE->List J->aa->ao)(h:aa):
  aw Tryz.prog Tryz.f86 none call [] (af.mk [(0,.bb)] [] .none h) (.ret)
   (af.mk [(2,.fn 99 [] [.ptr (aa.n h) 0])] [] .none (aa.push h (.cells [.bb] 47 .own 0 0))):=
 aX [2] (hs:=[]) (by kernel_rfl)<| .nil
theorem Ty(call:aE->List J->aa->ao)(l a:Nat)(v w:J)(h ab ae:aa)
  (H1:aC.storeCells (aa.push (aa.push h (.cells [.ca l] 139 .own 0 0)) (.cells [.gj] 139 .own 0 0)) (aa.n (aa.push h (.cells [.ca l] 139 .own 0 0))) 0 [.fn 100 [] [.ptr (aa.n h) 0,.ptr (aa.n (aa.push h (.cells [.ca l] 139 .own 0 0))) 0]]=some ab)
  (ay:av ab (aa.n (aa.push h (.cells [.ca l] 139 .own 0 0))) 0=some (.fn 100 [] [.ptr (aa.n h) 0,.ptr (aa.n h+1) 0]))
  (aN:av ab a 0=some v)
  (aO:call (.fn 100) [v,.ptr (aa.n h) 0,.ptr (aa.n h+1) 0] ab=ao.ret w ae):
  aw Tryz.prog Tryz.f99 none call [] (af.mk [(0,.ca l),(1,.ptr a 0)] [] .none h) (.nrm)
   (af.mk [] [] .none ae):=
 aX [] (hs:=[.ft (.aL []) ab,.v (.fn 100 [] [.ptr (aa.n h) 0,.ptr (aa.n h+1) 0]),.v v,.c w ae]) (by kernel_rfl)<| .cons (⟨by kernel_rfl,H1,rfl⟩:some 1=some 1/\aC.storeCells (aa.push (aa.push h (cJ.cells [J.ca l] 139 eE.own 0 0)) (cJ.cells [J.gj] 139 eE.own 0 0)) (aa.n (aa.push h (cJ.cells [J.ca l] 139 eE.own 0 0))) 0 [J.fn 100 [] [J.ptr (aa.n h) 0,J.ptr (aa.n (aa.push h (cJ.cells [J.ca l] 139 eE.own 0 0))) 0]]=some ab/\J.aL []=J.aL [])<| .cons ay<| .cons aN<| .cons aO<| .nil
theorem Tz(call:aE->List J->aa->ao)(y z:Nat)(h:aa):
  aw Tryz.prog Tryz.f100 none call [] (af.mk [(0,.bb),(1,.ptr y 0),(2,.ptr z 0)] [] .none h) (.ret)
   (af.mk [(4,.bool true)] [] .none h):=
 aX [4] (hs:=[.v (.bool true),.b true]) (by kernel_rfl)<| .cons (by kernel_rfl:dr Tryz.prog h BinOp.eql 47 (Operand.tmp 7) (Operand.const (Value.pointer none)) J.bb J.bb=some (J.bool true))<| .cons (by kernel_rfl:true=true)<| .nil
theorem TA(call:aE->List J->aa->ao)(r y z:Nat)(h:aa):
  aw Tryz.prog Tryz.f100 none call [0] (af.mk [(0,.ptr r 0),(1,.ptr y 0),(2,.ptr z 0)] [] .none h) (.nrm)
   (af.mk [(0,.ptr r 0),(1,.ptr y 0),(2,.ptr z 0)] [] .none h):=
 aX [0,1,2] (hs:=[]) (by kernel_rfl)<| .nil
theorem TB(call:aE->List J->aa->ao)(r y z:Nat)(h:aa):
  aw Tryz.prog Tryz.f100 none call [1,0] (af.mk [(0,.ptr r 0),(1,.ptr y 0),(2,.ptr z 0)] [] .none h) (.nrm)
   (af.mk [(0,.ptr r 0),(1,.ptr y 0),(2,.ptr z 0)] [] .none h):=
 aX [0,1,2] (hs:=[.v (.bool false),.b false]) (by kernel_rfl)<| .cons (by kernel_rfl:dr Tryz.prog h BinOp.eql 47 (Operand.tmp 7) (Operand.const (Value.pointer none)) (J.ptr r 0) J.bb=some (J.bool false))<| .cons (by kernel_rfl:false=false)<| .nil
theorem TC(call:aE->List J->aa->ao)(r y z l:Nat)(h g:aa)
  (H1:av h y 0=some (.ca l))
  (ay:call (.ca l) [.ptr r 0] h=ao.ret (.bool true) g):
  aw Tryz.prog Tryz.f100 none call [1,1,0] (af.mk [(0,.ptr r 0),(1,.ptr y 0),(2,.ptr z 0)] [] .none h) (.nrm)
   (af.mk [(0,.ptr r 0),(1,.ptr y 0),(2,.ptr z 0)] [] .none g):=
 aX [0,1,2] (hs:=[.v (.ca l),.c (.bool true) g,.b false]) (by kernel_rfl)<| .cons H1<| .cons ay<| .cons (by kernel_rfl:(!true)=false)<| .nil
theorem TD(call:aE->List J->aa->ao)(r y z l:Nat)(h g:aa)
  (H1:av h y 0=some (.ca l))
  (ay:call (.ca l) [.ptr r 0] h=ao.ret (.bool false) g):
  aw Tryz.prog Tryz.f100 none call [1,1,0] (af.mk [(0,.ptr r 0),(1,.ptr y 0),(2,.ptr z 0)] [] .none h) (.ret)
   (af.mk [(4,.bool false)] [] .none g):=
 aX [4] (hs:=[.v (.ca l),.c (.bool false) g,.b true]) (by kernel_rfl)<| .cons H1<| .cons ay<| .cons (by kernel_rfl:(!false)=true)<| .nil
theorem TE(call:aE->List J->aa->ao)(r y z b off N:Nat)(aH:cE)(h:aa)
  (H1:av h r (0+3)=some (.slice b off N aH)):
  aw Tryz.prog Tryz.f100 none call [1,1,1,0,0] (af.mk [(0,.ptr r 0),(1,.ptr y 0),(2,.ptr z 0)] [] .none h) (.nrm)
   (af.mk [(0,.ptr r 0),(1,.ptr y 0),(2,.ptr z 0),(16,.slice b off N aH),(17,.int .i64 (.ofNat N)),(18,.int .i64 (.ofNat 0))] [] .none h):=
 aX [0,1,2,16,17,18] (hs:=[.v (.slice b off N aH)]) (by kernel_rfl)<| .cons H1<| .nil
theorem TF(call:aE->List J->aa->ao)(r y z:Nat)(h:aa)
  (H1:av h r (0+3)=some .aA):
  aw Tryz.prog Tryz.f100 none call [1,1,1,0,0] (af.mk [(0,.ptr r 0),(1,.ptr y 0),(2,.ptr z 0)] [] .none h) (.nrm)
   (af.mk [(0,.ptr r 0),(1,.ptr y 0),(2,.ptr z 0),(16,.aA),(17,.int .i64 (.ofNat 0)),(18,.int .i64 (.ofNat 0))] [] .none h):=
 aX [0,1,2,16,17,18] (hs:=[.v .aA]) (by kernel_rfl)<| .cons H1<| .nil
theorem K3(call:aE->List J->aa->ao)(r y z N i:Nat)(v:J)(h:aa)
  (H1:br (.ofNat i) (.ofNat N)=false):
  aw Tryz.prog Tryz.f100 none call [1,1,1,0,1,0,0] (af.mk [(0,.ptr r 0),(1,.ptr y 0),(2,.ptr z 0),(16,v),(17,.int .i64 (.ofNat N)),(18,.int .i64 (.ofNat i))] [] .none h) (.exit 0)
   (af.mk [(0,.ptr r 0),(1,.ptr y 0),(2,.ptr z 0)] [] .none h):=
 aX [0,1,2] (hs:=[.b false]) (by kernel_rfl)<| .cons H1<| .nil
theorem TG(call:aE->List J->aa->ao)(r y z b off N i q j:Nat)(aH:cE)(x:J)(h g:aa)
  (H1:br (.ofNat i) (.ofNat N)=true)
  (ay:Nat.le (Nat.succ i) N/\J.ptr b q=J.ptr b (off+i*1))
  (aN:av h b q=some x)
  (aO:av h z 0=some (.fn 100 [] [.ptr y 0,.ptr z 0]))
  (bm:call (.fn 100) [x,.ptr y 0,.ptr z 0] h=ao.ret (.bool true) g)
  (bT:arith .add .i64 (.ofNat i) (.ofNat 1)=some (.int .i64 (.ofNat j))):
  aw Tryz.prog Tryz.f100 none call [1,1,1,0,1,0,0] (af.mk [(0,.ptr r 0),(1,.ptr y 0),(2,.ptr z 0),(16,.slice b off N aH),(17,.int .i64 (.ofNat N)),(18,.int .i64 (.ofNat i))] [] .none h) (.nrm)
   (af.mk [(0,.ptr r 0),(1,.ptr y 0),(2,.ptr z 0),(16,.slice b off N aH),(17,.int .i64 (.ofNat N)),(18,.int .i64 (.ofNat j))] [] .none g):=
 aX [0,1,2,16,17,18] (hs:=[.b true,.v (.ptr b q),.v x,.v (.fn 100 [] [.ptr y 0,.ptr z 0]),.c (.bool true) g,.b false,.v (.int .i64 (.ofNat j))]) (by kernel_rfl)<| .cons H1<| .cons ay<| .cons aN<| .cons aO<| .cons bm<| .cons (by kernel_rfl:(!true)=false)<| .cons bT<| .nil
theorem TH(call:aE->List J->aa->ao)(r y z b off N i q:Nat)(aH:cE)(x:J)(h g:aa)
  (H1:br (.ofNat i) (.ofNat N)=true)
  (ay:Nat.le (Nat.succ i) N/\J.ptr b q=J.ptr b (off+i*1))
  (aN:av h b q=some x)
  (aO:av h z 0=some (.fn 100 [] [.ptr y 0,.ptr z 0]))
  (bm:call (.fn 100) [x,.ptr y 0,.ptr z 0] h=ao.ret (.bool false) g):
  aw Tryz.prog Tryz.f100 none call [1,1,1,0,1,0,0] (af.mk [(0,.ptr r 0),(1,.ptr y 0),(2,.ptr z 0),(16,.slice b off N aH),(17,.int .i64 (.ofNat N)),(18,.int .i64 (.ofNat i))] [] .none h) (.ret)
   (af.mk [(4,.bool false)] [] .none g):=
 aX [4] (hs:=[.b true,.v (.ptr b q),.v x,.v (.fn 100 [] [.ptr y 0,.ptr z 0]),.c (.bool false) g,.b true]) (by kernel_rfl)<| .cons H1<| .cons ay<| .cons aN<| .cons aO<| .cons bm<| .cons (by kernel_rfl:(!false)=true)<| .nil
theorem TI(call:aE->List J->aa->ao)(r y z:Nat)(x v:J)(h g:aa)
  (H1:av (aa.room h 7) z 0=some (.fn 100 [] [.ptr y 0,.ptr z 0]))
  (ay:av (aa.room h 7) r (0+4)=some x)
  (aN:call (.fn 100) [x,.ptr y 0,.ptr z 0] (aa.room h 7)=ao.ret v g)
  (aO:J.sound x=true:=by first|with_reducible assumption|rfl|exact da.snd (by with_reducible assumption)|exact da.fu (by with_reducible assumption)|exact dE.snd (by with_reducible assumption)|exact dE.fu (by with_reducible assumption)|exact dI.snd (by with_reducible assumption)|exact dI.fu (by with_reducible assumption))
  (bm:J.sound v=true:=by first|with_reducible assumption|rfl|exact da.snd (by with_reducible assumption)|exact da.fu (by with_reducible assumption)|exact dE.snd (by with_reducible assumption)|exact dE.fu (by with_reducible assumption)|exact dI.snd (by with_reducible assumption)|exact dI.fu (by with_reducible assumption)):
  aw Tryz.prog Tryz.f100 none call [1,1,1,1] (af.mk [(0,.ptr r 0),(1,.ptr y 0),(2,.ptr z 0)] [] .none h) (.ret)
   (af.mk [(4,v)] [] .none g):=
 aX [4] (hs:=[.v (.fn 100 [] [.ptr y 0,.ptr z 0]),.v x,.c v g]) (by kernel_rfl)<| .cons H1<| .cons ay<| .cons aN<| .cons (by kernel_rfl:J.sound (J.fn 100 [] [J.ptr y 0,J.ptr z 0])=true)<| .cons H1<| .cons (by kernel_rfl:J.sound (J.ptr r 0)=true)<| .cons (by kernel_rfl:J.ptr r 0=J.ptr r 0)<| .cons (by kernel_rfl:J.sound (J.ptr r 0)=true)<| .cons (by kernel_rfl:J.ptr r 0=J.ptr r 0)<| .cons (by kernel_rfl:J.sound (J.ptr r (0+4))=true)<| .cons (by kernel_rfl:J.ptr r (0+4)=J.ptr r (0+4))<| .cons aO<| .cons ay<| .cons bm<| .cons (by kernel_rfl:v=v)<| .nil
noncomputable def Fo:Code:=sub (fO Tryz.f70) [1,1,0,1,0,0]
noncomputable def TJ:Code:=sub (fO Tryz.f70) [1,1,0,1,0,1]
theorem TK:Fo=.skip:=by kernel_rfl
noncomputable abbrev wA(s:LoopState)(p:Option Code)(r:a0)(N:Nat):cJ:=.loop s p (dt Tryz.f70) r [6] Fo TJ (N+2)
structure q8(N:Nat)(h:aa)(r:a0)(c:Nat)(x:aa):Prop where
 yV:x.get N=some (.cells [.int .i64 (Int.ofNat c)] 3 .own 0 0)
 j8:x.get (N+2)=some (.defrd (some []))
 pe:x.get (N+3)=some (wA .ready none r N)
 ca:x.get (N+4)=some (.cells [.ca (N+3)] 139 .own 0 0)
 wB:x.get (N+5)=some (.cells [.fn 100 [] [.ptr (N+4) 0,.ptr (N+5) 0]] 139 .own 0 0)
 ext:Ext N h x
structure K4(N:Nat)(h:aa)(r:a0)(x:aa):Prop where
 yV:x.get N=some (.cells [.int .i64 (Int.ofNat 61)] 3 .own 0 0)
 j8:x.get (N+2)=some (.defrd (some []))
 pe:x.get (N+3)=some (wA .done (some (.exit 0)) r N)
 ext:Ext N h x
theorem q8.room{N:Nat}{h:aa}{r:a0}{c:Nat}{x:aa}(hi:q8 N h r c x)(k:Nat):q8 N h r c (x.room k):=⟨hi.yV,hi.j8,hi.pe,hi.ca,hi.wB,hi.ext.hW⟩
theorem TL(m:Nat){N:Nat}{h:aa}{r:a0}{c:Nat}{x:aa}(al:aC.Mod r [(3,.ptr N 0)])(hi:q8 N h r c x)(ai:c<=60)(v:J):
  ∃b y,Y (m+1) (.ca (N+3)) [v] x=.ret (.bool b) y/\((b=true/\c+1<=60/\q8 N h r (c+1) y)\/(b=false/\60<c+1/\K4 N h r y)):=by
 have bu:Y (m+1) (.ca (N+3)) [v] x=oI Tryz.prog (Y m) (N+3) [v] x:=rfl
 rw[bu]
 have bl:∀q,cD Tryz.prog (dt Tryz.f70) (some (N+3)) (Y m) Fo ⟨put 6 v [(3,.ptr N 0)],[],q,x⟩ .nrm ⟨[(3,.ptr N 0)],[],q,x⟩:=λq r' hm=>by
  rw[TK]
  exact⟨r',rfl,hm.sub ⟨rfl,trivial⟩⟩
 have cl:(x.set (N+3) (some (wA .busy none r N))).get N=some (.cells [.int .i64 (Int.ofNat c)] 3 .own 0 0):=by
  rw[aa.bV,if_neg (by omega)];exact hi.yV
 by_cases fQ:c+1<=60
 · have ag:=Tu (Y m) (N+3) N c (c+1) _ _ (mQ cl) (ki (m:=100) (by omega) (by decide)) (Bt (y:=.int .i64 (Int.ofNat (c+1))) rfl cl) (mQ (t:=3) (by rw[aa.bV,if_pos rfl])) (dY (by omega))
   have e:=J8 hi.pe al (bl _) ag (by rw[aa.bV,if_neg (by omega),aa.bV,if_pos rfl])
   rw[e]
   refine⟨true,_,rfl,.inl ⟨rfl,fQ,?_,?_,?_,?_,?_,?_⟩⟩
   · simp only[aa.bV];rw[if_neg (by omega),if_pos trivial]
   · simp only[aa.bV];rw[if_neg (by omega),if_neg (by omega),if_neg (by omega)];exact hi.j8
   · simp only[aa.bV];rw[if_pos trivial]
   · simp only[aa.bV];rw[if_neg (by omega),if_neg (by omega),if_neg (by omega)];exact hi.ca
   · simp only[aa.bV];rw[if_neg (by omega),if_neg (by omega),if_neg (by omega)];exact hi.wB
   · exact((hi.ext.fP (by omega)).fP (by omega)).fP (by omega)
 · have ag:=Tt (Y m) (N+3) N c (c+1) _ _ (mQ cl) (ki (m:=100) (by omega) (by decide)) (Bt (y:=.int .i64 (Int.ofNat (c+1))) rfl cl) (mQ (t:=3) (by rw[aa.bV,if_pos rfl])) (du (by omega))
   have e:=J8 hi.pe al (bl _) ag (by rw[aa.bV,if_neg (by omega),aa.bV,if_pos rfl])
   rw[e]
   have xX:c+1=61:=by omega
   refine⟨false,_,rfl,.inr ⟨rfl,by omega,?_,?_,?_,?_⟩⟩
   · simp only[aa.bV];rw[if_neg (by omega),if_pos trivial,xX]
   · simp only[aa.bV];rw[if_neg (by omega),if_neg (by omega),if_neg (by omega)];exact hi.j8
   · simp only[aa.bV];rw[if_pos trivial]
   · exact((hi.ext.fP (by omega)).fP (by omega)).fP (by omega)
def uE(N:Nat)(h:aa)(r:a0)(c s:Nat)(b:Bool)(y:aa):Prop:=(b=true/\c+s<=60/\q8 N h r (c+s) y)\/(b=false/\60<c+s/\K4 N h r y)
def Fp(m:Nat)(N:Nat)(h:aa)(r:a0)(B:Nat)(ot:Option a_):Prop:=∀(v:J) (c:Nat) (x:aa),c<=60->dE B h ot v->q8 N h r c x->∃b y,Y m (.fn 100) [v,.ptr (N+4) 0,.ptr (N+5) 0] x=.ret (.bool b) y/\uE N h r c (dy ot) b y
theorem K5{m N B R b off:Nat}{h:aa}{r:a0}{xs:List a_}{vs:List J}(aH:cE)(b4:B<=N)(ag:b<B)(ad:dU B h xs vs)(aD:∀i (hi:i<vs.length),av h b (off+i*1)=some vs[i])(hlen:vs.length<=1000000)
  (bt:∀i (ae:i<xs.length),Fp m N h r B (some xs[i])):∀(k i c:Nat) (x:aa),vs.length-i=k->i<=vs.length->c<=60->q8 N h r c x->
  ∃e Γ y,ev Tryz.prog Tryz.f100 none (Y m) [1,1,1,0,1,0] (k+1) ⟨[(0,.ptr R 0),(1,.ptr (N+4) 0),(2,.ptr (N+5) 0),(16,.slice b off vs.length aH),(17,.int .i64 (Int.ofNat vs.length)),(18,.int .i64 (Int.ofNat i))],[],.none,x⟩ e ⟨Γ,[],.none,y⟩/\
   ((e=.exit 0/\Γ=[(0,.ptr R 0),(1,.ptr (N+4) 0),(2,.ptr (N+5) 0)]/\uE N h r c (eh (xs.drop i)) true y)\/(e=.ret/\Γ=[(4,.bool false)]/\uE N h r c (eh (xs.drop i)) false y))
 |0,i,c,x,ax,hi,ai,lB=>by
  have h9:=dU.len ad
  obtain rfl:i=vs.length:=by omega
  rw[List.drop_of_length_le (by omega)]
  exact⟨_,_,_,.exit (K3 (Y m) R (N+4) (N+5) _ _ _ x (dY (by omega))) (by simp),.inl ⟨rfl,rfl,.inl ⟨rfl,ai,lB⟩⟩⟩
 |k+1,i,c,x,ax,hi,ai,lB=>by
  have h9:=dU.len ad
  have ab:i<vs.length:=by omega
  have ae:i<xs.length:=by omega
  have aj:eh (xs.drop i)=sz xs[i]+eh (xs.drop (i+1)):=by
   rw[List.drop_eq_getElem_cons ae];rfl
  have iG:av x b (off+i*1)=some vs[i]:=by
   rw[<-aD i ab]
   unfold av
   rw[lB.ext.get b (by omega)]
  obtain⟨eW,y,aF,aG⟩:=bt i ae vs[i] c x ai (dU.get ad i ab ae) lB
  have fT:dy (some xs[i])=sz xs[i]:=by unfold dy;rfl
  rw[fT] at aG
  rcases aG with⟨rfl,bJ,dh⟩|⟨rfl,bJ,dh⟩
  · have st:=TG (Y m) R (N+4) (N+5) b off vs.length i (off+i*1) (i+1) aH vs[i] x y (du ab) ⟨ab,rfl⟩ iG (mQ lB.wB) aF (ki ab (by omega))
    obtain⟨e,Γ,z,bK,bQ⟩:=K5 (R:=R) aH b4 ag ad aD hlen bt k (i+1) (c+sz xs[i]) y (by omega) (by omega) bJ dh
    refine⟨e,Γ,z,.step st bK,?_⟩
    unfold uE at bQ⊢
    rw[aj,<-Nat.add_assoc]
    exact bQ
  · have st:=TH (Y m) R (N+4) (N+5) b off vs.length i (off+i*1) aH vs[i] x y (du ab) ⟨ab,rfl⟩ iG (mQ lB.wB) aF
    exact⟨_,_,_,.exit st (by simp),.inr ⟨rfl,rfl,.inr ⟨rfl,by omega,dh⟩⟩⟩
theorem Fq{N B:Nat}{h:aa}{r:a0}(al:aC.Mod r [(3,.ptr N 0)])(b4:B<=N):∀(K:Nat) (ot:Option a_),dy ot<=K->dy ot<=90000->∀m,dy ot+3<=m->Fp m N h r B ot
 |K,none,_,_,m,hm=>λv c x ai aJ lB=>by
  obtain rfl:v=.bb:=aJ
  obtain⟨m,rfl⟩:∃j,m=j+1:=⟨m-1,by omega⟩
  exact⟨true,x,dn (intr:=cj) (n:=m) (args:=[.bb,.ptr (N+4) 0,.ptr (N+5) 0]) Tryz.func100 (by kernel_rfl) rfl (by kernel_rfl) (Tz (Y m) (N+4) (N+5) x) (.inl rfl) (by kernel_rfl),.inl ⟨rfl,ai,lB⟩⟩
 |0,some t,eg,_,m,hm=>by
  have fT:dy (some t)=sz t:=by unfold dy;rfl
  have:=sD t
  omega
 |K+1,some (.mk k b8 ns xs rt),eg,gz,m,hm=>λv c x ai aJ lB=>by
  have hs:dy (some (.mk k b8 ns xs rt))=1+eh xs+dy rt:=by rw[lW,uB]
  obtain⟨R,bk,a6,cZ,vs,bN,lo,up,rfl,ae,aB,aP,cg,dN,fE⟩:=aJ
  rw[hs] at eg gz hm⊢
  obtain⟨m,rfl⟩:∃j,m=j+1:=⟨m-1,by omega⟩
  obtain⟨m,rfl⟩:∃j,m=j+1:=⟨m-1,by omega⟩
  have h9:=dU.len dN
  have mF:=pb xs
  have s0:=TA (Y (m+1)) R (N+4) (N+5) x
  have s1:=TB (Y (m+1)) R (N+4) (N+5) x
  obtain⟨eW,y,aF,aG⟩:=TL m al lB ai (.ptr R 0)
  rcases aG with⟨rfl,bJ,dh⟩|⟨rfl,bJ,dh⟩
  · have s2:=TC (Y (m+1)) R (N+4) (N+5) (N+3) x y (mQ lB.ca) aF
    have uF:y.get R=some (.cells [.int .i64 (Int.ofNat k),.str b8,bk,a6,cZ] 51 bN lo up):=by
     rw[dh.ext.get R (by omega)];exact aB
    have iG:av y R (0+3)=some a6:=ar uF rfl
    have bt:∀i (ae:i<xs.length),Fp (m+1) N h r B (some xs[i]):=λi ae=>by
     have nh:=pa (List.getElem_mem ae)
     have fT:dy (some xs[i])=sz xs[i]:=by unfold dy;rfl
     exact Fq al b4 K (some xs[i]) (by omega) (by omega) (m+1) (by omega)
    have loop:∃e Γ z,aw Tryz.prog Tryz.f100 none (Y (m+1)) [1,1,1,0] ⟨[(0,.ptr R 0),(1,.ptr (N+4) 0),(2,.ptr (N+5) 0)],[],.none,y⟩ e ⟨Γ,[],.none,z⟩/\
      ((e=.nrm/\Γ=[(0,.ptr R 0),(1,.ptr (N+4) 0),(2,.ptr (N+5) 0)]/\uE N h r (c+1) (eh xs) true z)\/(e=.ret/\Γ=[(4,.bool false)]/\uE N h r (c+1) (eh xs) false z)):=by
     rcases cg with⟨rfl,rfl⟩|⟨b,off,aH,rfl,ag,aD,_⟩
     · have qT:xs=[]:=List.eq_nil_of_length_eq_zero (by simpa using h9.symm)
       subst qT
       refine⟨_,_,_,aw.seq (p:=[1,1,1,0]) (by kernel_rfl) (TF (Y (m+1)) R (N+4) (N+5) y iG) (aw.block (p:=[1,1,1,0,1]) (id:=0) (by kernel_rfl) (ev.run (p:=[1,1,1,0,1,0]) (n:=1) (by kernel_rfl) (.exit (K3 (Y (m+1)) R (N+4) (N+5) 0 0 _ y (by kernel_rfl)) (by simp)) (by omega))),.inl ⟨rfl,rfl,.inl ⟨rfl,bJ,dh⟩⟩⟩
     · obtain⟨e,Γ,z,bK,bQ⟩:=K5 (R:=R) aH b4 ag dN aD (by omega) bt vs.length 0 (c+1) y (by omega) (by omega) bJ dh
       rw[List.drop_zero] at bQ
       have dW:=ev.run (p:=[1,1,1,0,1,0]) (by kernel_rfl) bK (by omega)
       have mj:=TE (Y (m+1)) R (N+4) (N+5) b off vs.length aH y iG
       rcases bQ with⟨rfl,jc,uG⟩|⟨rfl,jc,uG⟩
       · exact⟨_,_,_,aw.seq (p:=[1,1,1,0]) (by kernel_rfl) mj (aw.block (p:=[1,1,1,0,1]) (id:=0) (by kernel_rfl) dW),.inl ⟨rfl,jc,uG⟩⟩
       · exact⟨_,_,_,aw.seq (p:=[1,1,1,0]) (by kernel_rfl) mj (aw.o5 (p:=[1,1,1,0,1]) (id:=0) (by kernel_rfl) dW (by simp)),.inr ⟨rfl,jc,uG⟩⟩
    obtain⟨e,Γ,z,bK,bQ⟩:=loop
    rcases bQ with⟨rfl,rfl,bQ⟩|⟨rfl,rfl,bQ⟩
    · rcases bQ with⟨_,dW,mj⟩|⟨dW,_⟩
      · have jc:=mj.room 7
        have TM:(z.room 7).get R=some (.cells [.int .i64 (Int.ofNat k),.str b8,bk,a6,cZ] 51 bN lo up):=by
         rw[jc.ext.get R (by omega)];exact aB
        obtain⟨eW,w,bR,b3⟩:=Fq al b4 K rt (by omega) (by omega) (m+1) (by omega) cZ (c+1+eh xs) _ dW fE jc
        have fF:J.sound cZ=true:=by
         cases rt with
         |none=>obtain rfl:cZ=.bb:=fE;rfl
         |some u=>
          cases u with
          |mk k b8 ns ys rt=>obtain⟨r,bk,a6,_,vs,bN,lo,up,rfl,_⟩:=fE;rfl
        have b6:=TI (Y (m+1)) R (N+4) (N+5) cZ (.bool eW) z w (mQ jc.wB) (ar TM rfl) bR fF rfl
        refine⟨eW,w,dn (intr:=cj) (n:=m+1) (args:=[.ptr R 0,.ptr (N+4) 0,.ptr (N+5) 0]) Tryz.func100 (by kernel_rfl) rfl (by kernel_rfl) (aw.seq (p:=[]) (by kernel_rfl) s0 (aw.seq (p:=[1]) (by kernel_rfl) s1 (aw.seq (p:=[1,1]) (by kernel_rfl) s2 (aw.seq (p:=[1,1,1]) (by kernel_rfl) bK b6)))) (.inl rfl) rfl,?_⟩
        have fs:c+1+eh xs+dy rt=c+(1+eh xs+dy rt):=by omega
        unfold uE at b3⊢
        rw[fs] at b3
        exact b3
      · simp at dW
    · rcases bQ with⟨dW,_⟩|⟨_,dW,mj⟩
      · simp at dW
      · exact⟨false,z,dn (intr:=cj) (n:=m+1) (args:=[.ptr R 0,.ptr (N+4) 0,.ptr (N+5) 0]) Tryz.func100 (by kernel_rfl) rfl (by kernel_rfl) (aw.seq (p:=[]) (by kernel_rfl) s0 (aw.seq (p:=[1]) (by kernel_rfl) s1 (aw.seq (p:=[1,1]) (by kernel_rfl) s2 (aw.fW (p:=[1,1,1]) (by kernel_rfl) bK (by simp))))) (.inl rfl) (by kernel_rfl),.inr ⟨rfl,by omega,mj⟩⟩
  · have s2:=TD (Y (m+1)) R (N+4) (N+5) (N+3) x y (mQ lB.ca) aF
    exact⟨false,y,dn (intr:=cj) (n:=m+1) (args:=[.ptr R 0,.ptr (N+4) 0,.ptr (N+5) 0]) Tryz.func100 (by kernel_rfl) rfl (by kernel_rfl) (aw.seq (p:=[]) (by kernel_rfl) s0 (aw.seq (p:=[1]) (by kernel_rfl) s1 (aw.fW (p:=[1,1]) (by kernel_rfl) s2 (by simp)))) (.inl rfl) (by kernel_rfl),.inr ⟨rfl,by omega,dh⟩⟩
end Go.Proofs.cT
namespace Go.Proofs.cT
open Go aC Go.Proofs dD
set_option maxRecDepth 100000
set_option maxHeartbeats 1000000
theorem TN{call:aE->List J->aa->ao}(j N:Nat)(r:a0)(q:bH)(h:aa)(hm:aC.Mod r [(2,.int .i64 (Int.ofNat j))])(aj:h.get (N+2)=some (.defrd (some []))):
  kT Tryz.prog call Tryz.f70 (.ok .ret r [.collected (N+2)] q h)=.ret (.int .i64 (Int.ofNat j)) (h.set (N+2) (some (.defrd none))):=by
 have al:=ua hm (rfl:kE Tryz.prog (dt Tryz.f70) Tryz.f70 [(2,.int .i64 (Int.ofNat j))] (h.set (N+2) (some (.defrd none)))=some (.int .i64 (Int.ofNat j)))
 simp only[kT,kb,aj,List.nil_append,al]
theorem TO{ot:Option a_}{B:Nat}{h:aa}{v:J}(m:Nat)(gz:dy ot<=90000)(b4:B<=h.n)(aJ:dE B h ot v)(hm:dy ot+3<=m):
  ∃an,Y (m+2) (.fn 70) [v] h=.ret (.int .i64 (Int.ofNat (min (dy ot) 61))) an/\Ext h.n h an:=by
 have TP:=aJ.q7
 let ab:=(h.push (.cells [.int .i64 (Int.ofNat 0)] 3 .own 0 0)).set h.n (some (.cells [.int .i64 (Int.ofNat 0)] 3 .own 0 0))
 let ae:=ab.push (.cells [v] 47 .own 0 0)
 have a1:ab.n=h.n+1:=rfl
 have bL:ae.n=h.n+2:=rfl
 have c1:aC.storeCells (h.push (.cells [.int .i64 (Int.ofNat 0)] 3 .own 0 0)) h.n 0 [.int .i64 (Int.ofNat 0)]=some ab:=
  Bt (x:=.int .i64 (Int.ofNat 0)) (t:=3) rfl (by rw[aa.e6,if_pos rfl])
 have TQ:Y (m+1) (.fn 86) [v] ab=.ret (.fn 99 [] [.ptr (h.n+1) 0]) ae:=by
  rcases TP with rfl|⟨R,rfl⟩
  · exact dn (intr:=cj) (n:=m) (args:=[.bb]) Tryz.func86 (by kernel_rfl) rfl (by kernel_rfl) (Tx (Y m) ab) (.inl rfl) rfl
  · exact dn (intr:=cj) (n:=m) (args:=[.ptr R 0]) Tryz.func86 (by kernel_rfl) rfl (by kernel_rfl) (Tw (Y m) R ab) (.inl rfl) rfl
 have w:WF Tryz.prog Tryz.f70 none (Y (m+1)) [] (λe r d q an=>∃hI,kT Tryz.prog (Y (m+1)) Tryz.f70 (.ok e r d q an)=.ret (.int .i64 (Int.ofNat (min (dy ot) 61))) hI/\Ext h.n h hI) (nT 0 [v] .leaf) [] .none h:=by
  refine WF.seq (p:=[]) (by kernel_rfl) (W.of (Tq (Y (m+1)) v h) (t_ [v]) λbq c9=>.inl ⟨rfl,?_⟩)
  refine WF.seq (p:=[1]) (by kernel_rfl) (W.of (Tr (Y (m+1)) v h ab c1) c9 λa9 jr=>.inl ⟨rfl,?_⟩)
  refine WF.seq (p:=[1,1]) (by kernel_rfl) ?_
  refine WF.seq (p:=[1,1,0]) (by kernel_rfl) (W.of (Ts (Y (m+1)) v _ h.n ab ae TQ) jr λee wC=>.inl ⟨rfl,?_⟩)
  refine WF.block (p:=[1,1,0,1]) (id:=0) (by kernel_rfl) ?_
  refine WF.range (p:=[1,1,0,1,0]) (t:=5) (ps:=[6]) (by kernel_rfl) (by kernel_rfl) (hf:=rfl) (hm:=wC) ?_
  let kn:=(ae.push (.defrd (some []))).push (wA .ready none ee h.n)
  let bw:=((kn.push (.cells [.ca (h.n+3)] 139 .own 0 0)).push (.cells [.gj] 139 .own 0 0)).set (h.n+5) (some (.cells [.fn 100 [] [.ptr (h.n+4) 0,.ptr (h.n+5) 0]] 139 .own 0 0))
  have K6:aC.Mod ee [(3,.ptr h.n 0)]:=wC.sub ⟨rfl,trivial⟩
  have acC:kn.n=h.n+4:=rfl
  have fs:Ext h.n h ab:=(Ext.push (Nat.le_refl _) _).fP (Nat.le_refl _)
  have wu:Ext h.n h ae:=fs.k0 (by omega)
  have lC:Ext h.n h kn:=(wu.k0 (by omega)).k0 (by show h.n<=h.n+3;omega)
  have wD:Ext h.n h bw:=((lC.k0 (by omega)).k0 (by show h.n<=h.n+5;omega)).fP (by omega)
  have i0:q8 h.n h ee 0 bw:=by
   refine⟨?_,?_,?_,?_,?_,?_⟩
   · simp only[bw,kn,ae,ab,aa.e6,aa.bV,aa.e7,aa.fR];grind
   · simp only[bw,kn,ae,ab,aa.e6,aa.bV,aa.e7,aa.fR];grind
   · simp only[bw,kn,ae,ab,aa.e6,aa.bV,aa.e7,aa.fR];grind
   · simp only[bw,kn,ae,ab,aa.e6,aa.bV,aa.e7,aa.fR];grind
   · simp only[bw,kn,ae,ab,aa.e6,aa.bV,aa.e7,aa.fR];grind
   · exact wD
  obtain⟨eW,y,aF,aG⟩:=Fq K6 b4 (dy ot) ot (Nat.le_refl _) gz m hm v 0 bw (by decide) aJ i0
  have cL:aC.storeCells ((kn.push (.cells [.ca (h.n+3)] 139 .own 0 0)).push (.cells [.gj] 139 .own 0 0)) (h.n+5) 0 [.fn 100 [] [.ptr (h.n+4) 0,.ptr (h.n+5) 0]]=some bw:=
   Bt (x:=.gj) rfl (by rw[aa.e6];exact if_pos rfl)
  have ij:bw.get (h.n+1)=some (.cells [v] 47 .own 0 0):=by
   simp only[bw,kn,ae,ab,aa.e6,aa.bV,aa.e7,aa.fR];grind
  have TR:=Ty (Y m) (h.n+3) (h.n+1) v (.bool eW) kn bw y cL (mQ i0.wB) (mQ ij) aF
  have K7:Y (m+1) (.fn 99) [.ca (h.n+3),.ptr (h.n+1) 0] kn=.ret (.aL []) y:=
   dn (intr:=cj) (n:=m) (args:=[.ca (h.n+3),.ptr (h.n+1) 0]) Tryz.func99 (by kernel_rfl) rfl (by kernel_rfl) TR (.inr rfl) (by kernel_rfl)
  have fin:∀(j:Nat) (z:aa),j=min (dy ot) 61->z.get h.n=some (.cells [.int .i64 (Int.ofNat j)] 3 .own 0 0)->z.get (h.n+2)=some (.defrd (some []))->Ext h.n h z->
    WF Tryz.prog Tryz.f70 none (Y (m+1)) [1,1,1] (λe r d q an=>∃hI,kT Tryz.prog (Y (m+1)) Tryz.f70 (.ok e r d q an)=.ret (.int .i64 (Int.ofNat (min (dy ot) 61))) hI/\Ext h.n h hI) ee [.collected (h.n+2)] .none z:=λj z aV bj qP TS=>by
   refine W.of (Tv (Y (m+1)) h.n j (h.n+2) _ (mQ bj)) K6 λht Fs=>?_
   subst aV
   exact⟨_,TN (min (dy ot) 61) h.n ht _ _ Fs qP,TS.fP (by omega)⟩
  rcases aG with⟨rfl,bJ,dh⟩|⟨rfl,bJ,dh⟩
  · have hl:jO (h.n+3) ee [.collected (h.n+2)] .none (.ret (.aL []) y)=.ok .nrm ee [.collected (h.n+2)] .none (y.set (h.n+3) (some (wA .exhausted none ee h.n))):=by
      simp only[jO,dh.pe]
    refine⟨.nrm,_,(congrArg (jO (h.n+3) ee [.collected (h.n+2)] .none) K7).trans hl,.inr ⟨by simp,.inl ⟨rfl,?_⟩⟩⟩
    exact fin (0+dy ot) _ (by omega) (by rw[aa.bV,if_neg (by omega)];exact dh.yV) (by rw[aa.bV,if_neg (by omega)];exact dh.j8) (dh.ext.fP (by omega))
  · have hl:jO (h.n+3) ee [.collected (h.n+2)] .none (.ret (.aL []) y)=.ok (.exit 0) ee [.collected (h.n+2)] .none (y.set (h.n+3) (some (wA .exhausted (some (.exit 0)) ee h.n))):=by
      simp only[jO,dh.pe]
    refine⟨.exit 0,_,(congrArg (jO (h.n+3) ee [.collected (h.n+2)] .none) K7).trans hl,.inl ⟨rfl,.inl ⟨rfl,?_⟩⟩⟩
    exact fin 61 _ (by omega) (by rw[aa.bV,if_neg (by omega)];exact dh.yV) (by rw[aa.bV,if_neg (by omega)];exact dh.j8) (dh.ext.fP (by omega))
 obtain⟨e,r,d,q,an,bR,hI,b3,jU⟩:=w
 exact⟨hI,EN (intr:=cj) (n:=m+1) (args:=[v]) Tryz.func70 (by kernel_rfl) rfl (by kernel_rfl) ⟨e,r,d,q,an,bR,b3⟩,jU⟩
end Go.Proofs.cT
namespace Go.Proofs.cT
open Go aC Go.Proofs dD
set_option maxRecDepth 100000
set_option maxHeartbeats 1000000
theorem Ft{a b:Nat}(h:a≠b):(!ba (Int.ofNat a) (Int.ofNat b))=true:=by
 rw[jX h];rfl
theorem BR{a b:Nat}(h:a=b):(!ba (Int.ofNat a) (Int.ofNat b))=false:=by
 rw[nv h];rfl
theorem K8:∀(us bs:List bc),us.length≠bs.length->km us bs=false
 |[],[],h=>absurd rfl h
 |[],_::_,_=>by rw[km];all_goals simp
 |_::_,[],_=>by rw[km];all_goals simp
 |x::us,y::bs,h=>by
  rw[km,K8 us bs (by simpa using h),Bool.and_false]
theorem da.strs{B:Nat}{h:aa}{v:J}{us:List bc}(hs:da B h v (us.map .str)):(v=.aA/\us=[])\/∃b off aH,v=.slice b off us.length aH/\b<B/\∀i (hi:i<us.length),av h b (off+i*1)=some (.str us[i]):=by
 rcases hs with⟨ab,ae⟩|⟨b,off,aH,ab,ae,aB,_⟩
 · exact .inl ⟨ab,by simpa using ae⟩
 · refine .inr ⟨b,off,aH,by simpa using ab,ae,λi hi=>?_⟩
   have:=aB i (by simpa using hi)
   simpa using this
theorem lX{B b i:Nat}{h x:aa}(e:Ext B h x)(ag:b<B):av x b i=av h b i:=by
 unfold av;rw[e.get b ag]
end Go.Proofs.cT
namespace Go.Proofs.cT
open Go aC Go.Proofs dD
set_option maxRecDepth 100000
set_option maxHeartbeats 1000000
theorem K9:∀(us bs:List a_),us.length≠bs.length->jY us bs=false
 |[],[],h=>absurd rfl h
 |[],_::_,_=>by rw[jY];all_goals simp
 |_::_,[],_=>by rw[jY];all_goals simp
 |x::us,y::bs,h=>by
  rw[jY,K9 us bs (by simpa using h),Bool.and_false]
end Go.Proofs.cT
namespace Go.Proofs.cT
open Go aC Go.Proofs dD
set_option maxRecDepth 100000
set_option maxHeartbeats 1000000
theorem BS:ig none none=true:=by rw[ig]
theorem Fu(t:a_):ig none (some t)=false:=by rw[ig]<;>simp
theorem Fv(t:a_):ig (some t) none=false:=by rw[ig]<;>simp
end Go.Proofs.cT
namespace Go.Proofs.cT
open Go aC Go.Proofs dD
set_option maxRecDepth 100000
set_option maxHeartbeats 1000000
theorem BT(call:aE->List J->aa->ao)(v w:J)(h:aa):
  aw Tryz.prog Tryz.f80 none call [0] (af.mk [(0,v),(1,w)] [] .none h) (.nrm)
   (af.mk [(0,v),(1,w)] [] .none h):=
 aX [0,1] (hs:=[]) (by kernel_rfl)<| .nil
theorem TT(call:aE->List J->aa->ao)(h:aa):
  aw Tryz.prog Tryz.f80 none call [1,0] (af.mk [(0,.bb),(1,.bb)] [] .none h) (.ret)
   (af.mk [(4,.bool true)] [] .none h):=
 aX [4] (hs:=[.v (.bool true),.b true,.b true,.b true,.b true,.v (.bool true),.b true,.b true,.v (.bool true),.b true]) (by kernel_rfl)<| .cons (by kernel_rfl:dr Tryz.prog h BinOp.eql 47 (Operand.tmp 7) (Operand.const (Value.pointer none)) J.bb J.bb=some (J.bool true))<| .cons (by kernel_rfl:true=true)<| .cons (by kernel_rfl:true=true)<| .cons (by kernel_rfl:true=true)<| .cons (by kernel_rfl:true=true)<| .cons (by kernel_rfl:dr Tryz.prog h BinOp.eql 47 (Operand.tmp 13) (Operand.const (Value.pointer none)) J.bb J.bb=some (J.bool true))<| .cons (by kernel_rfl:true=true)<| .cons (by kernel_rfl:true=true)<| .cons (by kernel_rfl:dr Tryz.prog h BinOp.eql 47 (Operand.tmp 16) (Operand.const (Value.pointer none)) J.bb J.bb=some (J.bool true))<| .cons (by kernel_rfl:true=true)<| .nil
theorem TU(call:aE->List J->aa->ao)(h:aa):
  aw Tryz.prog Tryz.f62 none call [1,0] (af.mk [(0,.bb),(1,.bb)] [] .none h) (.ret)
   (af.mk [(4,.bool true)] [] .none h):=
 aX [4] (hs:=[.v (.bool true),.b true,.b true,.b true,.b true,.v (.bool true),.b true,.b true,.v (.bool true),.b true]) (by kernel_rfl)<| .cons (by kernel_rfl:dr Tryz.prog h BinOp.eql 47 (Operand.tmp 5) (Operand.const (Value.pointer none)) J.bb J.bb=some (J.bool true))<| .cons (by kernel_rfl:true=true)<| .cons (by kernel_rfl:true=true)<| .cons (by kernel_rfl:true=true)<| .cons (by kernel_rfl:true=true)<| .cons (by kernel_rfl:dr Tryz.prog h BinOp.eql 47 (Operand.tmp 11) (Operand.const (Value.pointer none)) J.bb J.bb=some (J.bool true))<| .cons (by kernel_rfl:true=true)<| .cons (by kernel_rfl:true=true)<| .cons (by kernel_rfl:dr Tryz.prog h BinOp.eql 47 (Operand.tmp 14) (Operand.const (Value.pointer none)) J.bb J.bb=some (J.bool true))<| .cons (by kernel_rfl:true=true)<| .nil
theorem TV(call:aE->List J->aa->ao)(r:Nat)(h:aa):
  aw Tryz.prog Tryz.f80 none call [1,0] (af.mk [(0,.bb),(1,.ptr r 0)] [] .none h) (.ret)
   (af.mk [(4,.bool false)] [] .none h):=
 aX [4] (hs:=[.v (.bool true),.b true,.b true,.b true,.b true,.v (.bool true),.b true,.b true,.v (.bool false),.b true]) (by kernel_rfl)<| .cons (by kernel_rfl:dr Tryz.prog h BinOp.eql 47 (Operand.tmp 7) (Operand.const (Value.pointer none)) J.bb J.bb=some (J.bool true))<| .cons (by kernel_rfl:true=true)<| .cons (by kernel_rfl:true=true)<| .cons (by kernel_rfl:true=true)<| .cons (by kernel_rfl:true=true)<| .cons (by kernel_rfl:dr Tryz.prog h BinOp.eql 47 (Operand.tmp 13) (Operand.const (Value.pointer none)) J.bb J.bb=some (J.bool true))<| .cons (by kernel_rfl:true=true)<| .cons (by kernel_rfl:true=true)<| .cons (by kernel_rfl:dr Tryz.prog h BinOp.eql 47 (Operand.tmp 16) (Operand.const (Value.pointer none)) (J.ptr r 0) J.bb=some (J.bool false))<| .cons (by kernel_rfl:true=true)<| .nil
theorem TW(call:aE->List J->aa->ao)(r:Nat)(h:aa):
  aw Tryz.prog Tryz.f62 none call [1,0] (af.mk [(0,.bb),(1,.ptr r 0)] [] .none h) (.ret)
   (af.mk [(4,.bool false)] [] .none h):=
 aX [4] (hs:=[.v (.bool true),.b true,.b true,.b true,.b true,.v (.bool true),.b true,.b true,.v (.bool false),.b true]) (by kernel_rfl)<| .cons (by kernel_rfl:dr Tryz.prog h BinOp.eql 47 (Operand.tmp 5) (Operand.const (Value.pointer none)) J.bb J.bb=some (J.bool true))<| .cons (by kernel_rfl:true=true)<| .cons (by kernel_rfl:true=true)<| .cons (by kernel_rfl:true=true)<| .cons (by kernel_rfl:true=true)<| .cons (by kernel_rfl:dr Tryz.prog h BinOp.eql 47 (Operand.tmp 11) (Operand.const (Value.pointer none)) J.bb J.bb=some (J.bool true))<| .cons (by kernel_rfl:true=true)<| .cons (by kernel_rfl:true=true)<| .cons (by kernel_rfl:dr Tryz.prog h BinOp.eql 47 (Operand.tmp 14) (Operand.const (Value.pointer none)) (J.ptr r 0) J.bb=some (J.bool false))<| .cons (by kernel_rfl:true=true)<| .nil
theorem TX(call:aE->List J->aa->ao)(r:Nat)(h:aa):
  aw Tryz.prog Tryz.f80 none call [1,0] (af.mk [(0,.ptr r 0),(1,.bb)] [] .none h) (.ret)
   (af.mk [(4,.bool false)] [] .none h):=
 aX [4] (hs:=[.v (.bool false),.b false,.b false,.v (.bool true),.b false,.b true,.v (.bool false),.b false,.b false,.b false]) (by kernel_rfl)<| .cons (by kernel_rfl:dr Tryz.prog h BinOp.eql 47 (Operand.tmp 7) (Operand.const (Value.pointer none)) (J.ptr r 0) J.bb=some (J.bool false))<| .cons (by kernel_rfl:false=false)<| .cons (by kernel_rfl:false=false)<| .cons (by kernel_rfl:dr Tryz.prog h BinOp.eql 47 (Operand.tmp 10) (Operand.const (Value.pointer none)) J.bb J.bb=some (J.bool true))<| .cons (by kernel_rfl:false=false)<| .cons (by kernel_rfl:true=true)<| .cons (by kernel_rfl:dr Tryz.prog h BinOp.eql 47 (Operand.tmp 13) (Operand.const (Value.pointer none)) (J.ptr r 0) J.bb=some (J.bool false))<| .cons (by kernel_rfl:false=false)<| .cons (by kernel_rfl:false=false)<| .cons (by kernel_rfl:false=false)<| .nil
theorem TY(call:aE->List J->aa->ao)(r:Nat)(h:aa):
  aw Tryz.prog Tryz.f62 none call [1,0] (af.mk [(0,.ptr r 0),(1,.bb)] [] .none h) (.ret)
   (af.mk [(4,.bool false)] [] .none h):=
 aX [4] (hs:=[.v (.bool false),.b false,.b false,.v (.bool true),.b false,.b true,.v (.bool false),.b false,.b false,.b false]) (by kernel_rfl)<| .cons (by kernel_rfl:dr Tryz.prog h BinOp.eql 47 (Operand.tmp 5) (Operand.const (Value.pointer none)) (J.ptr r 0) J.bb=some (J.bool false))<| .cons (by kernel_rfl:false=false)<| .cons (by kernel_rfl:false=false)<| .cons (by kernel_rfl:dr Tryz.prog h BinOp.eql 47 (Operand.tmp 8) (Operand.const (Value.pointer none)) J.bb J.bb=some (J.bool true))<| .cons (by kernel_rfl:false=false)<| .cons (by kernel_rfl:true=true)<| .cons (by kernel_rfl:dr Tryz.prog h BinOp.eql 47 (Operand.tmp 11) (Operand.const (Value.pointer none)) (J.ptr r 0) J.bb=some (J.bool false))<| .cons (by kernel_rfl:false=false)<| .cons (by kernel_rfl:false=false)<| .cons (by kernel_rfl:false=false)<| .nil
theorem TZ(call:aE->List J->aa->ao)(r a9:Nat)(h:aa):
  aw Tryz.prog Tryz.f80 none call [1,0] (af.mk [(0,.ptr r 0),(1,.ptr a9 0)] [] .none h) (.nrm)
   (af.mk [(0,.ptr r 0),(1,.ptr a9 0)] [] .none h):=
 aX [0,1] (hs:=[.v (.bool false),.b false,.b false,.v (.bool false),.b false,.b false]) (by kernel_rfl)<| .cons (by kernel_rfl:dr Tryz.prog h BinOp.eql 47 (Operand.tmp 7) (Operand.const (Value.pointer none)) (J.ptr r 0) J.bb=some (J.bool false))<| .cons (by kernel_rfl:false=false)<| .cons (by kernel_rfl:false=false)<| .cons (by kernel_rfl:dr Tryz.prog h BinOp.eql 47 (Operand.tmp 10) (Operand.const (Value.pointer none)) (J.ptr a9 0) J.bb=some (J.bool false))<| .cons (by kernel_rfl:false=false)<| .cons (by kernel_rfl:false=false)<| .nil
theorem T0(call:aE->List J->aa->ao)(r a9:Nat)(h:aa):
  aw Tryz.prog Tryz.f62 none call [1,0] (af.mk [(0,.ptr r 0),(1,.ptr a9 0)] [] .none h) (.nrm)
   (af.mk [(0,.ptr r 0),(1,.ptr a9 0)] [] .none h):=
 aX [0,1] (hs:=[.v (.bool false),.b false,.b false,.v (.bool false),.b false,.b false]) (by kernel_rfl)<| .cons (by kernel_rfl:dr Tryz.prog h BinOp.eql 47 (Operand.tmp 5) (Operand.const (Value.pointer none)) (J.ptr r 0) J.bb=some (J.bool false))<| .cons (by kernel_rfl:false=false)<| .cons (by kernel_rfl:false=false)<| .cons (by kernel_rfl:dr Tryz.prog h BinOp.eql 47 (Operand.tmp 8) (Operand.const (Value.pointer none)) (J.ptr a9 0) J.bb=some (J.bool false))<| .cons (by kernel_rfl:false=false)<| .cons (by kernel_rfl:false=false)<| .nil
theorem K_(call:aE->List J->aa->ao)(r a9:Nat)(h:aa):
  aw Tryz.prog Tryz.f80 none call [1,1,1,0,0] (af.mk [(0,.ptr r 0),(1,.ptr a9 0)] [] .none h) (.nrm)
   (af.mk [(0,.ptr r 0),(1,.ptr a9 0),(5,.int .i64 (.ofNat 0))] [] .none h):=
 aX [0,1,5] (hs:=[]) (by kernel_rfl)<| .nil
theorem T1(call:aE->List J->aa->ao)(r a9 i N:Nat)(v:J)(h:aa)
  (H1:av h r (0+2)=some v)
  (ay:cq Tryz.prog h 48 v=some (.int .i64 (.ofNat N)))
  (aN:br (.ofNat i) (.ofNat N)=false):
  aw Tryz.prog Tryz.f80 none call [1,1,1,0,1,0,0] (af.mk [(0,.ptr r 0),(1,.ptr a9 0),(5,.int .i64 (.ofNat i))] [] .none h) (.exit 0)
   (af.mk [(0,.ptr r 0),(1,.ptr a9 0)] [] .none h):=
 aX [0,1] (hs:=[.v v,.o (.int .i64 (.ofNat N)),.b false]) (by kernel_rfl)<| .cons H1<| .cons ay<| .cons aN<| .nil
theorem T2(call:aE->List J->aa->ao)(r a9 b off N aW cU M i q aR j:Nat)(s t:List UInt8)(aH dj:cE)(h:aa)
  (H1:av h r (0+2)=some (.slice b off N aH))
  (ay:br (.ofNat i) (.ofNat N)=true)
  (aN:av (aa.room h 15) r (0+2)=some (.slice b off N aH))
  (aO:Nat.le (Nat.succ i) N/\J.ptr b q=J.ptr b (off+i*1))
  (bm:av (aa.room h 15) b q=some (.str s))
  (bT:av (aa.room h 15) a9 (0+2)=some (.slice aW cU M dj))
  (cA:Nat.le (Nat.succ i) M/\J.ptr aW aR=J.ptr aW (cU+i*1))
  (ei:av (aa.room h 15) aW aR=some (.str t))
  (gF:(!cF s t)=true):
  aw Tryz.prog Tryz.f80 none call [1,1,1,0,1,0,0] (af.mk [(0,.ptr r 0),(1,.ptr a9 0),(5,.int .i64 (.ofNat i))] [] .none h) (.ret)
   (af.mk [(0,.ptr r 0),(1,.ptr a9 0),(4,.bool false),(5,.int .i64 (.ofNat i))] [] .none (aa.room h 15)):=
 aX [0,1,4,5] (hs:=[.v (.slice b off N aH),.b true,.v (.slice b off N aH),.v (.ptr b q),.v (.str s),.v (.slice aW cU M dj),.v (.ptr aW aR),.v (.str t),.b true]) (by kernel_rfl)<| .cons H1<| .cons ay<| .cons aN<| .cons aO<| .cons bm<| .cons bT<| .cons cA<| .cons ei<| .cons (by kernel_rfl:J.sound (J.ptr r 0)=true)<| .cons (by kernel_rfl:J.ptr r 0=J.ptr r 0)<| .cons (by kernel_rfl:J.sound (J.ptr r 0)=true)<| .cons (by kernel_rfl:J.ptr r 0=J.ptr r 0)<| .cons (by kernel_rfl:J.sound (J.ptr r (0+2))=true)<| .cons (by kernel_rfl:J.ptr r (0+2)=J.ptr r (0+2))<| .cons (by kernel_rfl:J.sound (J.slice b off N aH)=true)<| .cons aN<| .cons (by kernel_rfl:J.sound (J.int IntKind.i64 (Int.ofNat i))=true)<| .cons (by kernel_rfl:J.int IntKind.i64 (Int.ofNat i)=J.int IntKind.i64 (Int.ofNat i))<| .cons (by kernel_rfl:J.sound (J.ptr b q)=true)<| .cons aO<| .cons (by kernel_rfl:J.sound (J.str s)=true)<| .cons bm<| .cons (by kernel_rfl:J.sound (J.ptr a9 0)=true)<| .cons (by kernel_rfl:J.ptr a9 0=J.ptr a9 0)<| .cons (by kernel_rfl:J.sound (J.ptr a9 0)=true)<| .cons (by kernel_rfl:J.ptr a9 0=J.ptr a9 0)<| .cons (by kernel_rfl:J.sound (J.ptr a9 (0+2))=true)<| .cons (by kernel_rfl:J.ptr a9 (0+2)=J.ptr a9 (0+2))<| .cons (by kernel_rfl:J.sound (J.slice aW cU M dj)=true)<| .cons bT<| .cons (by kernel_rfl:J.sound (J.int IntKind.i64 (Int.ofNat i))=true)<| .cons (by kernel_rfl:J.int IntKind.i64 (Int.ofNat i)=J.int IntKind.i64 (Int.ofNat i))<| .cons (by kernel_rfl:J.sound (J.ptr aW aR)=true)<| .cons cA<| .cons (by kernel_rfl:J.sound (J.str t)=true)<| .cons ei<| .cons (by kernel_rfl:J.sound (J.bool !cF s t)=true)<| .cons (by kernel_rfl:(J.bool !cF s t)=J.bool !cF s t)<| .cons gF<| .nil
theorem T3(call:aE->List J->aa->ao)(r a9 b off N aW cU M i q aR j:Nat)(s t:List UInt8)(aH dj:cE)(h:aa)
  (H1:av h r (0+2)=some (.slice b off N aH))
  (ay:br (.ofNat i) (.ofNat N)=true)
  (aN:av (aa.room h 15) r (0+2)=some (.slice b off N aH))
  (aO:Nat.le (Nat.succ i) N/\J.ptr b q=J.ptr b (off+i*1))
  (bm:av (aa.room h 15) b q=some (.str s))
  (bT:av (aa.room h 15) a9 (0+2)=some (.slice aW cU M dj))
  (cA:Nat.le (Nat.succ i) M/\J.ptr aW aR=J.ptr aW (cU+i*1))
  (ei:av (aa.room h 15) aW aR=some (.str t))
  (gF:(!cF s t)=false)
  (iI:arith .add .i64 (.ofNat i) (.ofNat 1)=some (.int .i64 (.ofNat j))):
  aw Tryz.prog Tryz.f80 none call [1,1,1,0,1,0,0] (af.mk [(0,.ptr r 0),(1,.ptr a9 0),(5,.int .i64 (.ofNat i))] [] .none h) (.nrm)
   (af.mk [(0,.ptr r 0),(1,.ptr a9 0),(5,.int .i64 (.ofNat j))] [] .none (aa.room h 15)):=
 aX [0,1,4,5] (hs:=[.v (.slice b off N aH),.b true,.v (.slice b off N aH),.v (.ptr b q),.v (.str s),.v (.slice aW cU M dj),.v (.ptr aW aR),.v (.str t),.b false,.v (.int .i64 (.ofNat j))]) (by kernel_rfl)<| .cons H1<| .cons ay<| .cons aN<| .cons aO<| .cons bm<| .cons bT<| .cons cA<| .cons ei<| .cons (by kernel_rfl:J.sound (J.ptr r 0)=true)<| .cons (by kernel_rfl:J.ptr r 0=J.ptr r 0)<| .cons (by kernel_rfl:J.sound (J.ptr r 0)=true)<| .cons (by kernel_rfl:J.ptr r 0=J.ptr r 0)<| .cons (by kernel_rfl:J.sound (J.ptr r (0+2))=true)<| .cons (by kernel_rfl:J.ptr r (0+2)=J.ptr r (0+2))<| .cons (by kernel_rfl:J.sound (J.slice b off N aH)=true)<| .cons aN<| .cons (by kernel_rfl:J.sound (J.int IntKind.i64 (Int.ofNat i))=true)<| .cons (by kernel_rfl:J.int IntKind.i64 (Int.ofNat i)=J.int IntKind.i64 (Int.ofNat i))<| .cons (by kernel_rfl:J.sound (J.ptr b q)=true)<| .cons aO<| .cons (by kernel_rfl:J.sound (J.str s)=true)<| .cons bm<| .cons (by kernel_rfl:J.sound (J.ptr a9 0)=true)<| .cons (by kernel_rfl:J.ptr a9 0=J.ptr a9 0)<| .cons (by kernel_rfl:J.sound (J.ptr a9 0)=true)<| .cons (by kernel_rfl:J.ptr a9 0=J.ptr a9 0)<| .cons (by kernel_rfl:J.sound (J.ptr a9 (0+2))=true)<| .cons (by kernel_rfl:J.ptr a9 (0+2)=J.ptr a9 (0+2))<| .cons (by kernel_rfl:J.sound (J.slice aW cU M dj)=true)<| .cons bT<| .cons (by kernel_rfl:J.sound (J.int IntKind.i64 (Int.ofNat i))=true)<| .cons (by kernel_rfl:J.int IntKind.i64 (Int.ofNat i)=J.int IntKind.i64 (Int.ofNat i))<| .cons (by kernel_rfl:J.sound (J.ptr aW aR)=true)<| .cons cA<| .cons (by kernel_rfl:J.sound (J.str t)=true)<| .cons ei<| .cons (by kernel_rfl:J.sound (J.bool !cF s t)=true)<| .cons (by kernel_rfl:(J.bool !cF s t)=J.bool !cF s t)<| .cons gF<| .cons iI<| .nil
theorem La(call:aE->List J->aa->ao)(r a9:Nat)(h:aa):
  aw Tryz.prog Tryz.f80 none call [1,1,1,1,0,0] (af.mk [(0,.ptr r 0),(1,.ptr a9 0)] [] .none h) (.nrm)
   (af.mk [(0,.ptr r 0),(1,.ptr a9 0),(6,.int .i64 (.ofNat 0))] [] .none h):=
 aX [0,1,6] (hs:=[]) (by kernel_rfl)<| .nil
theorem T4(call:aE->List J->aa->ao)(r a9 i N:Nat)(v:J)(h:aa)
  (H1:av h r (0+3)=some v)
  (ay:cq Tryz.prog h 49 v=some (.int .i64 (.ofNat N)))
  (aN:br (.ofNat i) (.ofNat N)=false):
  aw Tryz.prog Tryz.f80 none call [1,1,1,1,0,1,0,0] (af.mk [(0,.ptr r 0),(1,.ptr a9 0),(6,.int .i64 (.ofNat i))] [] .none h) (.exit 2)
   (af.mk [(0,.ptr r 0),(1,.ptr a9 0)] [] .none h):=
 aX [0,1] (hs:=[.v v,.o (.int .i64 (.ofNat N)),.b false]) (by kernel_rfl)<| .cons H1<| .cons ay<| .cons aN<| .nil
theorem T5(call:aE->List J->aa->ao)(r a9 b off N aW cU M i q aR j:Nat)(x y:J)(ds:Bool)(aH dj:cE)(h g:aa)
  (H1:av h r (0+3)=some (.slice b off N aH))
  (ay:br (.ofNat i) (.ofNat N)=true)
  (aN:av (aa.room h 16) r (0+3)=some (.slice b off N aH))
  (aO:Nat.le (Nat.succ i) N/\J.ptr b q=J.ptr b (off+i*1))
  (bm:av (aa.room h 16) b q=some x)
  (bT:av (aa.room h 16) a9 (0+3)=some (.slice aW cU M dj))
  (cA:Nat.le (Nat.succ i) M/\J.ptr aW aR=J.ptr aW (cU+i*1))
  (ei:av (aa.room h 16) aW aR=some y)
  (gF:call (.fn 80) [x,y] (aa.room h 16)=ao.ret (.bool ds) g)
  (iI:J.sound x=true:=by first|with_reducible assumption|rfl|exact da.snd (by with_reducible assumption)|exact da.fu (by with_reducible assumption)|exact dE.snd (by with_reducible assumption)|exact dE.fu (by with_reducible assumption)|exact dI.snd (by with_reducible assumption)|exact dI.fu (by with_reducible assumption))
  (lD:J.sound y=true:=by first|with_reducible assumption|rfl|exact da.snd (by with_reducible assumption)|exact da.fu (by with_reducible assumption)|exact dE.snd (by with_reducible assumption)|exact dE.fu (by with_reducible assumption)|exact dI.snd (by with_reducible assumption)|exact dI.fu (by with_reducible assumption))
  (mZ:(!ds)=true):
  aw Tryz.prog Tryz.f80 none call [1,1,1,1,0,1,0,0] (af.mk [(0,.ptr r 0),(1,.ptr a9 0),(6,.int .i64 (.ofNat i))] [] .none h) (.ret)
   (af.mk [(0,.ptr r 0),(1,.ptr a9 0),(4,.bool false),(6,.int .i64 (.ofNat i))] [] .none g):=
 aX [0,1,4,6] (hs:=[.v (.slice b off N aH),.b true,.v (.slice b off N aH),.v (.ptr b q),.v x,.v (.slice aW cU M dj),.v (.ptr aW aR),.v y,.c (.bool ds) g,.b true]) (by kernel_rfl)<| .cons H1<| .cons ay<| .cons aN<| .cons aO<| .cons bm<| .cons bT<| .cons cA<| .cons ei<| .cons gF<| .cons (by kernel_rfl:J.sound (J.ptr r 0)=true)<| .cons (by kernel_rfl:J.ptr r 0=J.ptr r 0)<| .cons (by kernel_rfl:J.sound (J.ptr r 0)=true)<| .cons (by kernel_rfl:J.ptr r 0=J.ptr r 0)<| .cons (by kernel_rfl:J.sound (J.ptr r (0+3))=true)<| .cons (by kernel_rfl:J.ptr r (0+3)=J.ptr r (0+3))<| .cons (by kernel_rfl:J.sound (J.slice b off N aH)=true)<| .cons aN<| .cons (by kernel_rfl:J.sound (J.int IntKind.i64 (Int.ofNat i))=true)<| .cons (by kernel_rfl:J.int IntKind.i64 (Int.ofNat i)=J.int IntKind.i64 (Int.ofNat i))<| .cons (by kernel_rfl:J.sound (J.ptr b q)=true)<| .cons aO<| .cons iI<| .cons bm<| .cons (by kernel_rfl:J.sound (J.ptr a9 0)=true)<| .cons (by kernel_rfl:J.ptr a9 0=J.ptr a9 0)<| .cons (by kernel_rfl:J.sound (J.ptr a9 0)=true)<| .cons (by kernel_rfl:J.ptr a9 0=J.ptr a9 0)<| .cons (by kernel_rfl:J.sound (J.ptr a9 (0+3))=true)<| .cons (by kernel_rfl:J.ptr a9 (0+3)=J.ptr a9 (0+3))<| .cons (by kernel_rfl:J.sound (J.slice aW cU M dj)=true)<| .cons bT<| .cons (by kernel_rfl:J.sound (J.int IntKind.i64 (Int.ofNat i))=true)<| .cons (by kernel_rfl:J.int IntKind.i64 (Int.ofNat i)=J.int IntKind.i64 (Int.ofNat i))<| .cons (by kernel_rfl:J.sound (J.ptr aW aR)=true)<| .cons cA<| .cons lD<| .cons ei<| .cons (by kernel_rfl:J.sound (J.bool !ds)=true)<| .cons (by kernel_rfl:(J.bool !ds)=J.bool !ds)<| .cons mZ<| .nil
theorem T6(call:aE->List J->aa->ao)(r a9 b off N aW cU M i q aR j:Nat)(x y:J)(ds:Bool)(aH dj:cE)(h g:aa)
  (H1:av h r (0+3)=some (.slice b off N aH))
  (ay:br (.ofNat i) (.ofNat N)=true)
  (aN:av (aa.room h 16) r (0+3)=some (.slice b off N aH))
  (aO:Nat.le (Nat.succ i) N/\J.ptr b q=J.ptr b (off+i*1))
  (bm:av (aa.room h 16) b q=some x)
  (bT:av (aa.room h 16) a9 (0+3)=some (.slice aW cU M dj))
  (cA:Nat.le (Nat.succ i) M/\J.ptr aW aR=J.ptr aW (cU+i*1))
  (ei:av (aa.room h 16) aW aR=some y)
  (gF:call (.fn 80) [x,y] (aa.room h 16)=ao.ret (.bool ds) g)
  (iI:J.sound x=true:=by first|with_reducible assumption|rfl|exact da.snd (by with_reducible assumption)|exact da.fu (by with_reducible assumption)|exact dE.snd (by with_reducible assumption)|exact dE.fu (by with_reducible assumption)|exact dI.snd (by with_reducible assumption)|exact dI.fu (by with_reducible assumption))
  (lD:J.sound y=true:=by first|with_reducible assumption|rfl|exact da.snd (by with_reducible assumption)|exact da.fu (by with_reducible assumption)|exact dE.snd (by with_reducible assumption)|exact dE.fu (by with_reducible assumption)|exact dI.snd (by with_reducible assumption)|exact dI.fu (by with_reducible assumption))
  (mZ:(!ds)=false)
  (qh:arith .add .i64 (.ofNat i) (.ofNat 1)=some (.int .i64 (.ofNat j))):
  aw Tryz.prog Tryz.f80 none call [1,1,1,1,0,1,0,0] (af.mk [(0,.ptr r 0),(1,.ptr a9 0),(6,.int .i64 (.ofNat i))] [] .none h) (.nrm)
   (af.mk [(0,.ptr r 0),(1,.ptr a9 0),(6,.int .i64 (.ofNat j))] [] .none g):=
 aX [0,1,4,6] (hs:=[.v (.slice b off N aH),.b true,.v (.slice b off N aH),.v (.ptr b q),.v x,.v (.slice aW cU M dj),.v (.ptr aW aR),.v y,.c (.bool ds) g,.b false,.v (.int .i64 (.ofNat j))]) (by kernel_rfl)<| .cons H1<| .cons ay<| .cons aN<| .cons aO<| .cons bm<| .cons bT<| .cons cA<| .cons ei<| .cons gF<| .cons (by kernel_rfl:J.sound (J.ptr r 0)=true)<| .cons (by kernel_rfl:J.ptr r 0=J.ptr r 0)<| .cons (by kernel_rfl:J.sound (J.ptr r 0)=true)<| .cons (by kernel_rfl:J.ptr r 0=J.ptr r 0)<| .cons (by kernel_rfl:J.sound (J.ptr r (0+3))=true)<| .cons (by kernel_rfl:J.ptr r (0+3)=J.ptr r (0+3))<| .cons (by kernel_rfl:J.sound (J.slice b off N aH)=true)<| .cons aN<| .cons (by kernel_rfl:J.sound (J.int IntKind.i64 (Int.ofNat i))=true)<| .cons (by kernel_rfl:J.int IntKind.i64 (Int.ofNat i)=J.int IntKind.i64 (Int.ofNat i))<| .cons (by kernel_rfl:J.sound (J.ptr b q)=true)<| .cons aO<| .cons iI<| .cons bm<| .cons (by kernel_rfl:J.sound (J.ptr a9 0)=true)<| .cons (by kernel_rfl:J.ptr a9 0=J.ptr a9 0)<| .cons (by kernel_rfl:J.sound (J.ptr a9 0)=true)<| .cons (by kernel_rfl:J.ptr a9 0=J.ptr a9 0)<| .cons (by kernel_rfl:J.sound (J.ptr a9 (0+3))=true)<| .cons (by kernel_rfl:J.ptr a9 (0+3)=J.ptr a9 (0+3))<| .cons (by kernel_rfl:J.sound (J.slice aW cU M dj)=true)<| .cons bT<| .cons (by kernel_rfl:J.sound (J.int IntKind.i64 (Int.ofNat i))=true)<| .cons (by kernel_rfl:J.int IntKind.i64 (Int.ofNat i)=J.int IntKind.i64 (Int.ofNat i))<| .cons (by kernel_rfl:J.sound (J.ptr aW aR)=true)<| .cons cA<| .cons lD<| .cons ei<| .cons (by kernel_rfl:J.sound (J.bool !ds)=true)<| .cons (by kernel_rfl:(J.bool !ds)=J.bool !ds)<| .cons mZ<| .cons qh<| .nil
theorem T7(call:aE->List J->aa->ao)(h:aa):
  aw Tryz.prog Tryz.f80 none call [1,1,1,1,1] (af.mk [] [] .none h) (.ret)
   (af.mk [(4,.bool true)] [] .none h):=
 aX [4] (hs:=[]) (by kernel_rfl)<| .nil
theorem Lb(call:aE->List J->aa->ao)(v w:J)(h:aa):
  aw Tryz.prog Tryz.f62 none call [0] (af.mk [(0,v),(1,w)] [] .none h) (.nrm)
   (af.mk [(0,v),(1,w)] [] .none h):=
 aX [0,1] (hs:=[]) (by kernel_rfl)<| .nil
theorem T8(call:aE->List J->aa->ao)(v w:J)(k bI:Nat)(ds:Bool)(h aq ak aQ:aa)
  (H1:call (.fn 79) [v] h=ao.ret (.int .i64 (.ofNat k)) aq)
  (ay:dq (.ofNat k) (.ofNat 60)=true)
  (aN:call (.fn 79) [w] aq=ao.ret (.int .i64 (.ofNat bI)) ak)
  (aO:dq (.ofNat bI) (.ofNat 60)=true)
  (bm:call (.fn 80) [v,w] ak=ao.ret (.bool ds) aQ):
  aw Tryz.prog Tryz.f62 none call [1,1] (af.mk [(0,v),(1,w)] [] .none h) (.ret)
   (af.mk [(4,.bool ds)] [] .none aQ):=
 aX [4] (hs:=[.c (.int .i64 (.ofNat k)) aq,.b true,.b true,.c (.int .i64 (.ofNat bI)) ak,.b true,.b true,.b true,.b true,.b true,.c (.bool ds) aQ,.b true]) (by kernel_rfl)<| .cons H1<| .cons ay<| .cons ay<| .cons aN<| .cons ay<| .cons ay<| .cons aO<| .cons aO<| .cons aO<| .cons bm<| .cons aO<| .nil
theorem T9(call:aE->List J->aa->ao)(v w:J)(k bI:Nat)(ds:Bool)(h aq ak aQ:aa)
  (H1:call (.fn 79) [v] h=ao.ret (.int .i64 (.ofNat k)) aq)
  (ay:dq (.ofNat k) (.ofNat 60)=true)
  (aN:call (.fn 79) [w] aq=ao.ret (.int .i64 (.ofNat bI)) ak)
  (aO:dq (.ofNat bI) (.ofNat 60)=false):
  aw Tryz.prog Tryz.f62 none call [1,1] (af.mk [(0,v),(1,w)] [] .none h) (.ret)
   (af.mk [(4,.bool false)] [] .none ak):=
 aX [4] (hs:=[.c (.int .i64 (.ofNat k)) aq,.b true,.b true,.c (.int .i64 (.ofNat bI)) ak,.b true,.b true,.b false,.b false,.b false,.b false]) (by kernel_rfl)<| .cons H1<| .cons ay<| .cons ay<| .cons aN<| .cons ay<| .cons ay<| .cons aO<| .cons aO<| .cons aO<| .cons aO<| .nil
theorem T_(call:aE->List J->aa->ao)(v w:J)(k bI:Nat)(ds:Bool)(h aq ak aQ:aa)
  (H1:call (.fn 79) [v] h=ao.ret (.int .i64 (.ofNat k)) aq)
  (ay:dq (.ofNat k) (.ofNat 60)=false):
  aw Tryz.prog Tryz.f62 none call [1,1] (af.mk [(0,v),(1,w)] [] .none h) (.ret)
   (af.mk [(4,.bool false)] [] .none aq):=
 aX [4] (hs:=[.c (.int .i64 (.ofNat k)) aq,.b false,.b false,.b false,.b false,.b false,.b false,.b false,.b false]) (by kernel_rfl)<| .cons H1<| .cons ay<| .cons ay<| .cons ay<| .cons ay<| .cons (by kernel_rfl:false=false)<| .cons (by kernel_rfl:false=false)<| .cons (by kernel_rfl:false=false)<| .cons (by kernel_rfl:false=false)<| .nil
theorem da.q9{B:Nat}{h g:aa}{v:J}{us:List bc}(hs:da B h v (us.map .str)):cq Tryz.prog g 48 v=some (.int .i64 (Int.ofNat us.length)):=by
 have:=da.len (g:=g) (t:=48) (e:=9) (by kernel_rfl) hs
 rwa [List.length_map] at this
theorem da.m0{B:Nat}{h g:aa}{v:J}{vs:List J}(hs:da B h v vs):cq Tryz.prog g 49 v=some (.int .i64 (Int.ofNat vs.length)):=da.len (e:=47) (by kernel_rfl) hs
theorem Lc{B R e3:Nat}{h:aa}{us bs:List bc}{bk a6 cZ lY jd wE kd s0 Fw Fx:J}{bN BU:eE}{lo up oT BV:Nat}(call:aE->List J->aa->ao)(gq:R<B)(uH:e3<B)(au:h.get R=some (.cells [kd,s0,bk,a6,cZ] 51 bN lo up))(uI:h.get e3=some (.cells [Fw,Fx,lY,jd,wE] 51 BU oT BV))(bl:da B h bk (us.map .str))(ag:da B h lY (bs.map .str))(aD:us.length=bs.length)(hlen:us.length<=90000):∀(k i:Nat) (x:aa),us.length-i=k->i<=us.length->Ext B h x->
  ∃e Γ y,ev Tryz.prog Tryz.f80 none call [1,1,1,0,1,0] (k+1) ⟨[(0,.ptr R 0),(1,.ptr e3 0),(5,.int .i64 (Int.ofNat i))],[],.none,x⟩ e ⟨Γ,[],.none,y⟩/\
   ((e=.exit 0/\Γ=[(0,.ptr R 0),(1,.ptr e3 0)]/\km (us.drop i) (bs.drop i)=true)\/(e=.ret/\Γ=[(4,.bool false)]/\km (us.drop i) (bs.drop i)=false))/\Ext B h y
 |0,i,x,ax,hi,ad=>by
  obtain rfl:i=us.length:=by omega
  rw[List.drop_of_length_le (Nat.le_refl _),aD,List.drop_of_length_le (Nat.le_refl _)]
  have eR:=(ad.get R gq).trans au
  exact⟨_,_,_,.exit (T1 call R e3 _ us.length bk x (ar eR rfl) bl.q9 (dY (by omega))) (by simp),.inl ⟨rfl,rfl,by rw[km]⟩,ad⟩
 |k+1,i,x,ax,hi,ad=>by
  have ab:i<us.length:=by omega
  have ae:i<bs.length:=by omega
  have eR:=(ad.get R gq).trans au
  have Ua:=(ad.get e3 uH).trans uI
  have al:=ad.hW (k:=15)
  have hn:=(al.get R gq).trans au
  have yW:=(al.get e3 uH).trans uI
  rcases bl.strs with⟨_,rfl⟩|⟨b,off,aH,rfl,fg,ij⟩
  · simp at ab
  rcases ag.strs with⟨_,rfl⟩|⟨aW,cU,dj,rfl,fe,jT⟩
  · simp at ae
  have aF:av (x.room 15) b (off+i*1)=some (.str us[i]):=(lX al fg).trans (ij i ab)
  have aG:av (x.room 15) aW (cU+i*1)=some (.str bs[i]):=(lX al fe).trans (jT i ae)
  rw[List.drop_eq_getElem_cons ab,List.drop_eq_getElem_cons ae,km]
  cases ai:cF us[i] bs[i] with
  |true=>
   obtain⟨e,Γ,y,bK,bQ,dW⟩:=Lc call gq uH au uI bl ag aD hlen k (i+1) (x.room 15) (by omega) (by omega) al
   refine⟨e,Γ,y,.step (T3 call R e3 b off us.length aW cU bs.length i (off+i*1) (cU+i*1) (i+1) us[i] bs[i] aH dj x (ar eR rfl) (du ab) (ar hn rfl) ⟨ab,rfl⟩ aF (ar yW rfl) ⟨ae,rfl⟩ aG (by rw[ai];rfl) (ki ab (by omega))) bK,?_,dW⟩
   rw[Bool.true_and];exact bQ
  |false=>
   exact⟨_,[(4,.bool false)],_,.exit (cD.post (T2 call R e3 b off us.length aW cU bs.length i (off+i*1) (cU+i*1) 0 us[i] bs[i] aH dj x (ar eR rfl) (du ab) (ar hn rfl) ⟨ab,rfl⟩ aF (ar yW rfl) ⟨ae,rfl⟩ aG (by rw[ai];rfl)) ⟨rfl,trivial⟩) (by simp),.inr ⟨rfl,rfl,by rw[Bool.false_and]⟩,al⟩
abbrev Ub(m B:Nat)(h:aa)(xs ys:List a_)(vs ws:List J):Prop:=∀i (ab:i<vs.length) (ae:i<ws.length) (aB:i<xs.length) (aP:i<ys.length) x,Ext B h x->∃an,Y m (.fn 80) [vs[i],ws[i]] x=.ret (.bool (uA xs[i] ys[i])) an/\Ext B x an
theorem Ld{B R e3:Nat}{h:aa}{bk a6 cZ lY jd wE kd s0 Fw Fx:J}{bN BU:eE}{lo up oT BV:Nat}{m:Nat}{xs ys:List a_}{vs ws:List J}(gq:R<B)(uH:e3<B)(au:h.get R=some (.cells [kd,s0,bk,a6,cZ] 51 bN lo up))(uI:h.get e3=some (.cells [Fw,Fx,lY,jd,wE] 51 BU oT BV))(bl:da B h a6 vs)(ag:da B h jd ws)(q_:dU B h xs vs)(BW:dU B h ys ws)(aD:vs.length=ws.length)(hlen:vs.length<=90000)(bt:Ub m B h xs ys vs ws):∀(k i:Nat) (x:aa),vs.length-i=k->i<=vs.length->Ext B h x->
  ∃e Γ y,ev Tryz.prog Tryz.f80 none (Y m) [1,1,1,1,0,1,0] (k+1) ⟨[(0,.ptr R 0),(1,.ptr e3 0),(6,.int .i64 (Int.ofNat i))],[],.none,x⟩ e ⟨Γ,[],.none,y⟩/\
   ((e=.exit 2/\Γ=[(0,.ptr R 0),(1,.ptr e3 0)]/\jY (xs.drop i) (ys.drop i)=true)\/(e=.ret/\Γ=[(4,.bool false)]/\jY (xs.drop i) (ys.drop i)=false))/\Ext B h y
 |0,i,x,ax,hi,ad=>by
  have h9:=dU.len q_
  have vw:=dU.len BW
  obtain rfl:i=vs.length:=by omega
  rw[List.drop_of_length_le (by omega),List.drop_of_length_le (by omega)]
  have eR:=(ad.get R gq).trans au
  exact⟨_,_,_,.exit (T4 (Y m) R e3 _ vs.length a6 x (ar eR rfl) bl.m0 (dY (by omega))) (by simp),.inl ⟨rfl,rfl,by rw[jY]⟩,ad⟩
 |k+1,i,x,ax,hi,ad=>by
  have h9:=dU.len q_
  have vw:=dU.len BW
  have ab:i<vs.length:=by omega
  have ae:i<ws.length:=by omega
  have aB:i<xs.length:=by omega
  have aP:i<ys.length:=by omega
  have eR:=(ad.get R gq).trans au
  have Ua:=(ad.get e3 uH).trans uI
  have al:=ad.hW (k:=16)
  have hn:=(al.get R gq).trans au
  have yW:=(al.get e3 uH).trans uI
  have t1:=dU.get q_ i ab aB
  have t2:=dU.get BW i ae aP
  rcases bl with⟨_,rfl⟩|⟨b,off,aH,rfl,fg,ij,lE⟩
  · simp at ab
  rcases ag with⟨_,rfl⟩|⟨aW,cU,dj,rfl,fe,jT,kL⟩
  · simp at ae
  have aF:av (x.room 16) b (off+i*1)=some vs[i]:=(lX al fg).trans (ij i ab)
  have aG:av (x.room 16) aW (cU+i*1)=some ws[i]:=(lX al fe).trans (jT i ae)
  rw[List.drop_eq_getElem_cons aB,List.drop_eq_getElem_cons aP,jY]
  obtain⟨g,c1,c2⟩:=bt i ab ae aB aP (x.room 16) al
  have ra:Ext B h g:=al.trans (Nat.le_refl _) c2
  cases ai:uA xs[i] ys[i] with
  |true=>
   rw[ai] at c1
   obtain⟨e,Γ,y,bK,bQ,dW⟩:=Ld gq uH au uI (.inr ⟨b,off,aH,rfl,fg,ij,lE⟩) (.inr ⟨aW,cU,dj,rfl,fe,jT,kL⟩) q_ BW aD hlen bt k (i+1) g (by omega) (by omega) ra
   refine⟨e,Γ,y,.step (T6 (Y m) R e3 b off vs.length aW cU ws.length i (off+i*1) (cU+i*1) (i+1) vs[i] ws[i] true aH dj x g (ar eR rfl) (du ab) (ar hn rfl) ⟨ab,rfl⟩ aF (ar yW rfl) ⟨ae,rfl⟩ aG c1 t1.snd t2.snd rfl (ki ab (by omega))) bK,?_,dW⟩
   rw[Bool.true_and];exact bQ
  |false=>
   rw[ai] at c1
   exact⟨_,[(4,.bool false)],_,.exit (cD.post (T5 (Y m) R e3 b off vs.length aW cU ws.length i (off+i*1) (cU+i*1) 0 vs[i] ws[i] false aH dj x g (ar eR rfl) (du ab) (ar hn rfl) ⟨ab,rfl⟩ aF (ar yW rfl) ⟨ae,rfl⟩ aG c1 t1.snd t2.snd rfl) ⟨rfl,trivial⟩) (by simp),.inr ⟨rfl,rfl,by rw[Bool.false_and]⟩,ra⟩
theorem Uc(m:Nat)(h:aa):Y (m+1) (.fn 80) [.bb,.bb] h=.ret (.bool true) h:=
 dn (intr:=cj) (n:=m) (args:=[.bb,.bb]) Tryz.func80 (by kernel_rfl) rfl (by kernel_rfl) (aw.seq (p:=[]) (by kernel_rfl) (BT (Y m) _ _ h) (aw.fW (p:=[1]) (by kernel_rfl) (TT (Y m) h) (by simp))) (.inl rfl) (by kernel_rfl)
theorem Ud(m R:Nat)(h:aa):Y (m+1) (.fn 80) [.bb,.ptr R 0] h=.ret (.bool false) h:=
 dn (intr:=cj) (n:=m) (args:=[.bb,.ptr R 0]) Tryz.func80 (by kernel_rfl) rfl (by kernel_rfl) (aw.seq (p:=[]) (by kernel_rfl) (BT (Y m) _ _ h) (aw.fW (p:=[1]) (by kernel_rfl) (TV (Y m) R h) (by simp))) (.inl rfl) (by kernel_rfl)
theorem Ue(m R:Nat)(h:aa):Y (m+1) (.fn 80) [.ptr R 0,.bb] h=.ret (.bool false) h:=
 dn (intr:=cj) (n:=m) (args:=[.ptr R 0,.bb]) Tryz.func80 (by kernel_rfl) rfl (by kernel_rfl) (aw.seq (p:=[]) (by kernel_rfl) (BT (Y m) _ _ h) (aw.fW (p:=[1]) (by kernel_rfl) (TX (Y m) R h) (by simp))) (.inl rfl) (by kernel_rfl)
end Go.Proofs.cT
namespace Go.Proofs.cT
open Go aC Go.Proofs dD
set_option maxRecDepth 100000
set_option maxHeartbeats 1000000
theorem Uf(call:aE->List J->aa->ao)(r:Nat)(a9:Nat)(h:aa){Q:bA->af->Prop}(H:∃a1:Nat,av (h.room 58) r (0+0)=some (.int .i64 (.ofNat a1))/\∃bL:Nat,av (h.room 58) a9 (0+0)=some (.int .i64 (.ofNat bL))/\(a1=bL->∃s1:List UInt8,av (h.room 58) r (0+1)=some (.str s1)/\∃s2:List UInt8,av (h.room 58) a9 (0+1)=some (.str s2)/\((!cF s1 s2)=true->Q .ret (af.mk [(0,.ptr r 0),(1,.ptr a9 0),(4,.bool false)] [] .none (h.room 58)))/\((!cF s1 s2)=false->∃v1:J,av (h.room 58) r (0+2)=some v1/\∃cm:Nat,cq Tryz.prog (h.room 58) 48 v1=some (.int .i64 (.ofNat cm))/\∃v2:J,av (h.room 58) a9 (0+2)=some v2/\∃cn:Nat,cq Tryz.prog (h.room 58) 48 v2=some (.int .i64 (.ofNat cn))/\(cm=cn->∃dS:J,av (h.room 58) r (0+3)=some dS/\∃cz:Nat,cq Tryz.prog (h.room 58) 49 dS=some (.int .i64 (.ofNat cz))/\∃v4:J,av (h.room 58) a9 (0+3)=some v4/\∃cV:Nat,cq Tryz.prog (h.room 58) 49 v4=some (.int .i64 (.ofNat cV))/\(cz=cV->∃h6:J,av (h.room 58) r (0+4)=some h6/\∃v6:J,av (h.room 58) a9 (0+4)=some v6/\∃a8:Bool,∃aq:aa,call (.fn 80) [h6,v6] (h.room 58)=.ret (.bool a8) aq/\J.sound v1=true/\J.sound v2=true/\J.sound dS=true/\J.sound v4=true/\J.sound h6=true/\J.sound v6=true/\(a8=true->Q .nrm (af.mk [(0,.ptr r 0),(1,.ptr a9 0)] [] .none aq))/\(a8=false->Q .ret (af.mk [(0,.ptr r 0),(1,.ptr a9 0),(4,.bool false)] [] .none aq)))/\(¬cz=cV->J.sound v1=true/\J.sound v2=true/\J.sound dS=true/\J.sound v4=true/\Q .ret (af.mk [(0,.ptr r 0),(1,.ptr a9 0),(4,.bool false)] [] .none (h.room 58))))/\(¬cm=cn->J.sound v1=true/\J.sound v2=true/\Q .ret (af.mk [(0,.ptr r 0),(1,.ptr a9 0),(4,.bool false)] [] .none (h.room 58)))))/\(¬a1=bL->Q .ret (af.mk [(0,.ptr r 0),(1,.ptr a9 0),(4,.bool false)] [] .none (h.room 58)))):
  bz Tryz.prog Tryz.f80 call [1,1,0] ⟨[(0,.ptr r 0),(1,.ptr a9 0)],[],.none,h⟩ Q:=
 hz [(69,.cI .o),(73,.cI .o)] [0,1,2,4] [(0,.v (.ptr r 0)),(1,.v (.ptr a9 0))] rfl (Eq.mp (by kernel_rfl) H)
theorem Le:∀(K:Nat) (oa ob:Option a_),dy oa<=K->dy oa<=90000->(∀t,oa=some t->iH t<=90000)->∀(m B:Nat) (h:aa) (v w:J),dy oa+1<=m->dE B h oa v->dE B h ob w->∃an,Y m (.fn 80) [v,w] h=.ret (.bool (ig oa ob)) an/\Ext B h an
 |K,none,none,_,_,_,m,B,h,v,w,hm,aJ,hw=>by
  obtain rfl:v=.bb:=aJ
  obtain rfl:w=.bb:=hw
  obtain⟨m,rfl⟩:∃j,m=j+1:=⟨m-1,by omega⟩
  rw[BS]
  exact⟨h,Uc m h,Ext.refl _ _⟩
 |K,none,some (.mk bx bI cP dK iw),_,_,_,m,B,h,v,w,hm,aJ,hw=>by
  obtain rfl:v=.bb:=aJ
  obtain⟨R,bk,a6,cZ,vs,bN,lo,up,rfl,ae,aB,aP,cg,dN,fE⟩:=hw
  obtain⟨m,rfl⟩:∃j,m=j+1:=⟨m-1,by omega⟩
  rw[Fu]
  exact⟨h,Ud m R h,Ext.refl _ _⟩
 |K,some (.mk bx bI cP dK iw),none,_,_,_,m,B,h,v,w,hm,aJ,hw=>by
  obtain rfl:w=.bb:=hw
  obtain⟨R,bk,a6,cZ,vs,bN,lo,up,rfl,ae,aB,aP,cg,dN,fE⟩:=aJ
  obtain⟨m,rfl⟩:∃j,m=j+1:=⟨m-1,by omega⟩
  rw[Fv]
  exact⟨h,Ue m R h,Ext.refl _ _⟩
 |0,some t,some u,eg,_,_,m,B,h,v,w,hm,aJ,hw=>by
  rw[lW] at eg
  have:=sD t
  omega
 |K+1,some (.mk k b8 ns xs rt),some (.mk k' mV nB mW nC),eg,gz,pU,m,B,h,v,w,hm,aJ,hw=>by
  rw[lW,uB] at eg gz hm
  obtain⟨R,bk,a6,cZ,vs,bN,lo,up,rfl,ae,aB,aP,cg,dN,fE⟩:=aJ
  obtain⟨e3,lY,jd,wE,tC,BU,oT,BV,rfl,p5,qi,vB,Lf,Fy,Ug⟩:=hw
  obtain⟨m,rfl⟩:∃j,m=j+1:=⟨m-1,by omega⟩
  have aM:=pU _ rfl
  rw[iH] at aM
  have h9:=dU.len dN
  have vw:=dU.len Fy
  have mF:=pb xs
  have lC:Ext B h (h.room 58):=Ext.room B h 58
  have uF:=(lC.get R ae).trans aB
  have yX:=(lC.get e3 p5).trans qi
  have bt:∀(oa ob:Option a_),dy oa<=K->dy oa<=90000->(∀t,oa=some t->iH t<=90000)->∀(m B:Nat) (h:aa) (v w:J),dy oa+1<=m->dE B h oa v->dE B h ob w->∃an,Y m (.fn 80) [v,w] h=.ret (.bool (ig oa ob)) an/\Ext B h an:=Le K
  have jG:ig (some (.mk k b8 ns xs rt)) (some (.mk k' mV nB mW nC))=(Nat.beq k k'&&(cF b8 mV&&(km ns nB&&(jY xs mW&&ig rt nC)))):=by rw[ig,uA]
  rw[jG]
  have fin:∀b y,aw Tryz.prog Tryz.f80 none (Y m) [1,1] ⟨[(0,.ptr R 0),(1,.ptr e3 0)],[],.none,h⟩ .ret ⟨[(4,.bool b)],[],.none,y⟩->b=(Nat.beq k k'&&(cF b8 mV&&(km ns nB&&(jY xs mW&&ig rt nC))))->Ext B h y->∃an,Y (m+1) (.fn 80) [.ptr R 0,.ptr e3 0] h=.ret (.bool (Nat.beq k k'&&(cF b8 mV&&(km ns nB&&(jY xs mW&&ig rt nC))))) an/\Ext B h an:=λb y al ag ad=>by
   rw[<-ag]
   exact⟨y,dn (intr:=cj) (n:=m) (args:=[.ptr R 0,.ptr e3 0]) Tryz.func80 (by kernel_rfl) rfl (by kernel_rfl) (aw.seq (p:=[]) (by kernel_rfl) (BT (Y m) _ _ h) (aw.seq (p:=[1]) (by kernel_rfl) (TZ (Y m) R e3 h) al)) (.inl rfl) (by kernel_rfl),ad⟩
  have Uh:∀y,aw Tryz.prog Tryz.f80 none (Y m) [1,1,0] ⟨[(0,.ptr R 0),(1,.ptr e3 0)],[],.none,h⟩ .ret ⟨[(0,.ptr R 0),(1,.ptr e3 0),(4,.bool false)],[],.none,y⟩->(Nat.beq k k'&&(cF b8 mV&&(km ns nB&&(jY xs mW&&ig rt nC))))=false->Ext B h y->∃an,Y (m+1) (.fn 80) [.ptr R 0,.ptr e3 0] h=.ret (.bool (Nat.beq k k'&&(cF b8 mV&&(km ns nB&&(jY xs mW&&ig rt nC))))) an/\Ext B h an:=λy al ag ad=>
   fin false y (aw.fW (p:=[1,1]) (by kernel_rfl) (cD.post al ⟨rfl,trivial⟩) (by simp)) ag.symm ad
  have oe:=gE.ext lC (Nat.le_refl _)
  obtain⟨aQ,c3,dT⟩:=bt rt nC (by omega) (by omega) (λt bh=>by subst bh;rw[q6] at aM;omega) m B (h.room 58) cZ wE (by omega) (dE.b0 oe _ _ fE) (dE.b0 oe _ _ Ug)
  have Lg:Ext B h aQ:=lC.trans (Nat.le_refl _) dT
  have no:∀(y:aa),(Nat.beq k k'&&(cF b8 mV&&(km ns nB&&(jY xs mW&&ig rt nC))))=false->Ext B h y->∃At,(bA.ret=.ret/\(⟨[(0,.ptr R 0),(1,.ptr e3 0),(4,.bool false)],[],.none,y⟩:af)=⟨[(0,.ptr R 0),(1,.ptr e3 0),(4,.bool false)],[],.none,At⟩/\(Nat.beq k k'&&(cF b8 mV&&(km ns nB&&(jY xs mW&&ig rt nC))))=false/\Ext B h At):=λy ab ae=>⟨y,rfl,rfl,ab,ae⟩
  have o2:=Uf (Y m) R e3 h (Q:=λe s=>(∃y,e=.ret/\s=⟨[(0,.ptr R 0),(1,.ptr e3 0),(4,.bool false)],[],.none,y⟩/\(Nat.beq k k'&&(cF b8 mV&&(km ns nB&&(jY xs mW&&ig rt nC))))=false/\Ext B h y)\/(e=.nrm/\s=⟨[(0,.ptr R 0),(1,.ptr e3 0)],[],.none,aQ⟩/\k=k'/\cF b8 mV=true/\ns.length=nB.length/\vs.length=tC.length/\ig rt nC=true)) (by
   refine⟨k,ar uF rfl,k',ar yX rfl,λax=>⟨b8,ar uF rfl,mV,ar yX rfl,λhs=>.inl (no _ (by rw[show cF b8 mV=false by simpa using hs];simp) lC),λhs=>?_⟩,λax=>.inl (no _ ?_ lC)⟩
   · refine⟨bk,ar uF rfl,_,aP.q9,lY,ar yX rfl,_,vB.q9,λoU=>⟨a6,ar uF rfl,_,cg.m0,jd,ar yX rfl,_,Lf.m0,λq_=>⟨cZ,ar uF rfl,wE,ar yX rfl,_,aQ,c3,od,od,od,od,od,od,λag=>.inr ⟨rfl,rfl,ax,by simpa using hs,oU,q_,ag⟩,λag=>.inl (no _ (by rw[ag];simp) Lg)⟩,λq_=>⟨od,od,od,od,.inl (no _ (by rw[K9 xs mW (by omega)];simp) lC)⟩⟩,λoU=>⟨od,od,.inl (no _ (by rw[K8 ns nB oU];simp) lC)⟩⟩
   · have wu:Nat.beq k k'=false:=by
       cases ad:Nat.beq k k' with
       |false=>rfl
       |true=>exact absurd (Nat.eq_of_beq_eq_true ad) ax
     rw[wu];rfl)
  obtain⟨e,st,s1,⟨y,rfl,rfl,aY,aR⟩|⟨rfl,rfl,ax,fg,oU,q_,Ui⟩⟩:=o2
  · exact Uh _ s1 aY aR
  · rw[fg,Ui] at fin⊢
    obtain⟨e,Γ,y,bK,bQ,dW⟩:=Lc (Y m) ae p5 aB qi aP vB oU (by omega) ns.length 0 aQ (by omega) (by omega) Lg
    have mj:=ev.run (p:=[1,1,1,0,1,0]) (by kernel_rfl) bK (by omega)
    rw[List.drop_zero,List.drop_zero] at bQ
    have Uj:Nat.beq k k'=true:=by subst ax;exact Nat.beq_refl k
    rcases bQ with⟨rfl,rfl,uG⟩|⟨rfl,rfl,uG⟩
    · have cO:=aw.seq (p:=[1,1,1,0]) (by kernel_rfl) (K_ (Y m) R e3 aQ) (aw.block (p:=[1,1,1,0,1]) (id:=0) (by kernel_rfl) mj)
      obtain⟨e,Γ,z,a1,bL,cm⟩:=Ld (m:=m) (xs:=xs) (ys:=mW) ae p5 aB qi cg Lf dN Fy q_ (by omega) (λi i1 i2 i3 i4 x ad=>by
       have nh:=pa (List.getElem_mem i3)
       have qQ:=BM (List.getElem_mem i3)
       have:=bt (some xs[i]) (some mW[i]) (by rw[lW];omega) (by rw[lW];omega) (λt bh=>by obtain rfl:=Option.some.inj bh;omega) m B x vs[i] tC[i] (by rw[lW];omega) (dI.b0 (gE.ext ad (Nat.le_refl _)) _ _ (dU.get dN i i1 i3)) (dI.b0 (gE.ext ad (Nat.le_refl _)) _ _ (dU.get Fy i i2 i4))
       simpa only[ig] using this) vs.length 0 y (by omega) (by omega) dW
      have cn:=ev.run (p:=[1,1,1,1,0,1,0]) (by kernel_rfl) a1 (by omega)
      rw[List.drop_zero,List.drop_zero] at bL
      rcases bL with⟨rfl,rfl,cV⟩|⟨rfl,rfl,cV⟩
      · have eo:=aw.seq (p:=[1,1,1,1,0]) (by kernel_rfl) (La (Y m) R e3 y) (aw.block (p:=[1,1,1,1,0,1]) (id:=2) (by kernel_rfl) cn)
        exact fin true z (aw.seq (p:=[1,1]) (by kernel_rfl) s1 (aw.seq (p:=[1,1,1]) (by kernel_rfl) cO (aw.seq (p:=[1,1,1,1]) (by kernel_rfl) (cD.post (Γ2:=[]) eo trivial) (T7 (Y m) z)))) (by rw[Uj,uG,cV];rfl) cm
      · have eo:=aw.seq (p:=[1,1,1,1,0]) (by kernel_rfl) (La (Y m) R e3 y) (aw.o5 (p:=[1,1,1,1,0,1]) (id:=2) (by kernel_rfl) cn (by simp))
        exact fin false z (aw.seq (p:=[1,1]) (by kernel_rfl) s1 (aw.seq (p:=[1,1,1]) (by kernel_rfl) cO (aw.fW (p:=[1,1,1,1]) (by kernel_rfl) eo (by simp)))) (by rw[cV];simp) cm
    · have cO:=aw.seq (p:=[1,1,1,0]) (by kernel_rfl) (K_ (Y m) R e3 aQ) (aw.o5 (p:=[1,1,1,0,1]) (id:=0) (by kernel_rfl) mj (by simp))
      exact fin false y (aw.seq (p:=[1,1]) (by kernel_rfl) s1 (aw.fW (p:=[1,1,1]) (by kernel_rfl) cO (by simp))) (by rw[uG];simp) dW
def nE(oa ob:Option a_):Bool:=decide (dy oa<=60)&&(decide (dy ob<=60)&&ig oa ob)
theorem Fz{n:Nat}(h:n<=60):dq (Int.ofNat (min n 61)) (Int.ofNat 60)=true:=iE (by omega)
theorem Lh{n:Nat}(h:¬n<=60):dq (Int.ofNat (min n 61)) (Int.ofNat 60)=false:=iF (by omega)
theorem FA{ot:Option a_}{B:Nat}{h:aa}{v:J}{m:Nat}(ag:dy ot<=90000)(hm:dy ot<m)(aJ:dE B h ot v):Y (m+1) (.fn 79) [v] h=.ret (.int .i64 (Int.ofNat (min (dy ot) 61))) h:=by
 cases ot with
 |none=>
  obtain rfl:v=.bb:=aJ
  obtain⟨m,rfl⟩:∃j,m=j+1:=⟨m-1,by omega⟩
  exact dn (intr:=cj) (n:=m+1) (args:=[.bb]) Tryz.func79 (by kernel_rfl) rfl (by kernel_rfl) (K0 (Y (m+1)) _ .bb h h (K2 m 0 h)) (.inl rfl) (by kernel_rfl)
 |some t=>
  rw[lW] at ag hm⊢
  exact Tp ag hm aJ
theorem FB{oa ob:Option a_}(h:oa=none\/ob=none):nE oa ob=ig oa ob:=by
 unfold nE
 have s0:dy none<=60:=by rw[dy];omega
 rcases h with rfl|rfl
 · cases ob with
   |none=>rw[BS];simp[s0]
   |some u=>rw[Fu];simp
 · cases oa with
   |none=>rw[BS];simp[s0]
   |some u=>rw[Fv];simp
theorem Uk{oa ob:Option a_}{B:Nat}{h:aa}{v w:J}(m:Nat)(bl:dy oa<=90000)(ag:dy ob<=90000)(aM:∀t,oa=some t->iH t<=90000)(hm:dy oa+dy ob+2<=m)(aJ:dE B h oa v)(hw:dE B h ob w):
  ∃an,Y (m+1) (.fn 62) [v,w] h=.ret (.bool (nE oa ob)) an/\Ext B h an:=by
 obtain⟨m,rfl⟩:∃j,m=j+1:=⟨m-1,by omega⟩
 have base:∀b,aw Tryz.prog Tryz.f62 none (Y (m+1)) [1,0] ⟨[(0,v),(1,w)],[],.none,h⟩ .ret ⟨[(4,.bool b)],[],.none,h⟩->nE oa ob=b->∃an,Y (m+1+1) (.fn 62) [v,w] h=.ret (.bool (nE oa ob)) an/\Ext B h an:=λb al ag=>by
  rw[ag]
  exact⟨h,dn (intr:=cj) (n:=m+1) (args:=[v,w]) Tryz.func62 (by kernel_rfl) rfl (by kernel_rfl) (aw.seq (p:=[]) (by kernel_rfl) (Lb (Y (m+1)) v w h) (aw.fW (p:=[1]) (by kernel_rfl) al (by simp))) (.inl rfl) (by kernel_rfl),Ext.refl _ _⟩
 cases oa with
 |none=>
  obtain rfl:v=.bb:=aJ
  cases ob with
  |none=>
   obtain rfl:w=.bb:=hw
   exact base true (TU (Y (m+1)) h) (by rw[FB (.inl rfl),BS])
  |some u=>
   rcases hw.q7 with rfl|⟨R,rfl⟩
   · cases u with
     |mk bx bI cP dK iw=>obtain⟨R,bk,a6,cZ,vs,bN,lo,up,ad,_⟩:=hw;cases ad
   · exact base false (TW (Y (m+1)) R h) (by rw[FB (.inl rfl),Fu])
 |some t=>
  cases ob with
  |none=>
   obtain rfl:w=.bb:=hw
   rcases aJ.q7 with rfl|⟨R,rfl⟩
   · cases t with
     |mk bx bI cP dK iw=>obtain⟨R,bk,a6,cZ,vs,bN,lo,up,ad,_⟩:=aJ;cases ad
   · exact base false (TY (Y (m+1)) R h) (by rw[FB (.inr rfl),Fv])
  |some u=>
   rcases aJ.q7 with rfl|⟨R,rfl⟩
   · cases t with
     |mk bx bI cP dK iw=>obtain⟨R,bk,a6,cZ,vs,bN,lo,up,ad,_⟩:=aJ;cases ad
   rcases hw.q7 with rfl|⟨e3,rfl⟩
   · cases u with
     |mk bx bI cP dK iw=>obtain⟨R,bk,a6,cZ,vs,bN,lo,up,ad,_⟩:=hw;cases ad
   have fin:∀b y,aw Tryz.prog Tryz.f62 none (Y (m+1)) [1,1] ⟨[(0,.ptr R 0),(1,.ptr e3 0)],[],.none,h⟩ .ret ⟨[(4,.bool b)],[],.none,y⟩->b=nE (some t) (some u)->Ext B h y->∃an,Y (m+1+1) (.fn 62) [.ptr R 0,.ptr e3 0] h=.ret (.bool (nE (some t) (some u))) an/\Ext B h an:=λb y al ag ad=>by
    rw[<-ag]
    exact⟨y,dn (intr:=cj) (n:=m+1) (args:=[.ptr R 0,.ptr e3 0]) Tryz.func62 (by kernel_rfl) rfl (by kernel_rfl) (aw.seq (p:=[]) (by kernel_rfl) (Lb (Y (m+1)) _ _ h) (aw.seq (p:=[1]) (by kernel_rfl) (T0 (Y (m+1)) R e3 h) al)) (.inl rfl) (by kernel_rfl),ad⟩
   have c1:=FA (m:=m) bl (by omega) aJ
   unfold nE at fin⊢
   by_cases ab:dy (some t)<=60
   · have c2:=FA (m:=m) ag (by omega) hw
     by_cases ae:dy (some u)<=60
     · obtain⟨aQ,c3,dT⟩:=Le (dy (some t)) (some t) (some u) (Nat.le_refl _) bl aM (m+1) B h (.ptr R 0) (.ptr e3 0) (by omega) aJ hw
       exact fin (ig (some t) (some u)) aQ (T8 (Y (m+1)) (.ptr R 0) (.ptr e3 0) _ _ _ h h h aQ c1 (Fz ab) c2 (Fz ae) c3) (by simp[ab,ae]) dT
     · exact fin false h (T9 (Y (m+1)) (.ptr R 0) (.ptr e3 0) _ _ false h h h h c1 (Fz ab) c2 (Lh ae)) (by simp[ae]) (Ext.refl _ _)
   · exact fin false h (T_ (Y (m+1)) (.ptr R 0) (.ptr e3 0) _ 0 false h h h h c1 (Lh ab)) (by simp[ab]) (Ext.refl _ _)
end Go.Proofs.cT
