/-
  THE ABSTRACT EVALUATOR (drawn regions; a run of the evaluator is a run of the program): a deterministic semantics of loaded code, and the proof that its runs are runs of the program in the model, whatever the tape draws. No condition.
-/
import Derived.Test.YtjkomfonmcmgdaaGreatDoorAec
import Derived.Handed
import Derived.ProofKit
import Derived.Below
import Derived.ChangeSame
import Derived.SliceStrings
import Derived.WideShapes
set_option linter.unusedVariables false
set_option linter.unusedSimpArgs false
namespace bt
open Go
structure hV where
 P:Program
 need:Nat
 bW:Nat
 inR:Bool
 call:eJ->List I->J->a9
 ops:Array Oper
 r:a2
 b:Frame
 nv:bz
 H:J
 g_:World
 cs0:List Frame
 N:Nat
 f:Nat->uc
def hV.steps(X:hV):List DStep:=fh X.ops.toList 0 [] []
def hV.val(X:hV)(j:Nat):I:=(nth (X.N-1-j) (X.f X.N).env).getD .bad
structure fY(X:hV):Prop where
 ag:jM X.P X.call
 ft:X.inR=X.b.roundOf.isSome
 kU:∀o∈X.ops.toList,∀t,o.dst=some t->t<X.bW
 hdr:qT X.ops X.steps=true
 gW:X.N<=X.ops.size
 ue:∀k s,k<X.N->X.steps[k]? =some s->ud X.P X.need X.inR X.call X.ops X.r X.H.n s (X.f k) (X.f (k+1))
 TP:(X.f 0).env=[]
 sG:(X.f 0).bj=[]
 looks:∀i s,i<X.N->X.steps[i]? =some s->kindOf X.P s.o.op=.pure->∃d_,lk X.P X.need X.ops X.r X.N (X.f X.N).env s (X.val i) d_ (X.f X.N).h (X.f X.N).bj=true/\(∀e,d_=some e->e=X.N/\X.N<X.ops.size)
 last:∀s,X.steps[X.N]? =some s->kindOf X.P s.o.op=.ew/\(∀e m h0 l,(X.f X.N).bj=(e,m,h0)::l->Nat.testBit s.e8 e=true)/\∀k bd,X.N<k->X.steps[k]? =some bd->Nat.testBit bd.e8 s.i=true
 nk:hG X.P X.nv
 BL:bB X.nv X.H X.g_
section
variable {X:hV}
theorem fY.mK(bE:fY X){i:Nat}(af:i<X.ops.size):∃s,X.steps[i]? =some s/\s.i=i/\X.ops[i]? =some s.o/\s.loc=jt (X.ops.toList.take i) 0 []/\Sound X.ops i s.e8:=by
 have aY:X.ops.toList[i]? =some X.ops[i]:=by simp[af]
 obtain⟨s,aa,ad,av,aG,bI⟩:=yY (ops:=X.ops) X.ops.toList 0 [] [] (λk=>by simp) (v7 bE.hdr) (λj aK=>by omega) i _ aY
 refine⟨s,aa,by omega,by rw[av];exact Array.getElem?_eq_getElem af,aG,by simpa using bI⟩
theorem fY.l3(bE:fY X){i:Nat}{s:DStep}(h:X.steps[i]? =some s):i<X.ops.size/\s.i=i/\X.ops[i]? =some s.o/\s.loc=jt (X.ops.toList.take i) 0 []/\Sound X.ops i s.e8:=by
 have af:i<X.ops.size:=by
  have aa:=(List.getElem?_eq_some_iff.1 h).1
  rw[hV.steps,E3] at aa
  simpa using aa
 obtain⟨bd,aa,ad⟩:=bE.mK af
 rw[h] at aa;cases aa
 exact⟨af,ad⟩
theorem fY.apart(bE:fY X){i j:Nat}{s bd:DStep}(sF:i<j)(aa:X.steps[i]? =some s)(ad:X.steps[j]? =some bd)(h:(∃t,s.o.dst=some t/\t∈mw X.ops bd.o)\/(∃t,bd.o.dst=some t/\t∈mw X.ops s.o)):Nat.testBit bd.e8 i=true:=by
 have:=Ky bE.hdr i j s bd sF aa ad h
 rw[(bE.l3 aa).2.1] at this;exact this
theorem fY.BM(bE:fY X):∀k,k<=X.N->(X.f k).env.length=k
 |0,_=>by rw[bE.TP];rfl
 |k+1,aq=>by
  obtain⟨s,aa,_⟩:=bE.mK (i:=k) (by have:=bE.gW;omega)
  have bb:=bE.BM k (by omega)
  have bc:=bE.ue k s (by omega) aa
  generalize X.f (k+1)=st at bc
  cases bc<;>simp[bb]
theorem fY.KA(bE:fY X)(k:Nat):∀m,k<=m->m<=X.N->∃l,(X.f m).env=l++(X.f k).env
 |0,aa,ad=>⟨[],by obtain rfl:k=0:=by omega
                  rfl⟩
 |m+1,aa,ad=>by
  by_cases e:k=m+1
  · exact⟨[],by rw[e];rfl⟩
  · obtain⟨l,aw⟩:=bE.KA k m (by omega) (by omega)
    obtain⟨s,hs,_⟩:=bE.mK (i:=m) (by have:=bE.gW;omega)
    have bc:=bE.ue m s (by omega) hs
    have:∃v,(X.f (m+1)).env=v::(X.f m).env:=by
     generalize X.f (m+1)=st at bc
     cases bc<;>exact⟨_,rfl⟩
    obtain⟨v,aD⟩:=this
    exact⟨v::l,by rw[aD,aw];rfl⟩
theorem KB{α:Type}:∀(l m:List α) (k:Nat),nth (l.length+k) (l++m)=nth k m
 |[],m,k=>by simp
 |a::l,m,k=>by
  have:(a::l).length+k=(l.length+k)+1:=by simp;omega
  rw[this];exact KB l m k
theorem fY.E5(bE:fY X){k j:Nat}(aq:k<=X.N)(aK:j<k):nth (k-1-j) (X.f k).env=nth (X.N-1-j) (X.f X.N).env:=by
 obtain⟨l,aw⟩:=bE.KA k X.N aq (Nat.le_refl _)
 have aa:=bE.BM k aq
 have ad:=bE.BM X.N (Nat.le_refl _)
 rw[aw] at ad⊢
 simp only[List.length_append,aa] at ad
 have:X.N-1-j=l.length+(k-1-j):=by omega
 rw[this,KB]
theorem fY.BN(bE:fY X){k:Nat}(aq:k<X.N){v:I}(h:(X.f (k+1)).env=v::(X.f k).env):X.val k=v:=by
 have aa:=bE.E5 (k:=k+1) (j:=k) aq (Nat.lt_succ_self k)
 unfold hV.val
 rw[<-aa,h]
 simp[nth]
theorem fY.KC(bE:fY X){k:Nat}(aq:k<=X.N){a:Acc}(aL:a.below k):dI k (X.f k).env X.r a=dI X.N (X.f X.N).env X.r a:=by
 cases a with
 |env j=>simp only[dI];rw[bE.E5 aq aL]
 |reg p=>rfl
 |val v=>rfl
theorem yZ(l:List Oper)(t:Nat):∀k,k<=l.length->
  (∀a,iy t (jt (l.take k) 0 [])=some a->∃j o,j<k/\a=.env j/\l[j]? =some o/\o.dst=some t/\∀ja o',j<ja->ja<k->l[ja]? =some o'->o'.dst≠some t)/\
  (iy t (jt (l.take k) 0 [])=none->∀j o,j<k->l[j]? =some o->o.dst≠some t)
 |0,_=>⟨λa h=>by simp[jt,iy] at h,λ_ j o aK=>by omega⟩
 |k+1,aq=>by
  obtain⟨BO,BP⟩:=yZ l t k (by omega)
  have aY:l[k]? =some l[k]:=List.getElem?_eq_getElem (by omega)
  rw[Kw l 0 [] k l[k] aY,Nat.zero_add]
  unfold hC
  cases ao:(l[k]).dst with
  |none=>
   refine⟨λa h=>?_,λh j o aK nh=>?_⟩
   · obtain⟨j,o,aa,ad,av,aG,bI⟩:=BO a h
     refine⟨j,o,by omega,ad,av,aG,λja o' ba a1 b7=>?_⟩
     by_cases e:ja=k
     · subst e;rw[aY] at b7;cases b7;rw[ao];simp
     · exact bI ja o' ba (by omega) b7
   · by_cases e:j=k
     · subst e;rw[aY] at nh;cases nh;rw[ao];simp
     · exact BP h j o (by omega) nh
  |some d=>
   simp only[o0]
   by_cases e:t=d
   · subst e
     refine⟨λa h=>?_,λh=>by simp at h⟩
     simp at h;subst h
     exact⟨k,_,by omega,rfl,aY,ao,λja o' ba a1=>by omega⟩
   · simp only[e,if_false]
     refine⟨λa h=>?_,λh j o aK nh=>?_⟩
     · obtain⟨j,o,aa,ad,av,aG,bI⟩:=BO a h
       refine⟨j,o,by omega,ad,av,aG,λja o' ba a1 b7=>?_⟩
       by_cases ax:ja=k
       · subst ax;rw[aY] at b7;cases b7;rw[ao];simp;exactλcI=>e cI.symm
       · exact bI ja o' ba (by omega) b7
     · by_cases ax:j=k
       · subst ax;rw[aY] at nh;cases nh;rw[ao];simp;exactλcI=>e cI.symm
       · exact BP h j o (by omega) nh
def hV.uf(X:hV)(S:List Nat)(μ:bz)(cn:Array Value):Prop:=∀t,
 (∀j o,j∈S->X.ops[j]? =some o->o.dst=some t->(∀k o',k∈S->X.ops[k]? =some o'->o'.dst=some t->k<=j)->bp μ (X.val j) (cn.getD t undef))/\
 ((∀j o,j∈S->X.ops[j]? =some o->o.dst≠some t)->Nat.testBit X.need t=true->bp μ (X.r.get (hh t)) (cn.getD t undef))
theorem hV.uf.mono{S:List Nat}{μ a0:bz}{cn:Array Value}(hle:fi μ a0)(h:X.uf S μ cn):X.uf S a0 cn:=λt=>⟨λj o aa ad av aG=>((h t).1 j o aa ad av aG).mono hle,λaa ad=>((h t).2 aa ad).mono hle⟩
theorem fY.KD(bE:fY X){S:List Nat}(h9:yW X.ops S){μ:bz}{cn:Array Value}(aj:X.uf S μ cn){i:Nat}(af:i<=X.N)(ea:i∉S)(cK:lv X.ops S i){s:DStep}(hs:X.steps[i]? =some s){t:Nat}(bc:t∈mw X.ops s.o):
  bp μ (dI i (X.f i).env X.r (cR X.P X.need s.loc (.tmp t))) (cn.getD t undef):=by
 obtain⟨ft,ic,eR,nw,mL⟩:=bE.l3 hs
 obtain⟨f1,f2⟩:=yZ X.ops.toList t i (by simp;omega)
 have KE:∀k o',k∈S->X.ops[k]? =some o'->o'.dst=some t->k<i:=λk o' aq iJ ao=>by
  have qa:k<X.ops.size:=(Array.getElem?_eq_some_iff.1 iJ).1
  rcases Nat.lt_trichotomy k i with h|h|h
  · exact h
  · subst h;exact absurd aq ea
  · obtain⟨bd,ba,a1,b7,fv,fV⟩:=bE.mK qa
    rw[iJ] at b7;cases b7
    have:=bE.apart h hs ba (.inr ⟨t,ao,bc⟩)
    exact absurd (fV S h9 (h9 k aq) i this) ea
 simp only[cR,nw]
 cases hf:iy t (jt (X.ops.toList.take i) 0 []) with
 |some a=>
  obtain⟨j,o,aK,rfl,nh,ao,p1⟩:=f1 a hf
  have KF:X.ops[j]? =some o:=by simpa using nh
  obtain⟨bd,ba,a1,b7,fv,fV⟩:=bE.mK (i:=j) (by omega)
  rw[KF] at b7;cases b7
  have E6:j∈S:=mL S h9 cK j (bE.apart aK ba hs (.inl ⟨t,ao,bc⟩))
  have:=(aj t).1 j _ E6 KF ao λk o' aq iJ np=>by
   have TQ:=KE k o' aq iJ np
   rcases Nat.lt_or_ge j k with h|h
   · exact absurd np (p1 k o' h TQ (by simpa using iJ))
   · exact h
  have aD:dI i (X.f i).env X.r (.env j)=X.val j:=by
   simp only[dI,hV.val]
   rw[bE.E5 af aK]
  simp only[aD];exact this
 |none=>
  simp only[]
  cases ae:Nat.testBit X.need t with
  |false=>trivial
  |true=>
   exact(aj t).2 (λj o aK aY ao=>f2 hf j o (KE j o aK aY ao) (by simpa using aY) ao) ae
theorem fY.KG(bE:fY X){S:List Nat}(h9:yW X.ops S){μ:bz}{a:Act}(bA:a.tmps.size=X.bW)(aj:X.uf S μ a.tmps){i:Nat}(ea:i∉S)(cK:lv X.ops S i){s:DStep}(hs:X.steps[i]? =some s){u:Value}(hu:bp μ (X.val i) u):
  X.uf (i::S) μ (a.put s.o.dst u).tmps:=by
 obtain⟨ft,ic,eR,nw,mL⟩:=bE.l3 hs
 have ch:∀t,s.o.dst=some t->t<a.tmps.size:=λt h=>by
  rw[bA];exact bE.kU s.o (by rw[<-Array.getElem?_toList] at eR;exact List.mem_of_getElem? eR) t h
 intro t
 by_cases ao:s.o.dst=some t
 · have h8:(a.put s.o.dst u).tmps.getD t undef=u:=by
     rw[ao];simp only[Act.put];rw[yM (ch t ao),if_pos rfl]
   have TR:∀k o',k∈S->X.ops[k]? =some o'->o'.dst=some t->k<i:=λk o' aq iJ np=>by
    have qa:k<X.ops.size:=(Array.getElem?_eq_some_iff.1 iJ).1
    rcases Nat.lt_trichotomy k i with h|h|h
    · exact h
    · subst h;exact absurd aq ea
    · obtain⟨bd,ba,a1,b7,fv,fV⟩:=bE.mK qa
      rw[iJ] at b7;cases b7
      have:=bE.apart h hs ba (.inr ⟨t,np,by simp[mw,ao]⟩)
      exact absurd (fV S h9 (h9 k aq) i this) ea
   refine⟨λj o aK aY BQ yC=>?_,λo6=>absurd ao (o6 i s.o (by simp) eR)⟩
   have sF:=yC i s.o (by simp) eR ao
   rcases List.mem_cons.1 aK with rfl|aK
   · rw[h8];exact hu
   · have:=TR j o aK aY BQ;omega
 · have h8:(a.put s.o.dst u).tmps.getD t undef=a.tmps.getD t undef:=by
     cases KH:s.o.dst with
     |none=>rfl
     |some d=>
      simp only[Act.put]
      rw[yM (ch d KH),if_neg (λe=>ao (by rw[KH,e]))]
   rw[h8]
   refine⟨λj o aK aY BQ yC=>?_,λo6 ae=>(aj t).2 (λj o aK aY=>o6 j o (by simp[aK]) aY) ae⟩
   rcases List.mem_cons.1 aK with rfl|aK
   · rw[eR] at aY;cases aY;exact absurd BQ ao
   · exact(aj t).1 j o aK aY BQ λk o' aq iJ np=>yC k o' (by simp[aq]) iJ np
def ri(μ:bz)(w:World)(b:Nat)(ob:dr):Prop:=∃i O,μ b=some i/\w.heap[i.bo]? =some O/\(∀a0 w',fi μ a0->w'.heap[i.bo]? =some O->pW a0 ob i w')/\(∀c j,c≠b->μ c=some j->j.bo≠i.bo)
theorem bB.E7{μ:bz}{H:J}{w:World}(h:bB μ H w){b:Nat}{ob:dr}(ae:b<H.n)(aQ:μ b=none\/ri μ w b ob):bB μ (H.set b (some ob)) w:=by
 refine⟨λc o i ag af=>?_,λc d i j ag ao af aK e=>?_,λc i af=>h.lt c i af,λc ag=>?_⟩
 · rw[J.c7] at ag
   by_cases e:c=b
   · subst e
     rw[if_pos rfl] at ag;cases ag
     rcases aQ with aQ|⟨BR,O,aa,ad,av,aG⟩
     · rw[aQ] at af;cases af
     · rw[aa] at af;cases af
       exact av μ w (fi.refl μ) ad
   · rw[if_neg e] at ag;exact h.rel c o i ag af
 · rw[J.c7] at ag ao
   by_cases aA:c=b
   · by_cases ax:d=b
     · rw[aA,ax]
     · subst aA
       rcases aQ with aQ|⟨BR,O,aa,ad,av,aG⟩
       · rw[aQ] at af;cases af
       · rw[aa] at af;cases af
         exact absurd e.symm (aG d j ax aK)
   · by_cases ax:d=b
     · subst ax
       rcases aQ with aQ|⟨BR,O,aa,ad,av,aG⟩
       · rw[aQ] at aK;cases aK
       · rw[aa] at aK;cases aK
         exact absurd e (aG c i aA af)
     · rw[if_neg aA] at ag;rw[if_neg ax] at ao
       exact h.inj c d i j ag ao af aK e
 · rw[J.c7,if_neg (by simp at ag;omega)];exact h.bound c (by simpa using ag)
theorem cg.E7{nv μ:bz}{H y0:J}{g_ w:World}(ak:bB nv H g_)(h:cg nv H g_ μ y0 w){b:Nat}(ob:dr)(ae:H.n<=b):cg nv H g_ μ (y0.set b (some ob)) w where
 le:=h.le
 size:=h.size
 n:=by simpa using h.n
 live:=λc ag aw=>h.live c ag (by rw[J.c7,if_neg (by omega)] at aw;exact aw)
 idle:=λc ag hm=>by rw[J.c7,if_neg (by omega)];exact h.idle c ag hm
 old:=h.old
 new:=h.new
 ro:=λc o i ag aj af=>by
  have:=(ak.lt c i af).1
  rw[J.c7,if_neg (by omega)];exact h.ro c o i ag aj af
 os:=h.os
 out:=h.out
 tape:=h.tape
 drawn:=h.drawn
theorem bB.early{μ:bz}{H:J}{w:World}(h:bB μ H w){b:Nat}{ob:dr}{O:Obj}{sz:Nat}(ae:b<H.n)(hm:μ b=none)(aY:∀o,H.get b=some o->o=ob)
  (TS:∀a0 w',fi μ a0->w'.heap[w.heap.size]? =some O->pW a0 ob ⟨w.heap.size,0,sz⟩ w'):fi μ (fE μ b ⟨w.heap.size,0,sz⟩)/\bB (fE μ b ⟨w.heap.size,0,sz⟩) H (w.alloc O):=by
 have hle:fi μ (fE μ b ⟨w.heap.size,0,sz⟩):=λc i af=>by
  rw[hD];exact af
  intro e;subst e;rw[hm] at af;cases af
 have hold:∀r,r<w.heap.size->(w.alloc O).heap[r]? =w.heap[r]? :=λr aj=>by
  simp only[World.alloc,Array.getElem?_push];rw[if_neg (by omega)]
 refine⟨hle,λc o i ag af=>?_,λc d i j ag ao af aK e=>?_,λc i af=>?_,h.bound⟩
 · by_cases e:c=b
   · subst e
     rw[gI] at af;cases af
     rw[aY o ag]
     exact TS _ _ hle (World.heap_alloc_new _ _)
   · rw[hD _ _ e] at af
     exact(h.rel c o i ag af).mono hle (hold _ (h.lt c i af).2)
 · by_cases aA:c=b
   · by_cases ax:d=b
     · rw[aA,ax]
     · subst aA;rw[gI] at af;cases af
       rw[hD _ _ ax] at aK
       have:=(h.lt d j aK).2
       simp only at e;omega
   · by_cases ax:d=b
     · subst ax;rw[gI] at aK;cases aK
       rw[hD _ _ aA] at af
       have:=(h.lt c i af).2
       simp only at e;omega
     · rw[hD _ _ aA] at af;rw[hD _ _ ax] at aK
       exact h.inj c d i j ag ao af aK e
 · by_cases e:c=b
   · subst e;rw[gI] at af;cases af
     exact⟨ae,by simp⟩
   · rw[hD _ _ e] at af
     have:=h.lt c i af
     simp only[World.size_alloc];omega
theorem cg.early{nv μ:bz}{H y0:J}{g_ w:World}(ak:bB nv H g_)(h:cg nv H g_ μ y0 w){b:Nat}(ae:H.n<=b)(hm:μ b=none){O:Obj}{sz:Nat}:cg nv H g_ (fE μ b ⟨w.heap.size,0,sz⟩) y0 (w.alloc O):=by
 have hold:∀r,r<w.heap.size->(w.alloc O).heap[r]? =w.heap[r]? :=λr aj=>by
  simp only[World.alloc,Array.getElem?_push];rw[if_neg (by omega)]
 exact{
  le:=λc i af=>by
   have aa:=h.le c i af
   rw[hD];exact aa
   intro e;subst e;rw[hm] at aa;cases aa
  size:=by have:=h.size;simp only[World.size_alloc];omega
  n:=h.n
  live:=h.live
  idle:=h.idle
  old:=λr aj aN=>(hold r (Nat.lt_of_lt_of_le aj h.size)).trans (h.old r aj aN)
  new:=λc i aa ad=>by
   by_cases e:c=b
   · subst e;rw[gI] at ad;cases ad;exact⟨ae,.inl h.size⟩
   · rw[hD _ _ e] at ad;exact h.new c i aa ad
  ro:=λc o i ag aj af=>by
   obtain⟨aa,ad⟩:=h.ro c o i ag aj af
   exact⟨aa,(hold _ (Nat.lt_of_lt_of_le (ak.lt c i af).2 h.size)).trans ad⟩
  os:=h.os
  out:=h.out
  tape:=h.tape
  drawn:=h.drawn}
theorem ri.early{μ:bz}{H:J}{w:World}(h:bB μ H w){b c:Nat}{ob:dr}{O:Obj}{sz:Nat}(hm:μ b=none)(aQ:ri μ w c ob):ri (fE μ b ⟨w.heap.size,0,sz⟩) (w.alloc O) c ob:=by
 obtain⟨i,E8,aa,ad,av,aG⟩:=aQ
 have cX:c≠b:=by intro e;subst e;rw[hm] at aa;cases aa
 have ch:=(h.lt c i aa).2
 have hle:fi μ (fE μ b ⟨w.heap.size,0,sz⟩):=λc i af=>by
  rw[hD];exact af
  intro e;subst e;rw[hm] at af;cases af
 refine⟨i,E8,by rw[hD _ _ cX];exact aa,?_,λa0 w' aw ug=>av a0 w' (hle.trans aw) ug,λd j ao aK=>?_⟩
 · simp only[World.alloc,Array.getElem?_push];rw[if_neg (by omega)];exact ad
 · by_cases e:d=b
   · subst e;rw[gI] at aK;cases aK;simp only;omega
   · rw[hD _ _ e] at aK;exact aG d j ao aK
theorem ri.qb{μ a0:bz}{H aX:J}{w w':World}(ak:bB μ H w)(aL:cg μ H w a0 aX w'){c:Nat}{ob:dr}(al:H.get c=none)(aQ:ri μ w c ob):ri a0 w' c ob:=by
 obtain⟨i,E8,aa,ad,av,aG⟩:=aQ
 have ch:=(ak.lt c i aa).2
 refine⟨i,E8,aL.le _ _ aa,?_,λvL cN aw ug=>av vL cN (aL.le.trans aw) ug,λd j ao aK=>?_⟩
 · rw[aL.old i.bo ch]
   · exact ad
   · intro d j aw aK
     exact aG d j (λe=>by subst e;exact aw al) aK
 · cases o4:μ d with
   |some TT=>
    have:=aL.le d TT o4
    rw[aK] at this;cases this
    exact aG d j ao o4
   |none=>
    obtain⟨_,aN|⟨e,o,k,he,_,aq,E9⟩⟩:=aL.new d j o4 aK
    · omega
    · rw[<-E9]
      exact aG e k (λcI=>by subst cI;rw[al] at he;cases he) aq
end
end bt
namespace bt
open Go
section
variable {X:hV}
def sH(X:hV)(i:Nat)(s:DStep)(v:I)(ob:dr):Prop:=
 i<X.N/\kindOf X.P s.o.op=.alloc/\eK (g9 X.P X.need X.ops X.r s.i (X.f i).env s)=some true/\kC X.P s.o.op (mJ X.P X.need X.r s (X.f i).env) (X.H.n+i)=some (v,ob)
structure Inv(X:hV)(S:List Nat)(c:Nat)(μ:bz)(w:World)(a:Act)(cs:List Frame):Prop where
 ag:c<=X.N
 closed:yW X.ops S
 sub:∀i∈S,i<X.N
 ew:∀i s,X.steps[i]? =some s->i<X.N->kindOf X.P s.o.op=.ew->(i∈S<->i<c)
 rel:bB μ (X.f c).h w
 qb:cg X.nv X.H X.g_ μ (X.f c).h w
 v_:gE μ (X.f c).d a.defers
 qr:hU μ X.b.kind X.cs0 (X.f c).q cs
 eC:∀i,i<X.ops.size->i∉S->μ (X.H.n+i)=none
 lay:∀i s v ob,X.steps[i]? =some s->sH X i s v ob->i∉S->i<c->(X.f c).h.get (X.H.n+i)=some ob
 o7:∀i,c<=i->i<X.ops.size->(X.f c).h.get (X.H.n+i)=none
 wa:X.H.n+X.ops.size<=(X.f c).h.n
 gf:∀i s v ob,X.steps[i]? =some s->sH X i s v ob->i∈S->c<=i->ri μ w (X.H.n+i) ob
 m_:X.uf S μ a.tmps
 sz:a.tmps.size=X.bW
theorem Inv.pass(bE:fY X){S:List Nat}{c:Nat}{μ:bz}{w:World}{a:Act}{cs:List Frame}(h:Inv X S c μ w a cs)(ch:c<X.N){s:DStep}(hs:X.steps[c]? =some s)(aq:kindOf X.P s.o.op≠ .ew):Inv X S (c+1) μ w a cs:=by
 obtain⟨ft,ic,eR,nw,mL⟩:=bE.l3 hs
 have bc:=bE.ue c s ch hs
 have KI:∀i bd,X.steps[i]? =some bd->i<X.N->kindOf X.P bd.o.op=.ew->(i∈S<->i<c+1):=λi bd aa ad av=>by
  rw[h.ew i bd aa ad av]
  have:i≠c:=by intro e;subst e;rw[hs] at aa;cases aa;exact aq av
  omega
 have same:(X.f (c+1)).h=(X.f c).h->(X.f (c+1)).d=(X.f c).d->(X.f (c+1)).q=(X.f c).q->(∀v ob,¬sH X c s v ob)->Inv X S (c+1) μ w a cs:=λaA ax bD E_=>by
  refine⟨ch,h.closed,h.sub,KI,by rw[aA];exact h.rel,by rw[aA];exact h.qb,by rw[ax];exact h.v_,by rw[bD];exact h.qr,h.eC,λi bd v ob aa ad av aG=>?_,λi aa ad=>(by rw[aA];exact h.o7 i (by omega) ad),by rw[aA];exact h.wa,λi bd v ob aa ad av aG=>h.gf i bd v ob aa ad av (by omega),h.m_,h.sz⟩
  by_cases e:i=c
  · subst e;rw[hs] at aa;cases aa;exact absurd ad (E_ v ob)
  · rw[aA];exact h.lay i bd v ob aa ad av (by omega)
 generalize hf:X.f (c+1)=st at bc
 cases bc with
 |v8 e0 hw=>
  refine same (by rw[hf]) (by rw[hf]) (by rw[hf]) λv ob ho=>?_
  have:=ho.2.2.1
  rw[hw] at this;cases this
 |pure e0 he=>
  refine same (by rw[hf]) (by rw[hf]) (by rw[hf]) λv ob ho=>?_
  have:=ho.2.1
  rw[e0] at this;cases this
 |ew e0 aY he=>exact absurd e0 aq
 |alloc e0 hw aL=>
  rename_i v ob
  have aA:(X.f (c+1)).h=(X.f c).h.set (X.H.n+c) (some ob):=by rw[hf,ic]
  have ax:(X.f (c+1)).d=(X.f c).d:=by rw[hf]
  have bD:(X.f (c+1)).q=(X.f c).q:=by rw[hf]
  have ho:sH X c s v ob:=⟨ch,e0,hw,by rw[<-ic];rw[<-ic] at aL;exact aL⟩
  have ae:X.H.n+c<(X.f c).h.n:=by have:=h.wa;omega
  have aQ:μ (X.H.n+c)=none\/ri μ w (X.H.n+c) ob:=by
   by_cases KJ:c∈S
   · exact .inr (h.gf c s v ob hs ho KJ (Nat.le_refl _))
   · exact .inl (h.eC c ft KJ)
  refine⟨ch,h.closed,h.sub,KI,by rw[aA];exact h.rel.E7 ae aQ,by rw[aA];exact h.qb.E7 bE.BL ob (by omega),by rw[ax];exact h.v_,by rw[bD];exact h.qr,h.eC,λi bd v' Fa aa ad av aG=>?_,λi aa ad=>?_,by rw[aA];simpa using h.wa,λi bd v ob aa ad av aG=>h.gf i bd v ob aa ad av (by omega),h.m_,h.sz⟩
  · rw[aA,J.c7]
    by_cases e:i=c
    · subst e
      rw[hs] at aa;cases aa
      have:=ad.2.2.2.symm.trans ho.2.2.2
      cases this
      rw[if_pos rfl]
    · rw[if_neg (by omega)];exact h.lay i bd v' Fa aa ad av (by omega)
  · rw[aA,J.c7,if_neg (by omega)]
    exact h.o7 i (by omega) ad
def Norm(X:hV)(c:Nat):Prop:=c=X.N\/∃s,X.steps[c]? =some s/\kindOf X.P s.o.op=.ew
theorem Inv.norm(bE:fY X){S:List Nat}{μ:bz}{w:World}{a:Act}{cs:List Frame}:∀(k c:Nat),X.N-c=k->Inv X S c μ w a cs->∃c',Norm X c'/\Inv X S c' μ w a cs
 |0,c,aq,h=>⟨c,.inl (by have:=h.ag;omega),h⟩
 |k+1,c,aq,h=>by
  obtain⟨s,hs,_⟩:=bE.mK (i:=c) (by have:=bE.gW;omega)
  by_cases he:kindOf X.P s.o.op=.ew
  · exact⟨c,.inr ⟨s,hs,he⟩,h⟩
  · exact Inv.norm bE k (c+1) (by omega) (h.pass bE (by omega) hs he)
def y1(ops:Array Oper)(o:Oper)(g:Operand->I):Operand->I
 |.tmp t=>if(mw ops o).contains t then g (.tmp t) else .bad
 |x=>g x
theorem BS{ops:Array Oper}{o:Oper}{g:Operand->I}:∀x∈o.op.operands,g x=y1 ops o g x:=by
 intro x ab
 cases x with
 |tmp t=>
  have:(mw ops o).contains t=true:=by
   have aa:t∈o.op.operands.toList.filterMap λ|.tmp t=>some t|_=>none:=List.mem_filterMap.2 ⟨.tmp t,by simpa using ab,rfl⟩
   simp only[mw,List.contains_iff_mem,List.mem_append]
   exact .inl (.inr aa)
  simp only[y1,this,if_true]
 |_=>rfl
theorem KK(bE:fY X){S:List Nat}{c:Nat}{μ:bz}{w:World}{a:Act}{cs:List Frame}(h:Inv X S c μ w a cs){i:Nat}(af:i<=X.N)(ea:i∉S)(cK:lv X.ops S i){s:DStep}(hs:X.steps[i]? =some s):
  ∀x,bp μ (y1 X.ops s.o (mJ X.P X.need X.r s (X.f i).env) x) (a.eval x):=by
 obtain⟨ft,ic,eR,nw,mL⟩:=bE.l3 hs
 intro x
 cases x with
 |tmp t=>
  simp only[y1]
  split
  · rename_i bc
    have:=bE.KD h.closed h.m_ af ea cK hs (t:=t) (by simpa using bc)
    unfold mJ;rw[ic];exact this
  · trivial
 |const v=>exact kD μ v
 |global g=>
  simp only[y1,mJ,cR,Act.eval]
  cases ae:Nat.blt g X.P.globals.size with
  |false=>exact trivial
  |true=>
   obtain⟨i,aa,ad,av⟩:=bE.nk.mono h.qb.le g (by simpa using ae)
   obtain⟨hF,i0,yy⟩:=i
   simp only at ad av
   subst ad;subst av
   exact⟨_,aa,rfl⟩
 |func f=>exact⟨[],[],rfl,rfl,rfl⟩
theorem Fb(bE:fY X){S:List Nat}{c:Nat}{μ:bz}{w:World}{a:Act}{cs:List Frame}(h:Inv X S c μ w a cs){i:Nat}(af:i<=X.N)(ea:i∉S)(cK:lv X.ops S i){s:DStep}(hs:X.steps[i]? =some s):
  ∀p8,eK (g9 X.P X.need X.ops X.r s.i (X.f i).env s)=some p8->Region.wanted s.o (yielded X.ops a.tmps)=p8:=by
 obtain⟨ft,ic,eR,nw,mL⟩:=bE.l3 hs
 intro p8 hw
 unfold g9 j0 at hw
 unfold Region.wanted
 cases al:s.o.guard with
 |none=>rw[al] at hw;simp only[eK] at hw;cases hw;rfl
 |some p=>
  obtain⟨j,fy⟩:=p
  rw[al] at hw
  simp only at hw⊢
  cases bc:(X.ops[j]?).bind (·.dst) with
  |none=>rw[bc] at hw;simp only[dI,eK] at hw;cases hw
  |some t=>
   rw[bc] at hw
   simp only at hw
   have aj:=bE.KD h.closed h.m_ af ea cK hs (t:=t) (by
    simp only[mw,List.mem_append]
    refine .inr ?_
    rw[al];simp only[bc];simp)
   rw[J7 bc]
   rw[ic] at hw
   generalize dI i (X.f i).env X.r (cR X.P X.need s.loc (.tmp t))=v at hw aj
   unfold eK at hw
   split at hw
   · rename_i he;cases he
   · rename_i he;cases he;cases hw
     have yN:a.tmps.getD t undef=_:=aj
     rw[yN];rfl
   · rename_i he;cases he;cases hw
     obtain⟨l,aw,mH⟩:=aj
     cases mH
     rw[aw];rfl
   · cases hw
theorem uh{P:Program}{inR:Bool}{call:eJ->List I->J->a9}{gd:Option (I×Bool)}{o:Oper}{g gw:Operand->I}{d:List bZ}{q:bL}{H:J}(h:∀x∈o.op.operands,g x=gw x):dV P inR call gd o g d q H=dV P inR call gd o gw d q H:=by
 unfold dV;rw[yU o H h]
theorem Inv.one(bE:fY X){S:List Nat}{c:Nat}{μ:bz}{w:World}{a:Act}{cs:List Frame}(h:Inv X S c μ w a cs){i:Nat}(af:i<=X.N)(ea:i∉S)(cK:lv X.ops S i){s:DStep}(hs:X.steps[i]? =some s)(rest:List Nat)(k:List Item):
  EH X.P μ (X.f c).h w X.b a X.ops s.o i rest k X.cs0 cs (dV X.P X.inR X.call (g9 X.P X.need X.ops X.r s.i (X.f i).env s) s.o (mJ X.P X.need X.r s (X.f i).env) (X.f c).d (X.f c).q (X.f c).h):=by
 obtain⟨ft,ic,eR,nw,mL⟩:=bE.l3 hs
 rw[uh (BS (ops:=X.ops))]
 exact J4 bE.ag h.rel (bE.nk.mono h.qb.le) eR (Fb bE h af ea cK hs) (KK bE h af ea cK hs) h.v_ h.qr bE.ft
theorem Inv.BT(bE:fY X){S:List Nat}{c c':Nat}{μ a0:bz}{w w':World}{a:Act}{cs bT:List Frame}(h:Inv X S c μ w a cs){i:Nat}(af:i<X.N)(ea:i∉S)(cK:lv X.ops S i){s:DStep}(hs:X.steps[i]? =some s)(aq:∀v ob,¬sH X i s v ob)
  {u:Value}{ds:List Deferred}(aD:bp a0 (X.val i) u)(lZ:bB a0 (X.f c').h w')(kV:cg μ (X.f c).h w a0 (X.f c').h w')(ao:gE a0 (X.f c').d ds)(aJ:hU a0 X.b.kind X.cs0 (X.f c').q bT)
  (wb:(c'=c/\kindOf X.P s.o.op≠ .ew)\/(c'=c+1/\i=c)):Inv X (i::S) c' a0 w' {tmps:=(a.put s.o.dst u).tmps,defers:=ds} bT:=by
 obtain⟨ft,ic,eR,nw,mL⟩:=bE.l3 hs
 have hle:=kV.le
 have y2:c<=c':=by rcases wb with⟨e,_⟩|⟨e,_⟩<;>omega
 have y3:=h.wa
 refine⟨?_,λj aK=>?_,λj aK=>?_,λj bd aa ad av=>?_,lZ,cg.trans bE.BL h.rel h.qb kV,ao,aJ,λj aa ad=>?_,λj bd v ob aa ad av aG=>?_,λj aa ad=>?_,?_,λj bd v ob aa ad av aG=>?_,?_,?_⟩
 · rcases wb with⟨e,_⟩|⟨e,ax⟩
   · rw[e];exact h.ag
   · omega
 · have hm:lv X.ops S j->lv X.ops (i::S) j:=λak o aY e he ae=>List.mem_cons_of_mem _ (ak o aY e he ae)
   rcases List.mem_cons.1 aK with rfl|aK
   · exact hm cK
   · exact hm (h.closed j aK)
 · rcases List.mem_cons.1 aK with rfl|aK
   · exact af
   · exact h.sub j aK
 · have:=h.ew j bd aa ad av
   rw[List.mem_cons,this]
   rcases wb with⟨e,ax⟩|⟨e,ax⟩
   · subst e
     have:j≠i:=by intro e;subst e;rw[hs] at aa;cases aa;exact ax av
     simp[this]
   · omega
 · have BU:j∉S:=λak=>ad (List.mem_cons_of_mem _ ak)
   cases hm:a0 (X.H.n+j) with
   |none=>rfl
   |some eC=>
    have:=(kV.new _ eC (h.eC j aa BU) hm).1
    omega
 · have BU:j∉S:=λak=>av (List.mem_cons_of_mem _ ak)
   have oU:j≠i:=λe=>av (by simp[e])
   have afI:=ad.1
   have Jl:j<c:=by rcases wb with⟨e,_⟩|⟨e,ax⟩<;>omega
   rw[kV.idle _ (by have:=bE.gW;omega) (h.eC j (by have:=bE.gW;omega) BU)]
   exact h.lay j bd v ob aa ad BU Jl
 · have h0:=h.o7 j (by omega) ad
   cases al:(X.f c').h.get (X.H.n+j) with
   |none=>rfl
   |some o=>exact absurd h0 (kV.live _ (by omega) (by rw[al];simp))
 · exact Nat.le_trans y3 kV.n
 · have oU:j≠i:=by
     intro e;subst e;rw[hs] at aa;cases aa;exact aq v ob ad
   have E6:j∈S:=by
    rcases List.mem_cons.1 av with e|ak
    · exact absurd e oU
    · exact ak
   have afJ:=ad.1
   exact(h.gf j bd v ob aa ad E6 (by omega)).qb h.rel kV (h.o7 j (by omega) (by have:=bE.gW;omega))
 · exact bE.KG (a:=a) h.closed h.sz (h.m_.mono hle) ea cK hs aD
 · simpa using(yO a s.o.dst u).trans h.sz
theorem y4{s:DStep}{v:I}(bE:fY X):∀(m:Nat),m<=X.N->∀(d_:Option Nat) (wc:J),lk X.P X.need X.ops X.r X.N (X.f X.N).env s v d_ wc (X.f m).bj=true->
  ∀c bd,c<m->X.steps[c]? =some bd->kindOf X.P bd.o.op=.ew->∃bj,bj=(X.f c).bj/\lk X.P X.need X.ops X.r X.N (X.f X.N).env s v (some c) (X.f c).h bj=true
 |0,_,d_,wc,h,c,bd,ag,_,_=>by omega
 |m+1,hm,d_,wc,h,c,bd,ag,dw,aq=>by
  obtain⟨ui,ba,a1,_⟩:=bE.mK (i:=m) (by have:=bE.gW;omega)
  have bc:=bE.ue m ui (by omega) ba
  by_cases e:c=m
  · subst e
    rw[ba] at dw;cases dw
    generalize hf:X.f (c+1)=st at bc h
    cases bc with
    |v8 e0=>rw[aq] at e0;cases e0
    |alloc e0=>rw[aq] at e0;cases e0
    |pure e0=>rw[aq] at e0;cases e0
    |ew e0 aY he=>
     unfold lk at h
     rw[Bool.and_eq_true] at h
     have ad:=h.2
     simp only[a1] at ad
     exact⟨_,rfl,ad⟩
  · have ch:c<m:=by omega
    generalize hf:X.f (m+1)=st at bc h
    cases bc with
    |v8 e0=>exact y4 bE m (by omega) d_ wc h c bd ch dw aq
    |alloc e0=>exact y4 bE m (by omega) d_ wc h c bd ch dw aq
    |pure e0=>exact y4 bE m (by omega) d_ wc h c bd ch dw aq
    |ew e0 aY he=>
     unfold lk at h
     rw[Bool.and_eq_true] at h
     have ad:=h.2
     simp only at ad
     exact y4 bE m (by omega) _ _ ad c bd ch dw aq
theorem Fc(bE:fY X):∀(m:Nat),m<=X.N->∀e mk h0 l,(X.f m).bj=(e,mk,h0)::l->e<m/\∃bd,X.steps[e]? =some bd/\kindOf X.P bd.o.op=.ew/\mk=bd.e8
 |0,_,e,mk,h0,l,h=>by rw[bE.sG] at h;cases h
 |m+1,hm,e,mk,h0,l,h=>by
  obtain⟨ui,ba,a1,_⟩:=bE.mK (i:=m) (by have:=bE.gW;omega)
  have bc:=bE.ue m ui (by omega) ba
  generalize hf:X.f (m+1)=st at bc h
  cases bc with
  |ew e0 aY he=>
   simp only[List.cons.injEq,Prod.mk.injEq] at h
   obtain⟨⟨rfl,rfl,rfl⟩,rfl⟩:=h
   exact⟨by omega,ui,by rw[a1];exact ba,e0,rfl⟩
  |_=>obtain⟨aa,ad⟩:=Fc bE m (by omega) e mk h0 l h;exact⟨by omega,ad⟩
theorem Inv.looks(bE:fY X){S:List Nat}{c:Nat}{μ:bz}{w:World}{a:Act}{cs:List Frame}(h:Inv X S c μ w a cs)(aN:Norm X c){i:Nat}(af:i<X.N)(ea:i∉S)(cK:lv X.ops S i){s:DStep}(hs:X.steps[i]? =some s)(aq:kindOf X.P s.o.op=.pure):
  mv X.P X.need X.ops X.r X.N (X.f X.N).env s (X.val i) (X.f c).h=true:=by
 obtain⟨ft,ic,eR,nw,mL⟩:=bE.l3 hs
 obtain⟨d_,aa,ad⟩:=bE.looks i s af hs aq
 have off:∀(d_:Option Nat),(∀e,d_=some e->e=c/\c∉S)->lk X.P X.need X.ops X.r X.N (X.f X.N).env s (X.val i) d_ (X.f c).h (X.f c).bj=true->mv X.P X.need X.ops X.r X.N (X.f X.N).env s (X.val i) (X.f c).h=true:=by
  intro d_ BV cA
  unfold lk at cA
  rw[Bool.and_eq_true] at cA
  have av:=cA.1
  split at av
  · rename_i ae
    exfalso
    rw[Bool.or_eq_true] at ae
    rcases ae with ae|ae
    · cases d_ with
      |none=>cases ae
      |some e=>
       obtain⟨rfl,q⟩:=BV e rfl
       exact q (mL S h.closed cK _ ae)
    · cases sI:(X.f c).bj with
      |nil=>rw[sI] at ae;cases ae
      |cons p l=>
       obtain⟨e,mk,h0⟩:=p
       rw[sI] at ae
       obtain⟨ba,bd,a1,b7,rfl⟩:=Fc bE c h.ag e mk h0 l sI
       have Fe:=(h.ew e bd a1 (by have:=h.ag;omega) b7).2 ba
       exact ea ((bE.l3 a1).2.2.2.2 S h.closed (h.closed e Fe) i (by rw[ic] at ae;exact ae))
  · exact av
 have KL:∀e bd,X.steps[e]? =some bd->e=X.N->e∉S:=λe bd _ he ak=>by have:=h.sub e ak;omega
 by_cases y2:c=X.N
 · subst y2
   exact off d_ (λe he=>⟨(ad e he).1,λak=>by have:=h.sub _ ak;omega⟩) aa
 · have KM:c<X.N:=by have:=h.ag;omega
   rcases aN with e|⟨bd,ba,a1⟩
   · exact absurd e y2
   · obtain⟨bj,rfl,aG⟩:=y4 bE X.N (Nat.le_refl _) d_ _ aa c bd KM ba a1
     refine off (some c) (λe he=>⟨by cases he;rfl,λak=>?_⟩) aG
     have:=(h.ew c bd ba KM a1).1 ak
     omega
end
end bt
namespace bt
open Go
section
variable {X:hV}
theorem KN(bE:fY X):∀(m:Nat),m<=X.N->
  (∀e mk h0 l,(X.f m).bj=(e,mk,h0)::l->∀j bd,e<j->j<m->X.steps[j]? =some bd->kindOf X.P bd.o.op≠ .ew)/\
  ((X.f m).bj=[]->∀j bd,j<m->X.steps[j]? =some bd->kindOf X.P bd.o.op≠ .ew)
 |0,_=>⟨λe mk h0 l h=>(by rw[bE.sG] at h;cases h),λ_ j bd aK=>(by omega)⟩
 |m+1,hm=>by
  obtain⟨BO,BP⟩:=KN bE m (by omega)
  obtain⟨ui,ba,a1,_⟩:=bE.mK (i:=m) (by have:=bE.gW;omega)
  have bc:=bE.ue m ui (by omega) ba
  have same:kindOf X.P ui.o.op≠ .ew->(X.f (m+1)).bj=(X.f m).bj->_:=λaq he=>(⟨λe mk h0 l h j bd aa ad av=>by
    by_cases cI:j=m
    · subst cI;rw[ba] at av;cases av;exact aq
    · exact BO e mk h0 l (he▸h) j bd aa (by omega) av,λh j bd ad av=>by
    by_cases cI:j=m
    · subst cI;rw[ba] at av;cases av;exact aq
    · exact BP (he▸h) j bd (by omega) av⟩:
   (∀e mk h0 l,(X.f (m+1)).bj=(e,mk,h0)::l->∀j bd,e<j->j<m+1->X.steps[j]? =some bd->kindOf X.P bd.o.op≠ .ew)/\((X.f (m+1)).bj=[]->∀j bd,j<m+1->X.steps[j]? =some bd->kindOf X.P bd.o.op≠ .ew))
  generalize hf:X.f (m+1)=st at bc same⊢
  clear hf
  cases bc with
  |v8 e0=>exact same (by rw[e0];simp) rfl
  |alloc e0=>exact same (by rw[e0];simp) rfl
  |pure e0=>exact same (by rw[e0];simp) rfl
  |ew e0 aY he=>
   refine⟨λe mk h0 l h j bd aa ad av=>?_,λh=>by cases h⟩
   simp only[List.cons.injEq,Prod.mk.injEq] at h
   obtain⟨⟨rfl,_,_⟩,_⟩:=h
   omega
theorem Inv.KO(bE:fY X){S:List Nat}{c:Nat}{μ:bz}{w:World}{a:Act}{cs:List Frame}(h:Inv X S c μ w a cs)(aN:Norm X c){i:Nat}(af:i<=X.N)(ea:i∉S)(cK:lv X.ops S i){s:DStep}(hs:X.steps[i]? =some s)
  (aq:kindOf X.P s.o.op=.ew)(aY:∀e m h0 l,(X.f i).bj=(e,m,h0)::l->Nat.testBit s.e8 e=true):i=c:=by
 obtain⟨ft,ic,eR,nw,mL⟩:=bE.l3 hs
 have JS:c<=i:=by
  rcases Nat.lt_or_ge i X.N with aa|aa
  · have:=h.ew i s hs aa aq
    rcases Nat.lt_or_ge i c with ad|ad
    · exact absurd (this.2 ad) ea
    · exact ad
  · have:=h.ag;omega
 rcases Nat.lt_or_ge c i with ch|we
 · exfalso
   rcases aN with e|⟨bd,ba,a1⟩
   · omega
   · obtain⟨r1,r2⟩:=KN bE i af
     cases sI:(X.f i).bj with
     |nil=>exact r2 sI c bd ch ba a1
     |cons p l=>
      obtain⟨e,mk,h0⟩:=p
      obtain⟨ey,s2,e9,jK,_⟩:=Fc bE i af e mk h0 l sI
      have Fe:=mL S h.closed cK e (aY e mk h0 l sI)
      have TU:=(h.ew e s2 e9 (by omega) jK).1 Fe
      exact r1 e mk h0 l sI c bd TU ch ba a1
 · omega
theorem Inv.TV(bE:fY X){S:List Nat}{c:Nat}{μ:bz}{w:World}{a:Act}{cs:List Frame}(h:Inv X S c μ w a cs){i:Nat}(af:i<X.N)(ea:i∉S)(cK:lv X.ops S i){s:DStep}(hs:X.steps[i]? =some s){v:I}{ob:dr}(ho:sH X i s v ob)(aD:X.val i=v)(rest:List Nat)(k:List Item):
  ∃a0 w' cF,Steps X.P (lone (X.b.atR a (.inRegion X.ops (i::rest)::k)) cs w) (lone (X.b.atR cF (.inRegion X.ops rest::k)) cs w')/\Inv X (i::S) c a0 w' cF cs:=by
 obtain⟨ft,ic,eR,nw,mL⟩:=bE.l3 hs
 obtain⟨_,aq,hw,aL⟩:=ho
 have EI:=Fb bE h (Nat.le_of_lt af) ea cK hs _ hw
 rw[yV _ _ (BS (ops:=X.ops))] at aL
 obtain⟨u,O,sz,aw⟩:=S1 (P:=X.P) (w:=w) s.o (KK bE h (Nat.le_of_lt af) ea cK hs) aL
 have cA:=stepGR_op (P:=X.P) (b:=X.b) (a:=a) (k:=k) (cs:=cs) (w:=w) (rest:=rest) eR EI
 have tX:s.o.semAt X.b.roundOf a.eval=execOp a.eval s.o:=Oper.semAt_eq _ _ _ λBW e=>by rw[e] at aq;cases aq
 rw[tX] at cA
 obtain⟨ai,_⟩:=Bt cA
 have ie:=ai _ _ aw.run
 have nn:(X.b.atR a (.inRegion X.ops (i::rest)::k)).finish u=X.b.atR (a.put s.o.dst u) (.inRegion X.ops rest::k):=by
  rw[Frame.finish_atR,eR];rfl
 rw[nn] at ie
 have h_:=h.eC i ft ea
 have y3:=h.wa
 have je:∀o,(X.f c).h.get (X.H.n+i)=some o->o=ob:=λo al=>by
  rcases Nat.lt_or_ge i c with ch|we
  · have:=h.lay i s v ob hs ⟨af,aq,hw,by rw[yV _ _ (BS (ops:=X.ops))];exact aL⟩ ea ch
    rw[al] at this;cases this;rfl
  · rw[h.o7 i we ft] at al;cases al
 obtain⟨hle,lZ⟩:=h.rel.early (b:=X.H.n+i) (by omega) h_ je aw.obj
 have kV:=h.qb.early bE.BL (b:=X.H.n+i) (by omega) h_ (O:=O) (sz:=sz)
 have TW:bp (fE μ (X.H.n+i) ⟨w.heap.size,0,sz⟩) (X.val i) u:=by rw[aD];exact aw.val _ hle (gI _ _ _)
 refine⟨fE μ (X.H.n+i) ⟨w.heap.size,0,sz⟩,_,_,ie,?_⟩
 have hm:∀{j},lv X.ops S j->lv X.ops (i::S) j:=λak o aY e he ae=>List.mem_cons_of_mem _ (ak o aY e he ae)
 refine⟨h.ag,λj aK=>?_,λj aK=>?_,λj bd aa ad av=>?_,lZ,kV,?_,h.qr.mono hle,λj aa ad=>?_,λj bd v ob aa ad av aG=>h.lay j bd v ob aa ad (λak=>av (List.mem_cons_of_mem _ ak)) aG,h.o7,h.wa,λj bd v' Fa aa ad av aG=>?_,bE.KG h.closed h.sz (h.m_.mono hle) ea cK hs TW,(yO _ _ _).trans h.sz⟩
 · rcases List.mem_cons.1 aK with rfl|aK
   · exact hm cK
   · exact hm (h.closed j aK)
 · rcases List.mem_cons.1 aK with rfl|aK
   · exact af
   · exact h.sub j aK
 · have oU:j≠i:=by intro e;subst e;rw[hs] at aa;cases aa;rw[aq] at av;cases av
   rw[List.mem_cons]
   simp only[oU,false_or]
   exact h.ew j bd aa ad av
 · rw[put_defers];exact h.v_.mono hle
 · have oU:j≠i:=λe=>ad (by simp[e])
   rw[hD _ _ (by omega)]
   exact h.eC j aa (λak=>ad (List.mem_cons_of_mem _ ak))
 · rcases List.mem_cons.1 av with e|av
   · subst e
     rw[hs] at aa;cases aa
     have:=ad.2.2.2
     rw[yV _ _ (BS (ops:=X.ops)),aL] at this
     cases this
     refine⟨⟨w.heap.size,0,sz⟩,O,gI _ _ _,World.heap_alloc_new _ _,λa0 w' q0 ug=>aw.obj a0 w' (hle.trans q0) ug,λd ja ao aK=>?_⟩
     rw[hD _ _ ao] at aK
     have:=(h.rel.lt d ja aK).2
     simp only;omega
   · exact(h.gf j bd v' Fa aa ad av aG).early h.rel h_
theorem Ff(bE:fY X){i:Nat}(af:i<=X.N):EL i (jt (X.ops.toList.take i) 0 []):=λt a aL=>by
 obtain⟨j,o,aa,rfl,_⟩:=(yZ X.ops.toList t i (by have:=bE.gW;simp;omega)).1 a aL
 exact aa
theorem Inv.step(bE:fY X){S:List Nat}{c:Nat}{μ:bz}{w:World}{a:Act}{cs:List Frame}(h:Inv X S c μ w a cs){i:Nat}(af:i<X.N)(ea:i∉S)(cK:lv X.ops S i)(rest:List Nat)(k:List Item):
  ∃c' a0 w' cF bT,Steps X.P (lone (X.b.atR a (.inRegion X.ops (i::rest)::k)) cs w) (lone (X.b.atR cF (.inRegion X.ops rest::k)) bT w')/\Inv X (i::S) c' a0 w' cF bT:=by
 obtain⟨c,aN,h⟩:=h.norm bE _ _ rfl
 obtain⟨s,hs,ic,eR,_⟩:=bE.mK (i:=i) (by have:=bE.gW;omega)
 have bc:=bE.ue i s af hs
 have hle:=Nat.le_of_lt af
 generalize hf:X.f (i+1)=st at bc
 cases bc with
 |v8 aq hw=>
  have aD:=bE.BN af (v:=.aO []) (by rw[hf])
  have yJ:=Fb bE h hle ea cK hs _ hw
  have qW:=stepR_op_skip (P:=X.P) (b:=X.b) (a:=a) (k:=k) (cs:=cs) (w:=w) (ops:=X.ops) (i:=i) (rest:=rest) (by simp[eR,yJ])
  rw[eR] at qW
  have he:a.put ((some s.o).bind (·.dst)) undef={tmps:=(a.put s.o.dst undef).tmps,defers:=a.defers}:=Bu a s.o.dst undef
  rw[he] at qW
  refine⟨c,μ,w,_,cs,.one qW,h.BT bE af ea cK hs (λv ob ho=>?_) (by rw[aD];exact⟨[],rfl,rfl⟩) h.rel (cg.refl _ _ _) h.v_ h.qr (.inl ⟨rfl,by rw[aq];simp⟩)⟩
  have:=ho.2.2.1
  rw[hw] at this;cases this
 |alloc aq hw aL=>
  rename_i v ob
  have aD:=bE.BN af (v:=v) (by rw[hf])
  obtain⟨a0,w',cF,aa,ad⟩:=h.TV bE af ea cK hs ⟨af,aq,hw,by rw[<-ic];rw[<-ic] at aL;exact aL⟩ aD rest k
  exact⟨c,a0,w',cF,cs,aa,ad⟩
 |pure aq he=>
  rename_i v bh bn an
  have aD:=bE.BN af (v:=v) (by rw[hf])
  have kZ:=h.looks bE aN af ea cK hs aq
  have fW:=h.one bE hle ea cK hs rest k
  have gK:g9 X.P X.need X.ops X.r X.N (X.f X.N).env s=g9 X.P X.need X.ops X.r s.i (X.f i).env s:=by
   unfold g9 j0
   cases Fg:s.o.guard with
   |none=>rfl
   |some p=>
    obtain⟨j,fy⟩:=p
    simp only
    cases afK:(X.ops[j]?).bind (·.dst) with
    |none=>rfl
    |some t=>
     simp only
     rw[ic,bE.KC hle (by rw[(bE.l3 hs).2.2.2.1];exact Bx (Ff bE hle) _)]
  have e_:∀x,dI X.N (X.f X.N).env X.r (cR X.P X.need s.loc x)=mJ X.P X.need X.r s (X.f i).env x:=λx=>by
   unfold mJ
   rw[ic,bE.KC hle (by rw[(bE.l3 hs).2.2.2.1];exact Bx (Ff bE hle) _)]
  unfold mv at kZ
  rw[gK] at kZ
  have sB:(λx=>dI X.N (X.f X.N).env X.r (cR X.P X.need s.loc x))=mJ X.P X.need X.r s (X.f i).env:=funext e_
  rw[sB] at kZ
  have BX:∀v ob,¬sH X i s v ob:=λv ob ho=>by have:=ho.2.1;rw[aq] at this;cases this
  have cX:kindOf X.P s.o.op≠ .ew:=by rw[aq];simp
  unfold dV at fW he
  cases KP:eK (g9 X.P X.need X.ops X.r s.i (X.f i).env s) with
  |none=>rw[KP] at kZ;cases kZ
  |some fy=>
   rw[KP] at kZ fW he
   cases fy with
   |false=>
    simp only at fW he
    cases he
    obtain⟨a0,w',u,tW,bT,s1,s2,bN,bS,cr,c3⟩:=fW
    exact⟨c,a0,w',_,bT,s1,h.BT bE af ea cK hs BX (by rw[aD];exact s2) bN bS cr c3 (.inl ⟨rfl,cX⟩)⟩
   |true=>
    simp only at kZ fW
    split at kZ
    · rename_i v' Fh fA
      rw[fA] at fW
      simp only at fW
      have TX:=beq_eq _ _ kZ
      have TY:=TK aq fA
      rw[TY] at fW
      obtain⟨a0,w',u,tW,bT,s1,s2,bN,bS,cr,c3⟩:=fW
      exact⟨c,a0,w',_,bT,s1,h.BT bE af ea cK hs BX (by rw[<-TX];exact s2) bN bS cr c3 (.inl ⟨rfl,cX⟩)⟩
    · cases kZ
 |ew aq aY he=>
  rename_i v bh bn an
  have aD:=bE.BN af (v:=v) (by rw[hf])
  have rj:=h.KO bE aN hle ea cK hs aq aY
  have fW:=h.one bE hle ea cK hs rest k
  have BX:∀v ob,¬sH X i s v ob:=λv ob ho=>by have:=ho.2.1;rw[aq] at this;cases this
  rw[<-rj,he] at fW
  obtain⟨a0,w',u,tW,bT,s1,s2,bN,bS,cr,c3⟩:=fW
  have aA:(X.f (c+1)).h=an:=by rw[<-rj,hf]
  have ax:(X.f (c+1)).d=bh:=by rw[<-rj,hf]
  have bD:(X.f (c+1)).q=bn:=by rw[<-rj,hf]
  exact⟨c+1,a0,w',_,bT,s1,h.BT bE af ea cK hs BX (by rw[aD];exact s2) (by rw[aA];exact bN) (by rw[aA,<-rj];exact bS) (by rw[ax];exact cr) (by rw[bD];exact c3) (.inr ⟨rfl,rj⟩)⟩
end
end bt
namespace bt
open Go
section
variable {X:hV}
def hV.ends(X:hV)(k:List Item)(fq:Machine)(res:na):Prop:=o1 X.P X.need X.bW X.nv X.r X.H X.g_ X.b k X.cs0 fq (jt X.ops.toList 0 []) res
theorem hV.Fi{k:List Item}{fq a5:Machine}{res:na}(h:Steps X.P fq a5)(an:X.ends k a5 res):X.ends k fq res:=by
 unfold hV.ends at*
 cases res with
 |ok env d q aX=>obtain⟨a0,w',cF,bT,s1,s2⟩:=an;exact⟨a0,w',cF,bT,h.trans s1,s2⟩
 |ca v d q aX=>obtain⟨a0,w',cF,bT,u,bk,s1,s2⟩:=an;exact⟨a0,w',cF,bT,u,bk,h.trans s1,s2⟩
 |fail s=>trivial
structure Fj(X:hV)(res:na):Prop where
 ok:X.N=X.ops.size->res=.ok (X.f X.N).env (X.f X.N).d (X.f X.N).q (X.f X.N).h
 ca:X.N<X.ops.size->∀s,X.steps[X.N]? =some s->∃v bh bn an,dV X.P X.inR X.call (g9 X.P X.need X.ops X.r s.i (X.f X.N).env s) s.o (mJ X.P X.need X.r s (X.f X.N).env) (X.f X.N).d (X.f X.N).q (X.f X.N).h=.ca v bh bn an/\res=.ca v bh bn an
theorem Inv.order(bE:fY X){res:na}(fG:Fj X res)(k:List Item):∀(L S:List Nat) (c:Nat) (μ:bz) (w:World) (a:Act) (cs:List Frame),ub X.ops S L->Inv X S c μ w a cs->X.ends k (lone (X.b.atR a (.inRegion X.ops L::k)) cs w) res
 |[],S,c,μ,w,a,cs,aY,h=>by
  have eB:∀i,i<X.ops.size->i∈S:=aY
  have gW:X.N=X.ops.size:=by
   have:=bE.gW
   rcases Nat.lt_or_ge X.N X.ops.size with ch|we
   · have:=h.sub _ (eB _ ch);omega
   · omega
  obtain⟨c,aN,h⟩:=h.norm bE _ _ rfl
  have KL:c=X.N:=by
   rcases aN with e|⟨s,ba,a1⟩
   · exact e
   · have:=h.ag
     rcases Nat.lt_or_ge c X.N with ch|we
     · have:=(h.ew c s ba ch a1).1 (eB c (by omega));omega
     · omega
  subst KL
  rw[fG.ok gW]
  have hlen:=bE.BM X.N (Nat.le_refl _)
  have KQ:X.ops.toList.take X.N=X.ops.toList:=by rw[gW];exact List.take_of_length_le (by simp)
  have nw:=Ff bE (Nat.le_refl X.N)
  rw[KQ] at nw
  refine⟨μ,w,a,cs,.one stepR_region_end,⟨by rw[hlen];exact nw,λt=>?_⟩,h.sz,h.rel,h.qb,h.v_,h.qr⟩
  rw[hlen]
  obtain⟨f1,f2⟩:=yZ X.ops.toList t X.N (by simp;omega)
  rw[KQ] at f1 f2
  simp only[cR]
  cases hf:iy t (jt X.ops.toList 0 []) with
  |some ac=>
   obtain⟨j,o,aK,rfl,nh,ao,p1⟩:=f1 ac hf
   have:=(h.m_ t).1 j o (eB j (by omega)) (by simpa using nh) ao λk o' aq iJ np=>by
    rcases Nat.lt_or_ge j k with ch|we
    · exact absurd np (p1 k o' ch (h.sub k aq) (by simpa using iJ))
    · exact we
   exact this
  |none=>
   simp only[]
   cases ae:Nat.testBit X.need t with
   |false=>trivial
   |true=>
    exact(h.m_ t).2 (λj o aK iJ ao=>f2 hf j o (h.sub j aK) (by simpa using iJ) ao) ae
 |i::L,S,c,μ,w,a,cs,aY,h=>by
  obtain⟨af,ea,cK,n7⟩:=aY
  rcases Nat.lt_trichotomy i X.N with ch|heq|uj
  · obtain⟨c',a0,w',cF,bT,aa,ad⟩:=h.step bE ch ea cK L k
    exact hV.Fi aa (Inv.order bE fG k L (i::S) c' a0 w' cF bT n7 ad)
  ·
   obtain⟨s,hs,ic,eR,_⟩:=bE.mK af
   obtain⟨c,aN,h⟩:=h.norm bE _ _ rfl
   rw[heq] at hs
   obtain⟨bw,bV,c5⟩:=bE.last s hs
   rw[<-heq] at hs bV
   have rj:=h.KO bE aN (Nat.le_of_eq heq) ea cK hs bw bV
   have fW:=h.one bE (Nat.le_of_eq heq) ea cK hs L k
   obtain⟨v,bh,bn,an,aA,ax⟩:=fG.ca (by omega) s (by rw[<-heq];exact hs)
   rw[<-heq] at aA
   rw[<-rj,aA] at fW
   rw[ax]
   obtain⟨a0,w',u,s1,s2,bN,bS,cr,c3⟩:=fW
   rw[rj] at bS
   refine⟨a0,w',a,cs,u,_,s1,trivial,s2,λt bc ae=>?_,h.sz,bN,cg.trans bE.BL h.rel h.qb bS,cr,c3⟩
   obtain⟨f1,f2⟩:=yZ X.ops.toList t X.ops.toList.length (Nat.le_refl _)
   rw[List.take_length] at f2
   have:=(h.m_ t).2 (λj o aK iJ ao=>f2 bc j o (by have:=h.sub j aK;have:=bE.gW;simp;omega) (by simpa using iJ) ao) ae
   exact this.mono bS.le
  · exfalso
    obtain⟨s,hs,_⟩:=bE.mK (i:=X.N) (by omega)
    obtain⟨bd,dw,_,_,_,mL⟩:=bE.mK af
    have:=(bE.last s hs).2.2 i bd uj dw
    rw[(bE.l3 hs).2.1] at this
    have:=h.sub _ (mL S h.closed cK _ this)
    omega
end
section
variable {P:Program}
theorem KR{need:Nat}{ops:Array Oper}{r:a2}{n:Nat}{env:List I}{last:Option Nat}{h:J}{bj:List (Nat×Nat×J)}:∀{l:List DStep},lW P need ops r n env last h bj l=true->∀s∈l,s.i<n->kindOf P s.o.op=.pure->lk P need ops r n env s ((nth (n-1-s.i) env).getD .bad) last h bj=true
 |[],_,s,hs,_,_=>by cases hs
 |x::l,aw,s,hs,af,aq=>by
  simp only[lW,Bool.and_eq_true] at aw
  rcases List.mem_cons.1 hs with rfl|hs
  · have aa:=aw.1
    have ae:Nat.blt s.i n=true:=by simpa using af
    rw[ae,aq] at aa
    exact aa
  · exact KR aw.2 s hs af aq
theorem KS(hm:P.follows .mixedOrders=true){call:eJ->List I->J->a9}(ag:jM P call)(need bW:Nat):nr P need bW call:=by
 intro ops id kU hdr b inR r d q H μ w a k cs0 cs ft aj bA ak al ao aJ
 unfold tD
 simp only
 obtain⟨nt,k0⟩:∃nt:uc,nt=⟨[],d,q,⟨H.t,H.n+ops.size⟩,[]⟩:=⟨_,rfl⟩
 obtain⟨res,jx⟩:∃res,gC P need inR call ops r H.n (fh ops.toList 0 [] []) [] d q ⟨H.t,H.n+ops.size⟩ []=res:=⟨_,rfl⟩
 rw[jx]
 by_cases KT:∃km,res=.fail km
 · obtain⟨km,e⟩:=KT;subst e;trivial
 have BY:∀km,res≠ .fail km:=λkm e=>KT ⟨km,e⟩
 have TZ:gC P need inR call ops r H.n (fh ops.toList 0 [] []) nt.env nt.d nt.q nt.h nt.bj=res:=by rw[k0];exact jx
 obtain⟨f,N,f0,gW,KU,wb⟩:=Kz _ _ _ TZ BY
 have hlen:(fh ops.toList 0 [] []).length=ops.size:=by rw[E3];simp
 rw[hlen] at gW
 have KV:∀m,m<=N->(f m).env.length=m:=λm=>by
  induction m with
  |zero=>intro _;rw[f0,k0];rfl
  |succ m bb=>
   intro qZ
   have hs:(fh ops.toList 0 [] [])[m]? =some (fh ops.toList 0 [] [])[m]:=List.getElem?_eq_getElem (by omega)
   have bc:=KU m _ (by omega) hs
   have Fk:=bb (by omega)
   generalize f (m+1)=st at bc
   cases bc<;>simp[Fk]
 let X:hV:={P:=P,need:=need,bW:=bW,inR:=inR,call:=call,ops:=ops,r:=r,b:=b,nv:=μ,H:=H,g_:=w,cs0:=cs0,N:=N,f:=f}
 let cW:World:={w with drawn:=w.drawn+1}
 have sE:∀o i,ops[i]? =some o->oT o i=true:=λo i aY=>by
  have af:i<ops.size:=(Array.getElem?_eq_some_iff.1 aY).1
  have iJ:ops.toList[i]? =some o:=by simpa using aY
  obtain⟨s,aa,ad,av,_⟩:=yY (ops:=ops) ops.toList 0 [] [] (λk=>by simp) (v7 hdr) (λj aK=>by omega) i o iJ
  have:=v7 hdr s (List.mem_of_getElem? aa)
  rw[av] at this
  have y5:s.i=i:=by omega
  rw[y5] at this;exact this
 have l4:=TJ sE (w.tape w.drawn (.order b.fn id))
 have e6:Steps P (lone (b.atR a (.code (.region id ops true)::k)) cs w) (lone (b.atR a (.inRegion ops (Region.schedule true ops (w.tape w.drawn (.order b.fn id)))::k)) cs cW):=by
  have:=stepR_region_draw (P:=P) (b:=b) (a:=a) (k:=k) (cs:=cs) (w:=w) (ops:=ops) (id:=id)
  rw[hm] at this
  exact .one this
 have hinv:Inv X [] 0 μ cW a cs:=by
  refine⟨Nat.zero_le _,(λj aK=>by cases aK),(λj aK=>by cases aK),(λi s aa ad av=>⟨λaK=>(by cases aK),λaK=>(by omega)⟩),?_,?_,?_,?_,λi af _=>?_,(λi s v ob aa ad av aG=>by omega),λi af ad=>?_,?_,(λi s v ob aa ad av aG=>by cases av),?_,bA⟩
  · show bB μ (f 0).h cW
    rw[f0,k0]
    exact⟨λfy o i ae af=>(ak.rel fy o i ae af).mono (fi.refl μ) rfl,ak.inj,λfy i af=>⟨Nat.lt_of_lt_of_le (ak.lt fy i af).1 (Nat.le_add_right _ _),(ak.lt fy i af).2⟩,λfy ae=>ak.bound fy (Nat.le_trans (Nat.le_add_right _ _) ae)⟩
  · show cg μ H w μ (f 0).h cW
    rw[f0,k0]
    exact⟨fi.refl μ,Nat.le_refl _,Nat.le_add_right _ _,λ_ _ aw=>aw,λ_ _ _=>rfl,λ_ _ _=>rfl,(λfy i aa ad=>by rw[aa] at ad;cases ad),λ_ _ _ ae _ _=>⟨ae,rfl⟩,rfl,rfl,rfl,Nat.le_succ _⟩
  · show gE μ (f 0).d a.defers
    rw[f0,k0];exact ao
  · show hU μ b.kind cs0 (f 0).q cs
    rw[f0,k0];exact aJ
  · show μ (H.n+i)=none
    cases e:μ (H.n+i) with
    |none=>rfl
    |some eC=>have:=(ak.lt _ eC e).1;omega
  · show(f 0).h.get (H.n+i)=none
    rw[f0,k0]
    exact ak.bound (H.n+i) (Nat.le_add_right _ _)
  · show H.n+ops.size<=(f 0).h.n
    rw[f0,k0];exact Nat.le_refl _
  · intro t
    exact⟨λj o aK=>(by cases aK),λ_ ae=>aj t ae⟩
 have KW:∀(d_:Option Nat) (kZ:lW P need ops r (f N).env.length (f N).env d_ (f N).h (f N).bj (fh ops.toList 0 [] [])=true) (BV:∀e,d_=some e->e=N/\N<ops.size)
   (p1:∀s,(fh ops.toList 0 [] [])[N]? =some s->kindOf P s.o.op=.ew/\(∀e m h0 l,(f N).bj=(e,m,h0)::l->Nat.testBit s.e8 e=true)/\∀k bd,N<k->(fh ops.toList 0 [] [])[k]? =some bd->Nat.testBit bd.e8 s.i=true),fY X:=by
  intro d_ kZ BV p1
  refine⟨ag,ft,kU,hdr,gW,KU,by show(f 0).env=[];rw[f0,k0],by show(f 0).bj=[];rw[f0,k0],λi s af hs aq=>?_,p1,al,ak⟩
  have ic:s.i=i:=by
   have Fl:i<ops.size:=Nat.lt_of_lt_of_le af gW
   obtain⟨bd,aa,ad,_⟩:=yY (ops:=ops) ops.toList 0 [] [] (λk=>by simp) (v7 hdr) (λj aK=>by omega) i _ (show ops.toList[i]? =some ops[i] by simp[Fl])
   have kH:(fh ops.toList 0 [] [])[i]? =some s:=hs
   rw[aa] at kH;cases kH;omega
  have:=KR kZ s (List.mem_of_getElem? hs) (by rw[KV N (Nat.le_refl _),ic];exact af) aq
  rw[KV N (Nat.le_refl _),ic] at this
  exact⟨d_,this,BV⟩
 rcases wb with⟨afL,ab⟩|⟨s,hs,aq,aY,T0,v,bh,bn,an,he,ab⟩
 · subst ab
   simp only
   cases kZ:lW P need ops r (f N).env.length (f N).env none (f N).h (f N).bj (fh ops.toList 0 [] []) with
   |false=>trivial
   |true=>
    simp only
    have bE:=KW none kZ (λe he=>by cases he) (λs hs=>by rw[List.getElem?_eq_none (by omega)] at hs;cases hs)
    have fG:Fj X (.ok (f N).env (f N).d (f N).q (f N).h):=⟨λ_=>rfl,λch=>by
     have ym:N<ops.size:=ch
     omega⟩
    exact hV.Fi (X:=X) e6 (Inv.order bE fG k _ [] 0 μ cW a cs l4 hinv)
 · subst ab
   simp only
   have ic:s.i=N:=by
    have Fl:N<ops.size:=by have:=(List.getElem?_eq_some_iff.1 hs).1;omega
    obtain⟨bd,aa,ad,_⟩:=yY (ops:=ops) ops.toList 0 [] [] (λk=>by simp) (v7 hdr) (λj aK=>by omega) N _ (show ops.toList[N]? =some ops[N] by simp[Fl])
    rw[aa] at hs;cases hs;omega
   have T1:N<ops.size:=by have:=(List.getElem?_eq_some_iff.1 hs).1;omega
   cases kZ:lW P need ops r (f N).env.length (f N).env (some s.i) (f N).h (f N).bj (fh ops.toList 0 [] []) with
   |false=>trivial
   |true=>
    simp only
    have bE:=KW (some s.i) kZ (λe he=>by cases he;exact⟨ic,T1⟩) (λbd dw=>by rw[hs] at dw;cases dw;exact⟨aq,aY,T0⟩)
    have fG:Fj X (.ca v bh bn an):=⟨λe=>by
     have cI:N=ops.size:=e
     omega,λ_ bd dw=>by
     have kH:(fh ops.toList 0 [] [])[N]? =some bd:=dw
     rw[hs] at kH;cases kH
     exact⟨v,bh,bn,an,he,rfl⟩⟩
    exact hV.Fi (X:=X) e6 (Inv.order bE fG k _ [] 0 μ cW a cs l4 hinv)
structure Fit(P:Program):Prop where
 mixed:P.follows .mixedOrders=true
 code:vX P
 ext:BH P
theorem Fm(hf:Fit P){intr:Nat->List I->J->Option (I×J)}(af:om P intr)(n:Nat):jM P (fp P intr n):=
 Kt af (λcall ag need bW=>KS hf.mixed ag need bW) hf.code hf.ext n
end
end bt
namespace bt
open Go Go.RowKit Go.ChangeShapes Go.WideShapes
section
variable {P:Program}
def T2(P:Program):Bool:=P.funcs.toList.all λfn=>match fn.body with
 |some c=>hQ fn.ntmps c&&!(fn.name== "runtime.NumGoroutine")
 |none=>true
def T3(P:Program):Bool:=P.funcs.toList.all λfn=>match fn.body with
 |some _=>true
 |none=>!sC.contains fn.name||(Extern.findNext fn).isNone
theorem KX{g:FuncId}{hP:Func}(h:P.funcs[g]? =some hP):hP∈P.funcs.toList:=by
 rw[<-Array.getElem?_toList] at h;exact List.mem_of_getElem? h
theorem y6(hm:P.follows .mixedOrders=true)(ag:T2 P=true)(he:T3 P=true):Fit P where
 mixed:=hm
 code:=λg hP gc al ae=>by
  have:=List.all_eq_true.1 ag hP (KX al)
  rw[ae] at this
  simp only[Bool.and_eq_true,Bool.not_eq_true'] at this
  exact this
 ext:=λg hP al ae aN=>by
  have:=List.all_eq_true.1 he hP (KX al)
  rw[ae] at this
  simp only[Bool.or_eq_true,Bool.not_eq_true',List.contains_eq_mem,decide_eq_false_iff_not] at this
  rcases this with h|h
  · exact absurd aN h
  · simpa using h
def y7(H:J):Prop:=∀b o,H.get b=some o->o.pX=true
theorem cg.below{μ a0:bz}{H aX:J}{W iK:World}(aj:y7 H)(ak:bB μ H W)(h:cg μ H W a0 aX iK):Below W.heap.size W iK:=by
 refine⟨h.os,h.tape,h.out,h.size,λr ch=>?_⟩
 by_cases he:∃b i,H.get b≠none/\μ b=some i/\i.bo=r
 · obtain⟨b,i,aa,ad,rfl⟩:=he
   cases al:H.get b with
   |none=>exact absurd al aa
   |some o=>exact(h.ro b o i al (aj b o al) ad).2
 · exact h.old r ch λb i aa ad av=>he ⟨b,i,aa,ad,av⟩
def y8(G:Nat):bz:=λb=>if b<G then some ⟨b,0,0⟩ else none
theorem T4{W:World}(jO:P.globals.size<=W.heap.size):bB (y8 P.globals.size) (r8 P.globals.size) W/\hG P (y8 P.globals.size)/\y7 (r8 P.globals.size):=by
 have aN:∀b,(r8 P.globals.size).get b=none:=λb=>rfl
 refine⟨⟨λb o i h=>(by rw[aN] at h;cases h),λb c i j h=>absurd (aN b) h,λb i h=>?_,λb _=>aN b⟩,λg al=>⟨⟨g,0,0⟩,by simp[y8,al],rfl,rfl⟩,λb o h=>(by rw[aN] at h;cases h)⟩
 unfold y8 at h
 split at h
 · rename_i ae;cases h;exact⟨ae,Nat.lt_of_lt_of_le ae jO⟩
 · cases h
theorem T5(hf:Fit P){intr:Nat->List I->J->Option (I×J)}(af:om P intr){n:Nat}{f:Nat}{fn:Func}{c:Code}(oh:P.funcs[f]? =some fn)(ae:fn.body=some c){args:List I}{H:J}{v:I}{aX:J}
  (e6:fp P intr n (.fn f) args H=.ret v aX){μ:bz}{W:World}{vs:List Value}(ak:bB μ H W)(al:hG P μ)(aD:cm μ args vs):
  Calls P f ⟨vs⟩ W λe iK=>∃a0 u,e=.returned u/\bp a0 v u/\bB a0 aX iK/\cg μ H W a0 aX iK:=by
 have aa:=(Fm hf af n).fn f args H (by rw[e6];rfl) μ W vs ak al aD
 rw[e6] at aa
 obtain⟨_,E0⟩:=hf.code f fn c oh ae
 have he:=BE oh ae E0 ⟨vs⟩ W
 rcases aa with⟨v',w',ba,_⟩|⟨_,a1⟩
 · rw[he] at ba;cases ba
 · exact a1.mono λe iK h=>h
def BZ:a9->Bool
 |.ret (.bool true) _=>true
 |_=>false
theorem T6{r:a9}(h:BZ r=true):∃H,r=.ret (.bool true) H:=by
 unfold BZ at h
 split at h
 · exact⟨_,rfl⟩
 · cases h
theorem T7(hf:Fit P){intr:Nat->List I->J->Option (I×J)}(af:om P intr){n:Nat}{f:Nat}{fn:Func}{c:Code}(oh:P.funcs[f]? =some fn)(ae:fn.body=some c){args:List I}{H:J}
  (e6:BZ (fp P intr n (.fn f) args H)=true){μ:bz}{W:World}{vs:List Value}(ak:bB μ H W)(aj:y7 H)(al:hG P μ)(aD:cm μ args vs):
  Calls P f ⟨vs⟩ W λe iK=>e=.returned (.bool true)/\Below W.heap.size W iK:=by
 obtain⟨aX,e⟩:=T6 e6
 exact(T5 hf af oh ae e ak al aD).mono λe iK ⟨a0,u,aa,ad,av,aG⟩=>⟨by cases ad;exact aa,aG.below aj ak⟩
def Fo(P:Program):Bool:=match P.globals.size with
 |0=>true
 |g+1=>(((begin P (λ_ _=>0) default).world.heap[g]?).bind Obj.row?).isSome
theorem T8{W:World}(hs:W.ShapedOpen P)(ae:Fo P=true):P.globals.size<=W.heap.size:=by
 unfold Fo at ae
 cases al:P.globals.size with
 |zero=>exact Nat.zero_le _
 |succ g=>
  rw[al] at ae
  simp only at ae
  obtain⟨⟨zero,t⟩,ab⟩:=Option.isSome_iff_exists.1 ae
  obtain⟨cs,aa,_⟩:=hs.1 g zero t (by omega) ab
  have:=(Array.getElem?_eq_some_iff.1 aa).1
  omega
variable {H:Type} {enc:TypeId×Value->H}
theorem KY(aw:laidOutB P=true){W iK:World}(ae:Below W.heap.size W iK){sp:Nat->Bool}:∀{ck:List TypeId} {vs:List Value} {ds:List (DataW H)} {ps:List MemPlace},(∀t∈ck,P.readableRec t=true/\t<P.types.size)->
  DataW.TrodAll enc P W 0 (λ_=>true) true ck vs ds ps->(∀x∈ps,x.block<W.heap.size/\sp x.block=true)->DataW.TrodAll enc P iK 0 sp true ck vs ds ps
 |[],[],[],_,_,h,_=>h
 |_::_,_::_,_::_,_,o8,⟨p,q,aa,ad,e⟩,hs=>
  ⟨p,q,WideElems.Trod_stays aw (o8 _ (by simp)).1 (o8 _ (by simp)).2 aa (λx ab=>ae.same (hs x (by rw[e];simp[ab])).1) (λx ab=>(hs x (by rw[e];simp[ab])).2),
    KY aw ae (λt bc=>o8 t (by simp[bc])) ad (λx ab=>hs x (by rw[e];simp[ab])),e⟩
theorem T9{f:Func}{s:ChangeSpec}{apart fresh handsOn again:Bool}{W iK:World}{args:Array Value}{ds gs:List (DataW H)}{before:List MemPlace}{jf:TypeId}
  (aw:laidOutB P=true)(o8:∀t∈f.params.toList,P.readableRec t=true/\t<P.types.size)(jx:f.resultTypes=#[jf])(wg:P.underlying jf=some .bool)(Fp:s.vars=[])
  (jO:DataW.Whole enc P f.params.toList s.vars apart W args.toList ds gs before)(oh:s.fn H ds={results:=[.lit (.bool true)],args:=ds})(ae:Below W.heap.size W iK):
  s.post enc P f apart fresh handsOn again W args (.bool true) iK:=by
 have ch:∀p∈before,p.block<W.heap.size:=λp aQ=>jO.lt p aQ
 have T_:=jO
 obtain⟨sJ,EE,kn,Fq,rfl,aW,aN⟩:=jO
 rw[Fp] at Fq
 obtain⟨rfl,rfl⟩:=trodVars_none Fq
 have e:s.fn H (ds++[])={results:=[.lit (.bool true)],args:=ds}:=by rw[List.append_nil];exact oh
 have hW:∀sp:Nat->Bool,(∀p∈sJ++[],sp p.block=true)->DataW.TrodAll enc P iK 0 sp true f.params.toList args.toList ds sJ:=λsp Ua=>
  KY aw ae o8 kn (λx ab=>⟨ch x (by simp[ab]),Ua x (by simp[ab])⟩)
 have fW:∀(b:Nat) (sp:Nat->Bool) (ao:Bool),DataW.TrodAll enc P iK b sp ao f.resultTypes.toList ((Value.bool true).resultList f.resultTypes.size) [.lit (.bool true)] []:=λb sp ao=>by
  rw[jx];exact trodAll_mk1 (shut_bool wg true)
 refine⟨ds,[],sJ++[],[],sJ,[],T_,?_,?_,?_,World.keptBut_mono (λp aQ=>⟨aQ,?_⟩) (ae.frame (· ∈sJ++[])),λ_=>?_⟩
 · rw[e];exact fW _ _ _
 · rw[e];exact hW _ λp aQ=>by simpa using ch p aQ
 · rw[e,Fp];rfl
 · exact Or.inr (by simpa using aQ)
 · refine⟨ok_one jx rfl (okWide_bool_mk wg true),_,_,([]++sJ)++[],⟨[]++sJ,[],trodAll_append (hW _ (λ_ _=>rfl)) (fW _ _ _),show DataW.TrodVars enc P iK (λ_=>true) s.vars [] [] from by rw[Fp];rfl,rfl,?_,?_⟩,?_⟩
   · intro b off aQ
     have ft:MemPlace.cell b off∈sJ++[]:=by simpa using aQ
     rw[ae.frozen (ch _ ft)]
     exact aW b off ft
   · intro aL
     simpa using aN aL
   · intro p aQ _
     simpa using aQ
theorem Ub{a:Assume}{C:Checked}{os:Os}{f:FuncId}{fn:Func}{s:ChangeSpec}{conds:List PathCond}{apart fresh handsOn again:Bool}{X:World->Array Value->Prop}
  (bE:∀(w w':World) (args:Array Value),w.heap=w'.heap->X w args->X w' args)
  (own:ownKnob C.prog.godebug=none)(started:os.Started)(Uc:C.prog.inits.idxOf? f=none)(oh:C.prog.funcs[f]? =some fn)
  (witness:∃(w:World) (tape:Tape) (i:Input),w.os=os/\(w.forCall tape i).Shaped C.prog/\i.vars=[]/\Input.okWide C.prog (w.forCall tape i) .any w.heap.size f i/\
   ((s.pre enc C.prog fn conds apart (w.forCall tape i).memory i.args/\X (w.forCall tape i).memory i.args)/\sizedMet enc C.prog fn (OpenSpec.ofChange s) apart (w.forCall tape i).memory i.args)/\a.holds C.prog (lone (Frame.enter C.prog f i.args .normal) [] (w.forCall tape i)))
  (Ud:∀(W:World) (base:Nat) (args:Array Value) (ds gs:List (DataW H)) (before:List MemPlace),
   (∀(j:Nat) t v,fn.params[j]? =some t->args[j]? =some v->Value.okWide C.prog W .any base t v)->
   DataW.Whole enc C.prog fn.params.toList s.vars apart W args.toList ds gs before->
   (DataW.weightsEach C.prog (fn.params.toList++s.plain.varTypes C.prog) (ds++gs)).all (· <=reachBytes)=true->X W args->W.ShapedOpen C.prog->
   Calls C.prog f args W λe iK=>∃v,e=.returned v/\s.post enc C.prog fn apart fresh handsOn again W args v iK):
  ReturnsInHanded a C os f .any (λw args=>(s.pre enc C.prog fn conds apart w args/\X w args)/\sizedMet enc C.prog fn (OpenSpec.ofChange s) apart w args) (s.post enc C.prog fn apart fresh handsOn again):=by
 refine returnsInHanded_of_calls own started Uc witness ?_
 intro w tape i _ k1 _ dq Ue afM
 obtain⟨_,_,_,D9,Uf,_,_,_,_,l2⟩:=dq
 have e:D9=fn:=Option.some.inj (Uf.symm.trans oh)
 subst e
 obtain⟨⟨⟨ds,gs,before,hw,ag⟩,ab⟩,aW⟩:=Ue
 have Ug:=DataW.Whole.of_heap (w':=w.forCall tape i) (by rfl) hw
 refine(Ud (w.forCall tape i) w.heap.size i.args ds gs before l2 Ug (aW.weights hw) (bE _ _ _ (by rfl) ab) k1).mono λe iK ⟨v,he,aQ⟩=>?_
 subst he
 exact ChangeSpec.post_blind aQ
end
end bt
namespace bt
open Go Go.RowKit
mutual
def nx:I->Bool
 |.bool _=>true
 |.int _ _=>true
 |.str _=>true
 |.aZ=>true
 |.aS=>true
 |.ix=>true
 |.gb=>true
 |.e7=>true
 |.fn _ a b=>sK a&&sK b
 |.iface _ v=>nx v
 |.agg cs=>sK cs
 |.aO vs=>sK vs
 |_=>false
def sK:List I->Bool
 |[]=>true
 |v::vs=>nx v&&sK vs
end
mutual
theorem Fs{μ a0:bz}:∀(a:I) (v:Value),nx a=true->bp μ a v->bp a0 a v
 |.bool _,v,_,h=>h
 |.int _ _,v,_,h=>h
 |.str _,v,_,h=>h
 |.aZ,v,_,h=>h
 |.aS,v,_,h=>h
 |.ix,v,_,h=>h
 |.gb,v,_,h=>h
 |.e7,v,_,h=>h
 |.fn f a b,v,aj,h=>by
  simp only[nx,Bool.and_eq_true] at aj
  obtain⟨b0,cs,e,aa,ad⟩:=h
  exact⟨b0,cs,e,wh _ _ aj.1 aa,wh _ _ aj.2 ad⟩
 |.iface t x,v,aj,h=>by
  simp only[nx] at aj
  obtain⟨y,e,aa⟩:=h
  exact⟨y,e,Fs _ _ aj aa⟩
 |.agg cs,v,aj,h=>by
  simp only[nx] at aj
  obtain⟨l,e,aa⟩:=h
  exact⟨l,e,wh _ _ aj aa⟩
 |.aO cs,v,aj,h=>by
  simp only[nx] at aj
  obtain⟨l,e,aa⟩:=h
  exact⟨l,e,wh _ _ aj aa⟩
 |.bad,v,aj,h=>by simp[nx] at aj
 |.ptr _ _,v,aj,h=>by simp[nx] at aj
 |.slice _ _ _ _,v,aj,h=>by simp[nx] at aj
 |.map _,v,aj,h=>by simp[nx] at aj
 |.dt _,v,aj,h=>by simp[nx] at aj
theorem wh{μ a0:bz}:∀(as:List I) (vs:List Value),sK as=true->cm μ as vs->cm a0 as vs
 |[],vs,_,h=>h
 |a::as,vs,aj,h=>by
  simp only[sK,Bool.and_eq_true] at aj
  obtain⟨v,sA,e,aa,ad⟩:=h
  exact⟨v,sA,e,Fs a v aj.1 aa,wh as sA aj.2 ad⟩
end
structure rk where
 f:Nat
 args:List I
 v:I
def rl:List rk->Nat->List I->J->Option (I×J)
 |[],_,_,_=>none
 |e::T,f,args,h=>match Nat.beq f e.f with
  |true=>match I.n3 args e.args with
   |true=>some (e.v,h)
   |false=>rl T f args h
  |false=>rl T f args h
theorem KZ:∀(T:List rk) (f:Nat) (args:List I) (h:J) (v:I) (an:J),rl T f args h=some (v,an)->an=h/\∃e∈T,e.f=f/\e.args=args/\e.v=v
 |[],f,args,h,v,an,ab=>by cases ab
 |e::T,f,args,h,v,an,ab=>by
  simp only[rl] at ab
  have rest:rl T f args h=some (v,an)->an=h/\∃cI∈e::T,cI.f=f/\cI.args=args/\cI.v=v:=λab=>by
   obtain⟨aa,cI,ad,av⟩:=KZ T f args h v an ab
   exact⟨aa,cI,List.mem_cons_of_mem _ ad,av⟩
  split at ab
  · rename_i hf
    split at ab
    · rename_i aL
      cases ab
      exact⟨rfl,e,by simp,(Nat.eq_of_beq_eq_true hf).symm,(v9 _ _ aL).symm,rfl⟩
    · exact rest ab
  · exact rest ab
section
variable {P:Program}
def Ft(P:Program)(intr:Nat->List I->J->Option (I×J))(n:Nat)(e:rk):Bool:=
 match fp P intr n (.fn e.f) e.args (r8 P.globals.size) with
 |.ret v _=>I.beq v e.v&&nx e.v&&sK e.args
 |_=>false
def uk(P:Program)(e:rk):Prop:=∃(intr:Nat->List I->J->Option (I×J)) (n:Nat),om P intr/\Ft P intr n e=true
theorem tV.mono{f:FuncId}{vs:List Value}{w:World}{R um:Ending->World->Prop}(h:∀e w',R e w'->um e w')(al:tV P f vs w R):tV P f vs w um:=by
 rcases al with⟨v,w',aa,ad⟩|⟨aa,ad⟩
 · exact .inl ⟨v,w',aa,h _ _ ad⟩
 · exact .inr ⟨aa,ad.mono λe w' he=>h e w' he⟩
theorem K0(hf:Fit P){T:List rk}(o8:∀e∈T,uk P e):om P (rl T):=by
 intro f args H v aX ab μ w vs ak al aD
 obtain⟨rfl,e,he,rfl,rfl,rfl⟩:=KZ T f args H v aX ab
 obtain⟨intr,n,af,ae⟩:=o8 e he
 unfold Ft at ae
 split at ae
 · rename_i v1 H1 e6
   simp only[Bool.and_eq_true] at ae
   obtain⟨⟨hb,ec⟩,y9⟩:=ae
   have Uh:=beq_eq _ _ hb
   subst Uh
   have jg:P.globals.size<=w.heap.size:=by
    cases bA:P.globals.size with
    |zero=>exact Nat.zero_le _
    |succ g=>
     obtain⟨i,aa,ad,av⟩:=al g (by omega)
     have:=(ak.lt _ i aa).2
     omega
   obtain⟨s1,s2,bN⟩:=T4 (P:=P) jg
   have je:=(Fm hf af n).fn e.f e.args (r8 P.globals.size) (by rw[e6];rfl) (y8 P.globals.size) w vs s1 s2 (wh _ _ y9 aD)
   rw[e6] at je
   refine je.mono λog w' p7=>?_
   obtain⟨a0,u,rfl,ba,a1,b7⟩:=p7
   have hold:∀r,r<w.heap.size->w'.heap[r]? =w.heap[r]? :=λr aj=>b7.old r aj λb i aw=>absurd rfl aw
   refine⟨μ,u,rfl,Fs _ _ ec ba,⟨λb o i ae af=>(ak.rel b o i ae af).mono (fi.refl μ) (hold _ (ak.lt b i af).2),ak.inj,λb i af=>⟨(ak.lt b i af).1,Nat.lt_of_lt_of_le (ak.lt b i af).2 b7.size⟩,ak.bound⟩,?_⟩
   exact⟨fi.refl μ,b7.size,Nat.le_refl _,λ_ _ aw=>aw,λ_ _ _=>rfl,λr aj _=>hold r aj,(λb i aa ad=>by rw[aa] at ad;cases ad),λb o i ae _ af=>⟨ae,hold _ (ak.lt b i af).2⟩,b7.os,b7.out,b7.tape,b7.drawn⟩
 · cases ae
def y_(P:Program):List rk->Prop
 |[]=>True
 |e::T=>uk P e/\y_ P T
theorem y_.ok:∀{T:List rk},y_ P T->∀e∈T,uk P e
 |[],_,e,he=>by cases he
 |x::T,h,e,he=>by
  rcases List.mem_cons.1 he with rfl|he
  · exact h.1
  · exact y_.ok h.2 e he
theorem K1(hf:Fit P){T:List rk}(o8:y_ P T){n:Nat}{e:rk}(h:Ft P (rl T) n e=true):uk P e:=⟨rl T,n,K0 hf o8.ok,h⟩
end
end bt
namespace bt
open Go
def rm(G:Nat)(is:List eX):bz:=λb=>if b<G then some ⟨b,0,0⟩ else is[b-G]?
def wi(h:J)(r:List I×Nat):J:=h.push (.cells r.1 r.2 .ro 0 0)
def uo(G:Nat)(rows:List (List I×Nat)):J:=rows.foldl wi (r8 G)
theorem Fu:∀(rows:List (List I×Nat)) (h:J),(∀b,h.n<=b->h.get b=none)->(rows.foldl wi h).n=h.n+rows.length/\∀b,(rows.foldl wi h).get b=if b<h.n then h.get b else(rows[b-h.n]?).map λr=>.cells r.1 r.2 .ro 0 0
 |[],h,ae=>⟨rfl,λb=>by
  split
  · rfl
  · rename_i aN;simpa using ae b (by omega)⟩
 |r::rows,h,ae=>by
  have aN:(wi h r).n=h.n+1:=rfl
  have al:∀b,(wi h r).get b=if b=h.n then some (.cells r.1 r.2 .ro 0 0) else h.get b:=λb=>J.gD _ _ _
  obtain⟨ba,a1⟩:=Fu rows (wi h r) λb aa=>by rw[al,if_neg (by omega)];exact ae b (by omega)
  refine⟨by rw[List.foldl_cons,ba,aN,List.length_cons];omega,λb=>?_⟩
  rw[List.foldl_cons,a1,aN,al]
  by_cases aa:b<h.n
  · rw[if_pos (by omega),if_neg (by omega),if_pos aa]
  · rw[if_neg aa]
    by_cases ad:b=h.n
    · subst ad;rw[if_pos (by omega),if_pos rfl,Nat.sub_self];rfl
    · rw[if_neg (by omega)]
      obtain⟨k,rfl⟩:∃k,b=h.n+(k+1):=⟨b-h.n-1,by omega⟩
      have aA:h.n+(k+1)-(h.n+1)=k:=by omega
      have ax:h.n+(k+1)-h.n=k+1:=by omega
      rw[aA,ax];rfl
theorem Fv(G:Nat)(rows:List (List I×Nat)):(uo G rows).n=G+rows.length:=(Fu rows (r8 G) λ_ _=>rfl).1
theorem Fw(G:Nat)(rows:List (List I×Nat))(b:Nat):(uo G rows).get b=if b<G then none else(rows[b-G]?).map λr=>.cells r.1 r.2 .ro 0 0:=(Fu rows (r8 G) λ_ _=>rfl).2 b
def Fx(W:World)(i:eX)(cs:List I)(el:Nat):Prop:=∃c fz,W.heap[i.bo]? =some (.cells c el fz)/\(∀μ,A5 μ cs c i.base)/\i.base+i.size=c.size
theorem Ui{P:Program}{l:List (eX×List I×Nat)}{k:Nat}{x:eX×List I×Nat}(h:l[k]? =some x):rm P.globals.size (l.map (·.1)) (P.globals.size+k)=some x.1:=by
 unfold rm
 rw[if_neg (by omega),Nat.add_sub_cancel_left,List.getElem?_map,h];rfl
theorem Uj{P:Program}{l:List (eX×List I×Nat)}{k:Nat}{x:eX×List I×Nat}(h:l[k]? =some x):(uo P.globals.size (l.map (·.2))).get (P.globals.size+k)=some (.cells x.2.1 x.2.2 .ro 0 0):=by
 rw[Fw,if_neg (by omega),Nat.add_sub_cancel_left,List.getElem?_map,h];rfl
end bt
namespace bt
open Go
end bt
