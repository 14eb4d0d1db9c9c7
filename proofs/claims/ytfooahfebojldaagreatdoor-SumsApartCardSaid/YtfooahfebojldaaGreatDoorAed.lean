/-
  THE ABSTRACT EVALUATOR (drawn regions; a run of the evaluator is a run of the program): a deterministic semantics of loaded code, and the proof that its runs are runs of the program in the model, whatever the tape draws. No condition.
-/
import Derived.Test.YtfooahfebojldaaGreatDoorAec
import Derived.Handed
import Derived.ProofKit
import Derived.Below
import Derived.ChangeSame
import Derived.SliceStrings
import Derived.WideShapes
set_option linter.unusedVariables false
set_option linter.unusedSimpArgs false
namespace aw
open Go
structure gq where
 P:Program
 need:Nat
 b4:Nat
 inR:Bool
 call:aP->List I->J->av
 ops:Array Oper
 r:aL
 b:Frame
 lh:a8
 H:J
 hQ:World
 cs0:List Frame
 N:Nat
 f:Nat->rN
def gq.steps(X:gq):List DStep:=ev X.ops.toList 0 [] []
def gq.val(X:gq)(j:Nat):I:=(nth (X.N-1-j) (X.f X.N).env).getD .bad
structure e8(X:gq):Prop where
 ag:kH X.P X.call
 cJ:X.inR=X.b.roundOf.isSome
 nS:∀o∈X.ops.toList,∀t,o.dst=some t->t<X.b4
 hdr:oI X.ops X.steps=true
 hA:X.N<=X.ops.size
 rP:∀k s,k<X.N->X.steps[k]? =some s->rO X.P X.need X.inR X.call X.ops X.r X.H.n s (X.f k) (X.f (k+1))
 Of:(X.f 0).env=[]
 qp:(X.f 0).aY=[]
 looks:∀i s,i<X.N->X.steps[i]? =some s->kindOf X.P s.o.op=.pure->∃dn,jB X.P X.need X.ops X.r X.N (X.f X.N).env s (X.val i) dn (X.f X.N).h (X.f X.N).aY=true/\(∀e,dn=some e->e=X.N/\X.N<X.ops.size)
 last:∀s,X.steps[X.N]? =some s->kindOf X.P s.o.op=.dI/\(∀e m h0 l,(X.f X.N).aY=(e,m,h0)::l->Nat.testBit s.ek e=true)/\∀k bo,X.N<k->X.steps[k]? =some bo->Nat.testBit bo.ek s.i=true
 nO:gp X.P X.lh
 yz:bc X.lh X.H X.hQ
section
variable {X:gq}
theorem e8.kK(bf:e8 X){i:Nat}(ae:i<X.ops.size):∃s,X.steps[i]? =some s/\s.i=i/\X.ops[i]? =some s.o/\s.loc=hr (X.ops.toList.take i) 0 []/\Sound X.ops i s.ek:=by
 have a2:X.ops.toList[i]? =some X.ops[i]:=by simp[ae]
 obtain⟨s,aa,ad,ar,aM,bS⟩:=vW (ops:=X.ops) X.ops.toList 0 [] [] (λk=>by simp) (tB bf.hdr) (λj aD=>by omega) i _ a2
 refine⟨s,aa,by omega,by rw[ar];exact Array.getElem?_eq_getElem ae,aM,by simpa using bS⟩
theorem e8.j7(bf:e8 X){i:Nat}{s:DStep}(h:X.steps[i]? =some s):i<X.ops.size/\s.i=i/\X.ops[i]? =some s.o/\s.loc=hr (X.ops.toList.take i) 0 []/\Sound X.ops i s.ek:=by
 have ae:i<X.ops.size:=by
  have aa:=(List.getElem?_eq_some_iff.1 h).1
  rw[gq.steps,Bu] at aa
  simpa using aa
 obtain⟨bo,aa,ad⟩:=bf.kK ae
 rw[h] at aa;cases aa
 exact⟨ae,ad⟩
theorem e8.apart(bf:e8 X){i j:Nat}{s bo:DStep}(qo:i<j)(aa:X.steps[i]? =some s)(ad:X.steps[j]? =some bo)(h:(∃t,s.o.dst=some t/\t∈kx X.ops bo.o)\/(∃t,bo.o.dst=some t/\t∈kx X.ops s.o)):Nat.testBit bo.ek i=true:=by
 have:=Gs bf.hdr i j s bo qo aa ad h
 rw[(bf.j7 aa).2.1] at this;exact this
theorem e8.yA(bf:e8 X):∀k,k<=X.N->(X.f k).env.length=k
 |0,_=>by rw[bf.Of];rfl
 |k+1,aq=>by
  obtain⟨s,aa,_⟩:=bf.kK (i:=k) (by have:=bf.hA;omega)
  have bg:=bf.yA k (by omega)
  have aQ:=bf.rP k s (by omega) aa
  generalize X.f (k+1)=st at aQ
  cases aQ<;>simp[bg]
theorem e8.Gu(bf:e8 X)(k:Nat):∀m,k<=m->m<=X.N->∃l,(X.f m).env=l++(X.f k).env
 |0,aa,ad=>⟨[],by obtain rfl:k=0:=by omega
                  rfl⟩
 |m+1,aa,ad=>by
  by_cases e:k=m+1
  · exact⟨[],by rw[e];rfl⟩
  · obtain⟨l,an⟩:=bf.Gu k m (by omega) (by omega)
    obtain⟨s,hs,_⟩:=bf.kK (i:=m) (by have:=bf.hA;omega)
    have aQ:=bf.rP m s (by omega) hs
    have:∃v,(X.f (m+1)).env=v::(X.f m).env:=by
     generalize X.f (m+1)=st at aQ
     cases aQ<;>exact⟨_,rfl⟩
    obtain⟨v,aB⟩:=this
    exact⟨v::l,by rw[aB,an];rfl⟩
theorem Gv{α:Type}:∀(l m:List α) (k:Nat),nth (l.length+k) (l++m)=nth k m
 |[],m,k=>by simp
 |a::l,m,k=>by
  have:(a::l).length+k=(l.length+k)+1:=by simp;omega
  rw[this];exact Gv l m k
theorem e8.Bw(bf:e8 X){k j:Nat}(aq:k<=X.N)(aD:j<k):nth (k-1-j) (X.f k).env=nth (X.N-1-j) (X.f X.N).env:=by
 obtain⟨l,an⟩:=bf.Gu k X.N aq (Nat.le_refl _)
 have aa:=bf.yA k aq
 have ad:=bf.yA X.N (Nat.le_refl _)
 rw[an] at ad⊢
 simp only[List.length_append,aa] at ad
 have:X.N-1-j=l.length+(k-1-j):=by omega
 rw[this,Gv]
theorem e8.yB(bf:e8 X){k:Nat}(aq:k<X.N){v:I}(h:(X.f (k+1)).env=v::(X.f k).env):X.val k=v:=by
 have aa:=bf.Bw (k:=k+1) (j:=k) aq (Nat.lt_succ_self k)
 unfold gq.val
 rw[<-aa,h]
 simp[nth]
theorem e8.Gw(bf:e8 X){k:Nat}(aq:k<=X.N){a:Acc}(aX:a.below k):dk k (X.f k).env X.r a=dk X.N (X.f X.N).env X.r a:=by
 cases a with
 |env j=>simp only[dk];rw[bf.Bw aq aX]
 |jS p=>rfl
 |val v=>rfl
theorem vX(l:List Oper)(t:Nat):∀k,k<=l.length->
  (∀a,hd t (hr (l.take k) 0 [])=some a->∃j o,j<k/\a=.env j/\l[j]? =some o/\o.dst=some t/\∀ir o',j<ir->ir<k->l[ir]? =some o'->o'.dst≠some t)/\
  (hd t (hr (l.take k) 0 [])=none->∀j o,j<k->l[j]? =some o->o.dst≠some t)
 |0,_=>⟨λa h=>by simp[hr,hd] at h,λ_ j o aD=>by omega⟩
 |k+1,aq=>by
  obtain⟨yC,yD⟩:=vX l t k (by omega)
  have a2:l[k]? =some l[k]:=List.getElem?_eq_getElem (by omega)
  rw[Gq l 0 [] k l[k] a2,Nat.zero_add]
  unfold kt
  cases az:(l[k]).dst with
  |none=>
   refine⟨λa h=>?_,λh j o aD la=>?_⟩
   · obtain⟨j,o,aa,ad,ar,aM,bS⟩:=yC a h
     refine⟨j,o,by omega,ad,ar,aM,λir o' aR a3 ck=>?_⟩
     by_cases e:ir=k
     · subst e;rw[a2] at ck;cases ck;rw[az];simp
     · exact bS ir o' aR (by omega) ck
   · by_cases e:j=k
     · subst e;rw[a2] at la;cases la;rw[az];simp
     · exact yD h j o (by omega) la
  |some d=>
   simp only[mS]
   by_cases e:t=d
   · subst e
     refine⟨λa h=>?_,λh=>by simp at h⟩
     simp at h;subst h
     exact⟨k,_,by omega,rfl,a2,az,λir o' aR a3=>by omega⟩
   · simp only[e,if_false]
     refine⟨λa h=>?_,λh j o aD la=>?_⟩
     · obtain⟨j,o,aa,ad,ar,aM,bS⟩:=yC a h
       refine⟨j,o,by omega,ad,ar,aM,λir o' aR a3 ck=>?_⟩
       by_cases ax:ir=k
       · subst ax;rw[a2] at ck;cases ck;rw[az];simp;exactλcx=>e cx.symm
       · exact bS ir o' aR (by omega) ck
     · by_cases ax:j=k
       · subst ax;rw[a2] at la;cases la;rw[az];simp;exactλcx=>e cx.symm
       · exact yD h j o (by omega) la
def gq.rQ(X:gq)(S:List Nat)(μ:a8)(bU:Array Value):Prop:=∀t,
 (∀j o,j∈S->X.ops[j]? =some o->o.dst=some t->(∀k o',k∈S->X.ops[k]? =some o'->o'.dst=some t->k<=j)->a1 μ (X.val j) (bU.getD t undef))/\
 ((∀j o,j∈S->X.ops[j]? =some o->o.dst≠some t)->Nat.testBit X.need t=true->a1 μ (X.r.get (fV t)) (bU.getD t undef))
theorem gq.rQ.mono{S:List Nat}{μ aH:a8}{bU:Array Value}(hle:en μ aH)(h:X.rQ S μ bU):X.rQ S aH bU:=λt=>⟨λj o aa ad ar aM=>((h t).1 j o aa ad ar aM).mono hle,λaa ad=>((h t).2 aa ad).mono hle⟩
theorem e8.Gx(bf:e8 X){S:List Nat}(fj:yy X.ops S){μ:a8}{bU:Array Value}(ai:X.rQ S μ bU){i:Nat}(ae:i<=X.N)(dv:i∉S)(cL:jE X.ops S i){s:DStep}(hs:X.steps[i]? =some s){t:Nat}(aQ:t∈kx X.ops s.o):
  a1 μ (dk i (X.f i).env X.r (cw X.P X.need s.loc (.tmp t))) (bU.getD t undef):=by
 obtain⟨cJ,gI,eR,lj,kL⟩:=bf.j7 hs
 obtain⟨f1,f2⟩:=vX X.ops.toList t i (by simp;omega)
 have Gy:∀k o',k∈S->X.ops[k]? =some o'->o'.dst=some t->k<i:=λk o' aq g4 az=>by
  have tD:k<X.ops.size:=(Array.getElem?_eq_some_iff.1 g4).1
  rcases Nat.lt_trichotomy k i with h|h|h
  · exact h
  · subst h;exact absurd aq dv
  · obtain⟨bo,aR,a3,ck,mP,oN⟩:=bf.kK tD
    rw[g4] at ck;cases ck
    have:=bf.apart h hs aR (.inr ⟨t,az,aQ⟩)
    exact absurd (oN S fj (fj k aq) i this) dv
 simp only[cw,lj]
 cases hf:hd t (hr (X.ops.toList.take i) 0 []) with
 |some a=>
  obtain⟨j,o,aD,rfl,la,az,pX⟩:=f1 a hf
  have Gz:X.ops[j]? =some o:=by simpa using la
  obtain⟨bo,aR,a3,ck,mP,oN⟩:=bf.kK (i:=j) (by omega)
  rw[Gz] at ck;cases ck
  have Bx:j∈S:=kL S fj cL j (bf.apart aD aR hs (.inl ⟨t,az,aQ⟩))
  have:=(ai t).1 j _ Bx Gz az λk o' aq g4 ld=>by
   have Og:=Gy k o' aq g4 ld
   rcases Nat.lt_or_ge j k with h|h
   · exact absurd ld (pX k o' h Og (by simpa using g4))
   · exact h
  have aB:dk i (X.f i).env X.r (.env j)=X.val j:=by
   simp only[dk,gq.val]
   rw[bf.Bw ae aD]
  simp only[aB];exact this
 |none=>
  simp only[]
  cases af:Nat.testBit X.need t with
  |false=>trivial
  |true=>
   exact(ai t).2 (λj o aD a2 az=>f2 hf j o (Gy j o aD a2 az) (by simpa using a2) az) af
theorem e8.GA(bf:e8 X){S:List Nat}(fj:yy X.ops S){μ:a8}{a:Act}(br:a.tmps.size=X.b4)(ai:X.rQ S μ a.tmps){i:Nat}(dv:i∉S)(cL:jE X.ops S i){s:DStep}(hs:X.steps[i]? =some s){u:Value}(hu:a1 μ (X.val i) u):
  X.rQ (i::S) μ (a.put s.o.dst u).tmps:=by
 obtain⟨cJ,gI,eR,lj,kL⟩:=bf.j7 hs
 have cj:∀t,s.o.dst=some t->t<a.tmps.size:=λt h=>by
  rw[br];exact bf.nS s.o (by rw[<-Array.getElem?_toList] at eR;exact List.mem_of_getElem? eR) t h
 intro t
 by_cases az:s.o.dst=some t
 · have eV:(a.put s.o.dst u).tmps.getD t undef=u:=by
     rw[az];simp only[Act.put];rw[vJ (cj t az),if_pos rfl]
   have Oh:∀k o',k∈S->X.ops[k]? =some o'->o'.dst=some t->k<i:=λk o' aq g4 ld=>by
    have tD:k<X.ops.size:=(Array.getElem?_eq_some_iff.1 g4).1
    rcases Nat.lt_trichotomy k i with h|h|h
    · exact h
    · subst h;exact absurd aq dv
    · obtain⟨bo,aR,a3,ck,mP,oN⟩:=bf.kK tD
      rw[g4] at ck;cases ck
      have:=bf.apart h hs aR (.inr ⟨t,ld,by simp[kx,az]⟩)
      exact absurd (oN S fj (fj k aq) i this) dv
   refine⟨λj o aD a2 yE vC=>?_,λrR=>absurd az (rR i s.o (by simp) eR)⟩
   have qo:=vC i s.o (by simp) eR az
   rcases List.mem_cons.1 aD with rfl|aD
   · rw[eV];exact hu
   · have:=Oh j o aD a2 yE;omega
 · have eV:(a.put s.o.dst u).tmps.getD t undef=a.tmps.getD t undef:=by
     cases GB:s.o.dst with
     |none=>rfl
     |some d=>
      simp only[Act.put]
      rw[vJ (cj d GB),if_neg (λe=>az (by rw[GB,e]))]
   rw[eV]
   refine⟨λj o aD a2 yE vC=>?_,λrR af=>(ai t).2 (λj o aD a2=>rR j o (by simp[aD]) a2) af⟩
   rcases List.mem_cons.1 aD with rfl|aD
   · rw[eR] at a2;cases a2;exact absurd yE az
   · exact(ai t).1 j o aD a2 yE λk o' aq g4 ld=>vC k o' (by simp[aq]) g4 ld
def oW(μ:a8)(w:World)(b:Nat)(ob:ca):Prop:=∃i O,μ b=some i/\w.heap[i.a5]? =some O/\(∀aH w',en μ aH->w'.heap[i.a5]? =some O->lU aH ob i w')/\(∀c j,c≠b->μ c=some j->j.a5≠i.a5)
theorem bc.By{μ:a8}{H:J}{w:World}(h:bc μ H w){b:Nat}{ob:ca}(af:b<H.n)(a6:μ b=none\/oW μ w b ob):bc μ (H.set b (some ob)) w:=by
 refine⟨λc o i ag ae=>?_,λc d i j ag az ae aD e=>?_,λc i ae=>h.lt c i ae,λc ag=>?_⟩
 · rw[J.bL] at ag
   by_cases e:c=b
   · subst e
     rw[if_pos rfl] at ag;cases ag
     rcases a6 with a6|⟨jm,O,aa,ad,ar,aM⟩
     · rw[a6] at ae;cases ae
     · rw[aa] at ae;cases ae
       exact ar μ w (en.refl μ) ad
   · rw[if_neg e] at ag;exact h.rel c o i ag ae
 · rw[J.bL] at ag az
   by_cases aC:c=b
   · by_cases ax:d=b
     · rw[aC,ax]
     · subst aC
       rcases a6 with a6|⟨jm,O,aa,ad,ar,aM⟩
       · rw[a6] at ae;cases ae
       · rw[aa] at ae;cases ae
         exact absurd e.symm (aM d j ax aD)
   · by_cases ax:d=b
     · subst ax
       rcases a6 with a6|⟨jm,O,aa,ad,ar,aM⟩
       · rw[a6] at aD;cases aD
       · rw[aa] at aD;cases aD
         exact absurd e (aM c i aC ae)
     · rw[if_neg aC] at ag;rw[if_neg ax] at az
       exact h.inj c d i j ag az ae aD e
 · rw[J.bL,if_neg (by simp at ag;omega)];exact h.bound c (by simpa using ag)
theorem bO.By{lh μ:a8}{H vY:J}{hQ w:World}(ah:bc lh H hQ)(h:bO lh H hQ μ vY w){b:Nat}(ob:ca)(af:H.n<=b):bO lh H hQ μ (vY.set b (some ob)) w where
 le:=h.le
 size:=h.size
 n:=by simpa using h.n
 live:=λc ag an=>h.live c ag (by rw[J.bL,if_neg (by omega)] at an;exact an)
 idle:=λc ag hm=>by rw[J.bL,if_neg (by omega)];exact h.idle c ag hm
 old:=h.old
 new:=h.new
 ro:=λc o i ag ai ae=>by
  have:=(ah.lt c i ae).1
  rw[J.bL,if_neg (by omega)];exact h.ro c o i ag ai ae
 os:=h.os
 out:=h.out
 tape:=h.tape
 drawn:=h.drawn
theorem bc.early{μ:a8}{H:J}{w:World}(h:bc μ H w){b:Nat}{ob:ca}{O:Obj}{sz:Nat}(af:b<H.n)(hm:μ b=none)(a2:∀o,H.get b=some o->o=ob)
  (Oi:∀aH w',en μ aH->w'.heap[w.heap.size]? =some O->lU aH ob ⟨w.heap.size,0,sz⟩ w'):en μ (fr μ b ⟨w.heap.size,0,sz⟩)/\bc (fr μ b ⟨w.heap.size,0,sz⟩) H (w.alloc O):=by
 have hle:en μ (fr μ b ⟨w.heap.size,0,sz⟩):=λc i ae=>by
  rw[gh];exact ae
  intro e;subst e;rw[hm] at ae;cases ae
 have hold:∀r,r<w.heap.size->(w.alloc O).heap[r]? =w.heap[r]? :=λr ai=>by
  simp only[World.alloc,Array.getElem?_push];rw[if_neg (by omega)]
 refine⟨hle,λc o i ag ae=>?_,λc d i j ag az ae aD e=>?_,λc i ae=>?_,h.bound⟩
 · by_cases e:c=b
   · subst e
     rw[fs] at ae;cases ae
     rw[a2 o ag]
     exact Oi _ _ hle (World.heap_alloc_new _ _)
   · rw[gh _ _ e] at ae
     exact(h.rel c o i ag ae).mono hle (hold _ (h.lt c i ae).2)
 · by_cases aC:c=b
   · by_cases ax:d=b
     · rw[aC,ax]
     · subst aC;rw[fs] at ae;cases ae
       rw[gh _ _ ax] at aD
       have:=(h.lt d j aD).2
       simp only at e;omega
   · by_cases ax:d=b
     · subst ax;rw[fs] at aD;cases aD
       rw[gh _ _ aC] at ae
       have:=(h.lt c i ae).2
       simp only at e;omega
     · rw[gh _ _ aC] at ae;rw[gh _ _ ax] at aD
       exact h.inj c d i j ag az ae aD e
 · by_cases e:c=b
   · subst e;rw[fs] at ae;cases ae
     exact⟨af,by simp⟩
   · rw[gh _ _ e] at ae
     have:=h.lt c i ae
     simp only[World.size_alloc];omega
theorem bO.early{lh μ:a8}{H vY:J}{hQ w:World}(ah:bc lh H hQ)(h:bO lh H hQ μ vY w){b:Nat}(af:H.n<=b)(hm:μ b=none){O:Obj}{sz:Nat}:bO lh H hQ (fr μ b ⟨w.heap.size,0,sz⟩) vY (w.alloc O):=by
 have hold:∀r,r<w.heap.size->(w.alloc O).heap[r]? =w.heap[r]? :=λr ai=>by
  simp only[World.alloc,Array.getElem?_push];rw[if_neg (by omega)]
 exact{
  le:=λc i ae=>by
   have aa:=h.le c i ae
   rw[gh];exact aa
   intro e;subst e;rw[hm] at aa;cases aa
  size:=by have:=h.size;simp only[World.size_alloc];omega
  n:=h.n
  live:=h.live
  idle:=h.idle
  old:=λr ai aG=>(hold r (Nat.lt_of_lt_of_le ai h.size)).trans (h.old r ai aG)
  new:=λc i aa ad=>by
   by_cases e:c=b
   · subst e;rw[fs] at ad;cases ad;exact⟨af,.inl h.size⟩
   · rw[gh _ _ e] at ad;exact h.new c i aa ad
  ro:=λc o i ag ai ae=>by
   obtain⟨aa,ad⟩:=h.ro c o i ag ai ae
   exact⟨aa,(hold _ (Nat.lt_of_lt_of_le (ah.lt c i ae).2 h.size)).trans ad⟩
  os:=h.os
  out:=h.out
  tape:=h.tape
  drawn:=h.drawn}
theorem oW.early{μ:a8}{H:J}{w:World}(h:bc μ H w){b c:Nat}{ob:ca}{O:Obj}{sz:Nat}(hm:μ b=none)(a6:oW μ w c ob):oW (fr μ b ⟨w.heap.size,0,sz⟩) (w.alloc O) c ob:=by
 obtain⟨i,Bz,aa,ad,ar,aM⟩:=a6
 have df:c≠b:=by intro e;subst e;rw[hm] at aa;cases aa
 have cj:=(h.lt c i aa).2
 have hle:en μ (fr μ b ⟨w.heap.size,0,sz⟩):=λc i ae=>by
  rw[gh];exact ae
  intro e;subst e;rw[hm] at ae;cases ae
 refine⟨i,Bz,by rw[gh _ _ df];exact aa,?_,λaH w' an oX=>ar aH w' (hle.trans an) oX,λd j az aD=>?_⟩
 · simp only[World.alloc,Array.getElem?_push];rw[if_neg (by omega)];exact ad
 · by_cases e:d=b
   · subst e;rw[fs] at aD;cases aD;simp only;omega
   · rw[gh _ _ e] at aD;exact aM d j az aD
theorem oW.nY{μ aH:a8}{H aO:J}{w w':World}(ah:bc μ H w)(aX:bO μ H w aH aO w'){c:Nat}{ob:ca}(aj:H.get c=none)(a6:oW μ w c ob):oW aH w' c ob:=by
 obtain⟨i,Bz,aa,ad,ar,aM⟩:=a6
 have cj:=(ah.lt c i aa).2
 refine⟨i,Bz,aX.le _ _ aa,?_,λxU cC an oX=>ar xU cC (aX.le.trans an) oX,λd j az aD=>?_⟩
 · rw[aX.old i.a5 cj]
   · exact ad
   · intro d j an aD
     exact aM d j (λe=>by subst e;exact an aj) aD
 · cases oS:μ d with
   |some Oj=>
    have:=aX.le d Oj oS
    rw[aD] at this;cases this
    exact aM d j az oS
   |none=>
    obtain⟨_,aG|⟨e,o,k,he,_,aq,BA⟩⟩:=aX.new d j oS aD
    · omega
    · rw[<-BA]
      exact aM e k (λcx=>by subst cx;rw[aj] at he;cases he) aq
end
end aw
namespace aw
open Go
section
variable {X:gq}
def qq(X:gq)(i:Nat)(s:DStep)(v:I)(ob:ca):Prop:=
 i<X.N/\kindOf X.P s.o.op=.alloc/\dO (fL X.P X.need X.ops X.r s.i (X.f i).env s)=some true/\iN X.P s.o.op (kJ X.P X.need X.r s (X.f i).env) (X.H.n+i)=some (v,ob)
structure Inv(X:gq)(S:List Nat)(c:Nat)(μ:a8)(w:World)(a:Act)(cs:List Frame):Prop where
 ag:c<=X.N
 closed:yy X.ops S
 sub:∀i∈S,i<X.N
 dI:∀i s,X.steps[i]? =some s->i<X.N->kindOf X.P s.o.op=.dI->(i∈S<->i<c)
 rel:bc μ (X.f c).h w
 nY:bO X.lh X.H X.hQ μ (X.f c).h w
 tE:fI μ (X.f c).d a.defers
 qr:g3 μ X.b.kind X.cs0 (X.f c).q cs
 dJ:∀i,i<X.ops.size->i∉S->μ (X.H.n+i)=none
 lay:∀i s v ob,X.steps[i]? =some s->qq X i s v ob->i∉S->i<c->(X.f c).h.get (X.H.n+i)=some ob
 mW:∀i,c<=i->i<X.ops.size->(X.f c).h.get (X.H.n+i)=none
 rS:X.H.n+X.ops.size<=(X.f c).h.n
 fa:∀i s v ob,X.steps[i]? =some s->qq X i s v ob->i∈S->c<=i->oW μ w (X.H.n+i) ob
 k5:X.rQ S μ a.tmps
 sz:a.tmps.size=X.b4
theorem Inv.pass(bf:e8 X){S:List Nat}{c:Nat}{μ:a8}{w:World}{a:Act}{cs:List Frame}(h:Inv X S c μ w a cs)(cj:c<X.N){s:DStep}(hs:X.steps[c]? =some s)(aq:kindOf X.P s.o.op≠ .dI):Inv X S (c+1) μ w a cs:=by
 obtain⟨cJ,gI,eR,lj,kL⟩:=bf.j7 hs
 have aQ:=bf.rP c s cj hs
 have GC:∀i bo,X.steps[i]? =some bo->i<X.N->kindOf X.P bo.o.op=.dI->(i∈S<->i<c+1):=λi bo aa ad ar=>by
  rw[h.dI i bo aa ad ar]
  have:i≠c:=by intro e;subst e;rw[hs] at aa;cases aa;exact aq ar
  omega
 have same:(X.f (c+1)).h=(X.f c).h->(X.f (c+1)).d=(X.f c).d->(X.f (c+1)).q=(X.f c).q->(∀v ob,¬qq X c s v ob)->Inv X S (c+1) μ w a cs:=λaC ax bp Ok=>by
  refine⟨cj,h.closed,h.sub,GC,by rw[aC];exact h.rel,by rw[aC];exact h.nY,by rw[ax];exact h.tE,by rw[bp];exact h.qr,h.dJ,λi bo v ob aa ad ar aM=>?_,λi aa ad=>(by rw[aC];exact h.mW i (by omega) ad),by rw[aC];exact h.rS,λi bo v ob aa ad ar aM=>h.fa i bo v ob aa ad ar (by omega),h.k5,h.sz⟩
  by_cases e:i=c
  · subst e;rw[hs] at aa;cases aa;exact absurd ad (Ok v ob)
  · rw[aC];exact h.lay i bo v ob aa ad ar (by omega)
 generalize hf:X.f (c+1)=st at aQ
 cases aQ with
 |tC eP hw=>
  refine same (by rw[hf]) (by rw[hf]) (by rw[hf]) λv ob hB=>?_
  have:=hB.2.2.1
  rw[hw] at this;cases this
 |pure eP he=>
  refine same (by rw[hf]) (by rw[hf]) (by rw[hf]) λv ob hB=>?_
  have:=hB.2.1
  rw[eP] at this;cases this
 |dI eP a2 he=>exact absurd eP aq
 |alloc eP hw aX=>
  rename_i v ob
  have aC:(X.f (c+1)).h=(X.f c).h.set (X.H.n+c) (some ob):=by rw[hf,gI]
  have ax:(X.f (c+1)).d=(X.f c).d:=by rw[hf]
  have bp:(X.f (c+1)).q=(X.f c).q:=by rw[hf]
  have hB:qq X c s v ob:=⟨cj,eP,hw,by rw[<-gI];rw[<-gI] at aX;exact aX⟩
  have af:X.H.n+c<(X.f c).h.n:=by have:=h.rS;omega
  have a6:μ (X.H.n+c)=none\/oW μ w (X.H.n+c) ob:=by
   by_cases GD:c∈S
   · exact .inr (h.fa c s v ob hs hB GD (Nat.le_refl _))
   · exact .inl (h.dJ c cJ GD)
  refine⟨cj,h.closed,h.sub,GC,by rw[aC];exact h.rel.By af a6,by rw[aC];exact h.nY.By bf.yz ob (by omega),by rw[ax];exact h.tE,by rw[bp];exact h.qr,h.dJ,λi bo v' BB aa ad ar aM=>?_,λi aa ad=>?_,by rw[aC];simpa using h.rS,λi bo v ob aa ad ar aM=>h.fa i bo v ob aa ad ar (by omega),h.k5,h.sz⟩
  · rw[aC,J.bL]
    by_cases e:i=c
    · subst e
      rw[hs] at aa;cases aa
      have:=ad.2.2.2.symm.trans hB.2.2.2
      cases this
      rw[if_pos rfl]
    · rw[if_neg (by omega)];exact h.lay i bo v' BB aa ad ar (by omega)
  · rw[aC,J.bL,if_neg (by omega)]
    exact h.mW i (by omega) ad
def Norm(X:gq)(c:Nat):Prop:=c=X.N\/∃s,X.steps[c]? =some s/\kindOf X.P s.o.op=.dI
theorem Inv.norm(bf:e8 X){S:List Nat}{μ:a8}{w:World}{a:Act}{cs:List Frame}:∀(k c:Nat),X.N-c=k->Inv X S c μ w a cs->∃c',Norm X c'/\Inv X S c' μ w a cs
 |0,c,aq,h=>⟨c,.inl (by have:=h.ag;omega),h⟩
 |k+1,c,aq,h=>by
  obtain⟨s,hs,_⟩:=bf.kK (i:=c) (by have:=bf.hA;omega)
  by_cases he:kindOf X.P s.o.op=.dI
  · exact⟨c,.inr ⟨s,hs,he⟩,h⟩
  · exact Inv.norm bf k (c+1) (by omega) (h.pass bf (by omega) hs he)
def qs(ops:Array Oper)(o:Oper)(g:Operand->I):Operand->I
 |.tmp t=>if(kx ops o).contains t then g (.tmp t) else .bad
 |x=>g x
theorem yF{ops:Array Oper}{o:Oper}{g:Operand->I}:∀x∈o.op.operands,g x=qs ops o g x:=by
 intro x ab
 cases x with
 |tmp t=>
  have:(kx ops o).contains t=true:=by
   have aa:t∈o.op.operands.toList.filterMap λ|.tmp t=>some t|_=>none:=List.mem_filterMap.2 ⟨.tmp t,by simpa using ab,rfl⟩
   simp only[kx,List.contains_iff_mem,List.mem_append]
   exact .inl (.inr aa)
  simp only[qs,this,if_true]
 |_=>rfl
theorem GF(bf:e8 X){S:List Nat}{c:Nat}{μ:a8}{w:World}{a:Act}{cs:List Frame}(h:Inv X S c μ w a cs){i:Nat}(ae:i<=X.N)(dv:i∉S)(cL:jE X.ops S i){s:DStep}(hs:X.steps[i]? =some s):
  ∀x,a1 μ (qs X.ops s.o (kJ X.P X.need X.r s (X.f i).env) x) (a.eval x):=by
 obtain⟨cJ,gI,eR,lj,kL⟩:=bf.j7 hs
 intro x
 cases x with
 |tmp t=>
  simp only[qs]
  split
  · rename_i aQ
    have:=bf.Gx h.closed h.k5 ae dv cL hs (t:=t) (by simpa using aQ)
    unfold kJ;rw[gI];exact this
  · trivial
 |const v=>exact iP μ v
 |global g=>
  simp only[qs,kJ,cw,Act.eval]
  cases af:Nat.blt g X.P.globals.size with
  |false=>exact trivial
  |true=>
   obtain⟨i,aa,ad,ar⟩:=bf.nO.mono h.nY.le g (by simpa using af)
   obtain⟨h3,i0,yc⟩:=i
   simp only at ad ar
   subst ad;subst ar
   exact⟨_,aa,rfl⟩
 |func f=>exact⟨[],[],rfl,rfl,rfl⟩
theorem BC(bf:e8 X){S:List Nat}{c:Nat}{μ:a8}{w:World}{a:Act}{cs:List Frame}(h:Inv X S c μ w a cs){i:Nat}(ae:i<=X.N)(dv:i∉S)(cL:jE X.ops S i){s:DStep}(hs:X.steps[i]? =some s):
  ∀nP,dO (fL X.P X.need X.ops X.r s.i (X.f i).env s)=some nP->Region.wanted s.o (yielded X.ops a.tmps)=nP:=by
 obtain⟨cJ,gI,eR,lj,kL⟩:=bf.j7 hs
 intro nP hw
 unfold fL iK at hw
 unfold Region.wanted
 cases aj:s.o.guard with
 |none=>rw[aj] at hw;simp only[dO] at hw;cases hw;rfl
 |some p=>
  obtain⟨j,dh⟩:=p
  rw[aj] at hw
  simp only at hw⊢
  cases aQ:(X.ops[j]?).bind (·.dst) with
  |none=>rw[aQ] at hw;simp only[dk,dO] at hw;cases hw
  |some t=>
   rw[aQ] at hw
   simp only at hw
   have ai:=bf.Gx h.closed h.k5 ae dv cL hs (t:=t) (by
    simp only[kx,List.mem_append]
    refine .inr ?_
    rw[aj];simp only[aQ];simp)
   rw[FW aQ]
   rw[gI] at hw
   generalize dk i (X.f i).env X.r (cw X.P X.need s.loc (.tmp t))=v at hw ai
   unfold dO at hw
   split at hw
   · rename_i he;cases he
   · rename_i he;cases he;cases hw
     have vK:a.tmps.getD t undef=_:=ai
     rw[vK];rfl
   · rename_i he;cases he;cases hw
     obtain⟨l,an,lf⟩:=ai
     cases lf
     rw[an];rfl
   · cases hw
theorem rT{P:Program}{inR:Bool}{call:aP->List I->J->av}{gd:Option (I×Bool)}{o:Oper}{g f_:Operand->I}{d:List bA}{q:bt}{H:J}(h:∀x∈o.op.operands,g x=f_ x):dm P inR call gd o g d q H=dm P inR call gd o f_ d q H:=by
 unfold dm;rw[vT o H h]
theorem Inv.one(bf:e8 X){S:List Nat}{c:Nat}{μ:a8}{w:World}{a:Act}{cs:List Frame}(h:Inv X S c μ w a cs){i:Nat}(ae:i<=X.N)(dv:i∉S)(cL:jE X.ops S i){s:DStep}(hs:X.steps[i]? =some s)(rest:List Nat)(k:List Item):
  A7 X.P μ (X.f c).h w X.b a X.ops s.o i rest k X.cs0 cs (dm X.P X.inR X.call (fL X.P X.need X.ops X.r s.i (X.f i).env s) s.o (kJ X.P X.need X.r s (X.f i).env) (X.f c).d (X.f c).q (X.f c).h):=by
 obtain⟨cJ,gI,eR,lj,kL⟩:=bf.j7 hs
 rw[rT (yF (ops:=X.ops))]
 exact FR bf.ag h.rel (bf.nO.mono h.nY.le) eR (BC bf h ae dv cL hs) (GF bf h ae dv cL hs) h.tE h.qr bf.cJ
theorem Inv.yG(bf:e8 X){S:List Nat}{c c':Nat}{μ aH:a8}{w w':World}{a:Act}{cs bH:List Frame}(h:Inv X S c μ w a cs){i:Nat}(ae:i<X.N)(dv:i∉S)(cL:jE X.ops S i){s:DStep}(hs:X.steps[i]? =some s)(aq:∀v ob,¬qq X i s v ob)
  {u:Value}{aS:List Deferred}(aB:a1 aH (X.val i) u)(jZ:bc aH (X.f c').h w')(mU:bO μ (X.f c).h w aH (X.f c').h w')(az:fI aH (X.f c').d aS)(bh:g3 aH X.b.kind X.cs0 (X.f c').q bH)
  (tF:(c'=c/\kindOf X.P s.o.op≠ .dI)\/(c'=c+1/\i=c)):Inv X (i::S) c' aH w' {tmps:=(a.put s.o.dst u).tmps,defers:=aS} bH:=by
 obtain⟨cJ,gI,eR,lj,kL⟩:=bf.j7 hs
 have hle:=mU.le
 have vZ:c<=c':=by rcases tF with⟨e,_⟩|⟨e,_⟩<;>omega
 have BD:=h.rS
 refine⟨?_,λj aD=>?_,λj aD=>?_,λj bo aa ad ar=>?_,jZ,bO.trans bf.yz h.rel h.nY mU,az,bh,λj aa ad=>?_,λj bo v ob aa ad ar aM=>?_,λj aa ad=>?_,?_,λj bo v ob aa ad ar aM=>?_,?_,?_⟩
 · rcases tF with⟨e,_⟩|⟨e,ax⟩
   · rw[e];exact h.ag
   · omega
 · have hm:jE X.ops S j->jE X.ops (i::S) j:=λah o a2 e he af=>List.mem_cons_of_mem _ (ah o a2 e he af)
   rcases List.mem_cons.1 aD with rfl|aD
   · exact hm cL
   · exact hm (h.closed j aD)
 · rcases List.mem_cons.1 aD with rfl|aD
   · exact ae
   · exact h.sub j aD
 · have:=h.dI j bo aa ad ar
   rw[List.mem_cons,this]
   rcases tF with⟨e,ax⟩|⟨e,ax⟩
   · subst e
     have:j≠i:=by intro e;subst e;rw[hs] at aa;cases aa;exact ax ar
     simp[this]
   · omega
 · have yH:j∉S:=λah=>ad (List.mem_cons_of_mem _ ah)
   cases hm:aH (X.H.n+j) with
   |none=>rfl
   |some dJ=>
    have:=(mU.new _ dJ (h.dJ j aa yH) hm).1
    omega
 · have yH:j∉S:=λah=>ar (List.mem_cons_of_mem _ ah)
   have jj:j≠i:=λe=>ar (by simp[e])
   have Xw:=ad.1
   have E1:j<c:=by rcases tF with⟨e,_⟩|⟨e,ax⟩<;>omega
   rw[mU.idle _ (by have:=bf.hA;omega) (h.dJ j (by have:=bf.hA;omega) yH)]
   exact h.lay j bo v ob aa ad yH E1
 · have h0:=h.mW j (by omega) ad
   cases aj:(X.f c').h.get (X.H.n+j) with
   |none=>rfl
   |some o=>exact absurd h0 (mU.live _ (by omega) (by rw[aj];simp))
 · exact Nat.le_trans BD mU.n
 · have jj:j≠i:=by
     intro e;subst e;rw[hs] at aa;cases aa;exact aq v ob ad
   have Bx:j∈S:=by
    rcases List.mem_cons.1 ar with e|ah
    · exact absurd e jj
    · exact ah
   have Xx:=ad.1
   exact(h.fa j bo v ob aa ad Bx (by omega)).nY h.rel mU (h.mW j (by omega) (by have:=bf.hA;omega))
 · exact bf.GA (a:=a) h.closed h.sz (h.k5.mono hle) dv cL hs aB
 · simpa using(yl a s.o.dst u).trans h.sz
theorem v3{s:DStep}{v:I}(bf:e8 X):∀(m:Nat),m<=X.N->∀(dn:Option Nat) (tG:J),jB X.P X.need X.ops X.r X.N (X.f X.N).env s v dn tG (X.f m).aY=true->
  ∀c bo,c<m->X.steps[c]? =some bo->kindOf X.P bo.o.op=.dI->∃aY,aY=(X.f c).aY/\jB X.P X.need X.ops X.r X.N (X.f X.N).env s v (some c) (X.f c).h aY=true
 |0,_,dn,tG,h,c,bo,ag,_,_=>by omega
 |m+1,hm,dn,tG,h,c,bo,ag,c8,aq=>by
  obtain⟨fc,aR,a3,_⟩:=bf.kK (i:=m) (by have:=bf.hA;omega)
  have aQ:=bf.rP m fc (by omega) aR
  by_cases e:c=m
  · subst e
    rw[aR] at c8;cases c8
    generalize hf:X.f (c+1)=st at aQ h
    cases aQ with
    |tC eP=>rw[aq] at eP;cases eP
    |alloc eP=>rw[aq] at eP;cases eP
    |pure eP=>rw[aq] at eP;cases eP
    |dI eP a2 he=>
     unfold jB at h
     rw[Bool.and_eq_true] at h
     have ad:=h.2
     simp only[a3] at ad
     exact⟨_,rfl,ad⟩
  · have cj:c<m:=by omega
    generalize hf:X.f (m+1)=st at aQ h
    cases aQ with
    |tC eP=>exact v3 bf m (by omega) dn tG h c bo cj c8 aq
    |alloc eP=>exact v3 bf m (by omega) dn tG h c bo cj c8 aq
    |pure eP=>exact v3 bf m (by omega) dn tG h c bo cj c8 aq
    |dI eP a2 he=>
     unfold jB at h
     rw[Bool.and_eq_true] at h
     have ad:=h.2
     simp only at ad
     exact v3 bf m (by omega) _ _ ad c bo cj c8 aq
theorem BE(bf:e8 X):∀(m:Nat),m<=X.N->∀e mk h0 l,(X.f m).aY=(e,mk,h0)::l->e<m/\∃bo,X.steps[e]? =some bo/\kindOf X.P bo.o.op=.dI/\mk=bo.ek
 |0,_,e,mk,h0,l,h=>by rw[bf.qp] at h;cases h
 |m+1,hm,e,mk,h0,l,h=>by
  obtain⟨fc,aR,a3,_⟩:=bf.kK (i:=m) (by have:=bf.hA;omega)
  have aQ:=bf.rP m fc (by omega) aR
  generalize hf:X.f (m+1)=st at aQ h
  cases aQ with
  |dI eP a2 he=>
   simp only[List.cons.injEq,Prod.mk.injEq] at h
   obtain⟨⟨rfl,rfl,rfl⟩,rfl⟩:=h
   exact⟨by omega,fc,by rw[a3];exact aR,eP,rfl⟩
  |_=>obtain⟨aa,ad⟩:=BE bf m (by omega) e mk h0 l h;exact⟨by omega,ad⟩
theorem Inv.looks(bf:e8 X){S:List Nat}{c:Nat}{μ:a8}{w:World}{a:Act}{cs:List Frame}(h:Inv X S c μ w a cs)(aG:Norm X c){i:Nat}(ae:i<X.N)(dv:i∉S)(cL:jE X.ops S i){s:DStep}(hs:X.steps[i]? =some s)(aq:kindOf X.P s.o.op=.pure):
  ku X.P X.need X.ops X.r X.N (X.f X.N).env s (X.val i) (X.f c).h=true:=by
 obtain⟨cJ,gI,eR,lj,kL⟩:=bf.j7 hs
 obtain⟨dn,aa,ad⟩:=bf.looks i s ae hs aq
 have off:∀(dn:Option Nat),(∀e,dn=some e->e=c/\c∉S)->jB X.P X.need X.ops X.r X.N (X.f X.N).env s (X.val i) dn (X.f c).h (X.f c).aY=true->ku X.P X.need X.ops X.r X.N (X.f X.N).env s (X.val i) (X.f c).h=true:=by
  intro dn v5 b5
  unfold jB at b5
  rw[Bool.and_eq_true] at b5
  have ar:=b5.1
  split at ar
  · rename_i af
    exfalso
    rw[Bool.or_eq_true] at af
    rcases af with af|af
    · cases dn with
      |none=>cases af
      |some e=>
       obtain⟨rfl,q⟩:=v5 e rfl
       exact q (kL S h.closed cL _ af)
    · cases qt:(X.f c).aY with
      |nil=>rw[qt] at af;cases af
      |cons p l=>
       obtain⟨e,mk,h0⟩:=p
       rw[qt] at af
       obtain⟨aR,bo,a3,ck,rfl⟩:=BE bf c h.ag e mk h0 l qt
       have BF:=(h.dI e bo a3 (by have:=h.ag;omega) ck).2 aR
       exact dv ((bf.j7 a3).2.2.2.2 S h.closed (h.closed e BF) i (by rw[gI] at af;exact af))
  · exact ar
 have GG:∀e bo,X.steps[e]? =some bo->e=X.N->e∉S:=λe bo _ he ah=>by have:=h.sub e ah;omega
 by_cases vZ:c=X.N
 · subst vZ
   exact off dn (λe he=>⟨(ad e he).1,λah=>by have:=h.sub _ ah;omega⟩) aa
 · have GH:c<X.N:=by have:=h.ag;omega
   rcases aG with e|⟨bo,aR,a3⟩
   · exact absurd e vZ
   · obtain⟨aY,rfl,aM⟩:=v3 bf X.N (Nat.le_refl _) dn _ aa c bo GH aR a3
     refine off (some c) (λe he=>⟨by cases he;rfl,λah=>?_⟩) aM
     have:=(h.dI c bo aR GH a3).1 ah
     omega
end
end aw
namespace aw
open Go
section
variable {X:gq}
theorem GI(bf:e8 X):∀(m:Nat),m<=X.N->
  (∀e mk h0 l,(X.f m).aY=(e,mk,h0)::l->∀j bo,e<j->j<m->X.steps[j]? =some bo->kindOf X.P bo.o.op≠ .dI)/\
  ((X.f m).aY=[]->∀j bo,j<m->X.steps[j]? =some bo->kindOf X.P bo.o.op≠ .dI)
 |0,_=>⟨λe mk h0 l h=>(by rw[bf.qp] at h;cases h),λ_ j bo aD=>(by omega)⟩
 |m+1,hm=>by
  obtain⟨yC,yD⟩:=GI bf m (by omega)
  obtain⟨fc,aR,a3,_⟩:=bf.kK (i:=m) (by have:=bf.hA;omega)
  have aQ:=bf.rP m fc (by omega) aR
  have same:kindOf X.P fc.o.op≠ .dI->(X.f (m+1)).aY=(X.f m).aY->_:=λaq he=>(⟨λe mk h0 l h j bo aa ad ar=>by
    by_cases cx:j=m
    · subst cx;rw[aR] at ar;cases ar;exact aq
    · exact yC e mk h0 l (he▸h) j bo aa (by omega) ar,λh j bo ad ar=>by
    by_cases cx:j=m
    · subst cx;rw[aR] at ar;cases ar;exact aq
    · exact yD (he▸h) j bo (by omega) ar⟩:
   (∀e mk h0 l,(X.f (m+1)).aY=(e,mk,h0)::l->∀j bo,e<j->j<m+1->X.steps[j]? =some bo->kindOf X.P bo.o.op≠ .dI)/\((X.f (m+1)).aY=[]->∀j bo,j<m+1->X.steps[j]? =some bo->kindOf X.P bo.o.op≠ .dI))
  generalize hf:X.f (m+1)=st at aQ same⊢
  clear hf
  cases aQ with
  |tC eP=>exact same (by rw[eP];simp) rfl
  |alloc eP=>exact same (by rw[eP];simp) rfl
  |pure eP=>exact same (by rw[eP];simp) rfl
  |dI eP a2 he=>
   refine⟨λe mk h0 l h j bo aa ad ar=>?_,λh=>by cases h⟩
   simp only[List.cons.injEq,Prod.mk.injEq] at h
   obtain⟨⟨rfl,_,_⟩,_⟩:=h
   omega
theorem Inv.GJ(bf:e8 X){S:List Nat}{c:Nat}{μ:a8}{w:World}{a:Act}{cs:List Frame}(h:Inv X S c μ w a cs)(aG:Norm X c){i:Nat}(ae:i<=X.N)(dv:i∉S)(cL:jE X.ops S i){s:DStep}(hs:X.steps[i]? =some s)
  (aq:kindOf X.P s.o.op=.dI)(a2:∀e m h0 l,(X.f i).aY=(e,m,h0)::l->Nat.testBit s.ek e=true):i=c:=by
 obtain⟨cJ,gI,eR,lj,kL⟩:=bf.j7 hs
 have FE:c<=i:=by
  rcases Nat.lt_or_ge i X.N with aa|aa
  · have:=h.dI i s hs aa aq
    rcases Nat.lt_or_ge i c with ad|ad
    · exact absurd (this.2 ad) dv
    · exact ad
  · have:=h.ag;omega
 rcases Nat.lt_or_ge c i with cj|tH
 · exfalso
   rcases aG with e|⟨bo,aR,a3⟩
   · omega
   · obtain⟨r1,r2⟩:=GI bf i ae
     cases qt:(X.f i).aY with
     |nil=>exact r2 qt c bo cj aR a3
     |cons p l=>
      obtain⟨e,mk,h0⟩:=p
      obtain⟨dy,s2,dq,iu,_⟩:=BE bf i ae e mk h0 l qt
      have BF:=kL S h.closed cL e (a2 e mk h0 l qt)
      have Ol:=(h.dI e s2 dq (by omega) iu).1 BF
      exact r1 e mk h0 l qt c bo Ol cj aR a3
 · omega
theorem Inv.Om(bf:e8 X){S:List Nat}{c:Nat}{μ:a8}{w:World}{a:Act}{cs:List Frame}(h:Inv X S c μ w a cs){i:Nat}(ae:i<X.N)(dv:i∉S)(cL:jE X.ops S i){s:DStep}(hs:X.steps[i]? =some s){v:I}{ob:ca}(hB:qq X i s v ob)(aB:X.val i=v)(rest:List Nat)(k:List Item):
  ∃aH w' cQ,Steps X.P (lone (X.b.atR a (.inRegion X.ops (i::rest)::k)) cs w) (lone (X.b.atR cQ (.inRegion X.ops rest::k)) cs w')/\Inv X (i::S) c aH w' cQ cs:=by
 obtain⟨cJ,gI,eR,lj,kL⟩:=bf.j7 hs
 obtain⟨_,aq,hw,aX⟩:=hB
 have A_:=BC bf h (Nat.le_of_lt ae) dv cL hs _ hw
 rw[vU _ _ (yF (ops:=X.ops))] at aX
 obtain⟨u,O,sz,an⟩:=Nj (P:=X.P) (w:=w) s.o (GF bf h (Nat.le_of_lt ae) dv cL hs) aX
 have b5:=stepGR_op (P:=X.P) (b:=X.b) (a:=a) (k:=k) (cs:=cs) (w:=w) (rest:=rest) eR A_
 have vG:s.o.semAt X.b.roundOf a.eval=execOp a.eval s.o:=Oper.semAt_eq _ _ _ λXy e=>by rw[e] at aq;cases aq
 rw[vG] at b5
 obtain⟨al,_⟩:=A6 b5
 have gJ:=al _ _ an.run
 have mR:(X.b.atR a (.inRegion X.ops (i::rest)::k)).finish u=X.b.atR (a.put s.o.dst u) (.inRegion X.ops rest::k):=by
  rw[Frame.finish_atR,eR];rfl
 rw[mR] at gJ
 have hy:=h.dJ i cJ dv
 have BD:=h.rS
 have gi:∀o,(X.f c).h.get (X.H.n+i)=some o->o=ob:=λo aj=>by
  rcases Nat.lt_or_ge i c with cj|tH
  · have:=h.lay i s v ob hs ⟨ae,aq,hw,by rw[vU _ _ (yF (ops:=X.ops))];exact aX⟩ dv cj
    rw[aj] at this;cases this;rfl
  · rw[h.mW i tH cJ] at aj;cases aj
 obtain⟨hle,jZ⟩:=h.rel.early (b:=X.H.n+i) (by omega) hy gi an.obj
 have mU:=h.nY.early bf.yz (b:=X.H.n+i) (by omega) hy (O:=O) (sz:=sz)
 have On:a1 (fr μ (X.H.n+i) ⟨w.heap.size,0,sz⟩) (X.val i) u:=by rw[aB];exact an.val _ hle (fs _ _ _)
 refine⟨fr μ (X.H.n+i) ⟨w.heap.size,0,sz⟩,_,_,gJ,?_⟩
 have hm:∀{j},jE X.ops S j->jE X.ops (i::S) j:=λah o a2 e he af=>List.mem_cons_of_mem _ (ah o a2 e he af)
 refine⟨h.ag,λj aD=>?_,λj aD=>?_,λj bo aa ad ar=>?_,jZ,mU,?_,h.qr.mono hle,λj aa ad=>?_,λj bo v ob aa ad ar aM=>h.lay j bo v ob aa ad (λah=>ar (List.mem_cons_of_mem _ ah)) aM,h.mW,h.rS,λj bo v' BB aa ad ar aM=>?_,bf.GA h.closed h.sz (h.k5.mono hle) dv cL hs On,(yl _ _ _).trans h.sz⟩
 · rcases List.mem_cons.1 aD with rfl|aD
   · exact hm cL
   · exact hm (h.closed j aD)
 · rcases List.mem_cons.1 aD with rfl|aD
   · exact ae
   · exact h.sub j aD
 · have jj:j≠i:=by intro e;subst e;rw[hs] at aa;cases aa;rw[aq] at ar;cases ar
   rw[List.mem_cons]
   simp only[jj,false_or]
   exact h.dI j bo aa ad ar
 · rw[put_defers];exact h.tE.mono hle
 · have jj:j≠i:=λe=>ad (by simp[e])
   rw[gh _ _ (by omega)]
   exact h.dJ j aa (λah=>ad (List.mem_cons_of_mem _ ah))
 · rcases List.mem_cons.1 ar with e|ar
   · subst e
     rw[hs] at aa;cases aa
     have:=ad.2.2.2
     rw[vU _ _ (yF (ops:=X.ops)),aX] at this
     cases this
     refine⟨⟨w.heap.size,0,sz⟩,O,fs _ _ _,World.heap_alloc_new _ _,λaH w' x2 oX=>an.obj aH w' (hle.trans x2) oX,λd ir az aD=>?_⟩
     rw[gh _ _ az] at aD
     have:=(h.rel.lt d ir aD).2
     simp only;omega
   · exact(h.fa j bo v' BB aa ad ar aM).early h.rel hy
theorem BG(bf:e8 X){i:Nat}(ae:i<=X.N):Bb i (hr (X.ops.toList.take i) 0 []):=λt a aX=>by
 obtain⟨j,o,aa,rfl,_⟩:=(vX X.ops.toList t i (by have:=bf.hA;simp;omega)).1 a aX
 exact aa
theorem Inv.step(bf:e8 X){S:List Nat}{c:Nat}{μ:a8}{w:World}{a:Act}{cs:List Frame}(h:Inv X S c μ w a cs){i:Nat}(ae:i<X.N)(dv:i∉S)(cL:jE X.ops S i)(rest:List Nat)(k:List Item):
  ∃c' aH w' cQ bH,Steps X.P (lone (X.b.atR a (.inRegion X.ops (i::rest)::k)) cs w) (lone (X.b.atR cQ (.inRegion X.ops rest::k)) bH w')/\Inv X (i::S) c' aH w' cQ bH:=by
 obtain⟨c,aG,h⟩:=h.norm bf _ _ rfl
 obtain⟨s,hs,gI,eR,_⟩:=bf.kK (i:=i) (by have:=bf.hA;omega)
 have aQ:=bf.rP i s ae hs
 have hle:=Nat.le_of_lt ae
 generalize hf:X.f (i+1)=st at aQ
 cases aQ with
 |tC aq hw=>
  have aB:=bf.yB ae (v:=.aK []) (by rw[hf])
  have A9:=BC bf h hle dv cL hs _ hw
  have vh:=stepR_op_skip (P:=X.P) (b:=X.b) (a:=a) (k:=k) (cs:=cs) (w:=w) (ops:=X.ops) (i:=i) (rest:=rest) (by simp[eR,A9])
  rw[eR] at vh
  have he:a.put ((some s.o).bind (·.dst)) undef={tmps:=(a.put s.o.dst undef).tmps,defers:=a.defers}:=yh a s.o.dst undef
  rw[he] at vh
  refine⟨c,μ,w,_,cs,.one vh,h.yG bf ae dv cL hs (λv ob hB=>?_) (by rw[aB];exact⟨[],rfl,rfl⟩) h.rel (bO.refl _ _ _) h.tE h.qr (.inl ⟨rfl,by rw[aq];simp⟩)⟩
  have:=hB.2.2.1
  rw[hw] at this;cases this
 |alloc aq hw aX=>
  rename_i v ob
  have aB:=bf.yB ae (v:=v) (by rw[hf])
  obtain⟨aH,w',cQ,aa,ad⟩:=h.Om bf ae dv cL hs ⟨ae,aq,hw,by rw[<-gI];rw[<-gI] at aX;exact aX⟩ aB rest k
  exact⟨c,aH,w',cQ,cs,aa,ad⟩
 |pure aq he=>
  rename_i v bn q' ak
  have aB:=bf.yB ae (v:=v) (by rw[hf])
  have jn:=h.looks bf aG ae dv cL hs aq
  have fF:=h.one bf hle dv cL hs rest k
  have fZ:fL X.P X.need X.ops X.r X.N (X.f X.N).env s=fL X.P X.need X.ops X.r s.i (X.f i).env s:=by
   unfold fL iK
   cases BH:s.o.guard with
   |none=>rfl
   |some p=>
    obtain⟨j,dh⟩:=p
    simp only
    cases Xz:(X.ops[j]?).bind (·.dst) with
    |none=>rfl
    |some t=>
     simp only
     rw[gI,bf.Gw hle (by rw[(bf.j7 hs).2.2.2.1];exact yk (BG bf hle) _)]
  have qu:∀x,dk X.N (X.f X.N).env X.r (cw X.P X.need s.loc x)=kJ X.P X.need X.r s (X.f i).env x:=λx=>by
   unfold kJ
   rw[gI,bf.Gw hle (by rw[(bf.j7 hs).2.2.2.1];exact yk (BG bf hle) _)]
  unfold ku at jn
  rw[fZ] at jn
  have qj:(λx=>dk X.N (X.f X.N).env X.r (cw X.P X.need s.loc x))=kJ X.P X.need X.r s (X.f i).env:=funext qu
  rw[qj] at jn
  have yI:∀v ob,¬qq X i s v ob:=λv ob hB=>by have:=hB.2.1;rw[aq] at this;cases this
  have df:kindOf X.P s.o.op≠ .dI:=by rw[aq];simp
  unfold dm at fF he
  cases yJ:dO (fL X.P X.need X.ops X.r s.i (X.f i).env s) with
  |none=>rw[yJ] at jn;cases jn
  |some dh=>
   rw[yJ] at jn fF he
   cases dh with
   |false=>
    simp only at fF he
    cases he
    obtain⟨aH,w',u,rG,bH,s1,s2,bI,cq,cN,dK⟩:=fF
    exact⟨c,aH,w',_,bH,s1,h.yG bf ae dv cL hs yI (by rw[aB];exact s2) bI cq cN dK (.inl ⟨rfl,df⟩)⟩
   |true=>
    simp only at jn fF
    split at jn
    · rename_i v' XA fE
      rw[fE] at fF
      simp only at fF
      have Oo:=beq_eq _ _ jn
      have Oq:=N_ aq fE
      rw[Oq] at fF
      obtain⟨aH,w',u,rG,bH,s1,s2,bI,cq,cN,dK⟩:=fF
      exact⟨c,aH,w',_,bH,s1,h.yG bf ae dv cL hs yI (by rw[<-Oo];exact s2) bI cq cN dK (.inl ⟨rfl,df⟩)⟩
    · cases jn
 |dI aq a2 he=>
  rename_i v bn q' ak
  have aB:=bf.yB ae (v:=v) (by rw[hf])
  have oY:=h.GJ bf aG hle dv cL hs aq a2
  have fF:=h.one bf hle dv cL hs rest k
  have yI:∀v ob,¬qq X i s v ob:=λv ob hB=>by have:=hB.2.1;rw[aq] at this;cases this
  rw[<-oY,he] at fF
  obtain⟨aH,w',u,rG,bH,s1,s2,bI,cq,cN,dK⟩:=fF
  have aC:(X.f (c+1)).h=ak:=by rw[<-oY,hf]
  have ax:(X.f (c+1)).d=bn:=by rw[<-oY,hf]
  have bp:(X.f (c+1)).q=q':=by rw[<-oY,hf]
  exact⟨c+1,aH,w',_,bH,s1,h.yG bf ae dv cL hs yI (by rw[aB];exact s2) (by rw[aC];exact bI) (by rw[aC,<-oY];exact cq) (by rw[ax];exact cN) (by rw[bp];exact dK) (.inr ⟨rfl,oY⟩)⟩
end
end aw
namespace aw
open Go
section
variable {X:gq}
def gq.ends(X:gq)(k:List Item)(eD:Machine)(res:k7):Prop:=nR X.P X.need X.b4 X.lh X.r X.H X.hQ X.b k X.cs0 eD (hr X.ops.toList 0 []) res
theorem gq.BI{k:List Item}{eD cm:Machine}{res:k7}(h:Steps X.P eD cm)(ak:X.ends k cm res):X.ends k eD res:=by
 unfold gq.ends at*
 cases res with
 |ok env d q aO=>obtain⟨aH,w',cQ,bH,s1,s2⟩:=ak;exact⟨aH,w',cQ,bH,h.trans s1,s2⟩
 |bK v d q aO=>obtain⟨aH,w',cQ,bH,u,b3,s1,s2⟩:=ak;exact⟨aH,w',cQ,bH,u,b3,h.trans s1,s2⟩
 |fail s=>trivial
structure BJ(X:gq)(res:k7):Prop where
 ok:X.N=X.ops.size->res=.ok (X.f X.N).env (X.f X.N).d (X.f X.N).q (X.f X.N).h
 bK:X.N<X.ops.size->∀s,X.steps[X.N]? =some s->∃v bn q' ak,dm X.P X.inR X.call (fL X.P X.need X.ops X.r s.i (X.f X.N).env s) s.o (kJ X.P X.need X.r s (X.f X.N).env) (X.f X.N).d (X.f X.N).q (X.f X.N).h=.bK v bn q' ak/\res=.bK v bn q' ak
theorem Inv.order(bf:e8 X){res:k7}(e5:BJ X res)(k:List Item):∀(L:List Nat) (S:List Nat) (c:Nat) (μ:a8) (w:World) (a:Act) (cs:List Frame),rL X.ops S L->Inv X S c μ w a cs->X.ends k (lone (X.b.atR a (.inRegion X.ops L::k)) cs w) res
 |[],S,c,μ,w,a,cs,a2,h=>by
  have eO:∀i,i<X.ops.size->i∈S:=a2
  have hA:X.N=X.ops.size:=by
   have:=bf.hA
   rcases Nat.lt_or_ge X.N X.ops.size with cj|tH
   · have:=h.sub _ (eO _ cj);omega
   · omega
  obtain⟨c,aG,h⟩:=h.norm bf _ _ rfl
  have GG:c=X.N:=by
   rcases aG with e|⟨s,aR,a3⟩
   · exact e
   · have:=h.ag
     rcases Nat.lt_or_ge c X.N with cj|tH
     · have:=(h.dI c s aR cj a3).1 (eO c (by omega));omega
     · omega
  subst GG
  rw[e5.ok hA]
  have hlen:=bf.yA X.N (Nat.le_refl _)
  have GK:X.ops.toList.take X.N=X.ops.toList:=by rw[hA];exact List.take_of_length_le (by simp)
  have lj:=BG bf (Nat.le_refl X.N)
  rw[GK] at lj
  refine⟨μ,w,a,cs,.one stepR_region_end,⟨by rw[hlen];exact lj,λt=>?_⟩,h.sz,h.rel,h.nY,h.tE,h.qr⟩
  rw[hlen]
  obtain⟨f1,f2⟩:=vX X.ops.toList t X.N (by simp;omega)
  rw[GK] at f1 f2
  simp only[cw]
  cases hf:hd t (hr X.ops.toList 0 []) with
  |some ac=>
   obtain⟨j,o,aD,rfl,la,az,pX⟩:=f1 ac hf
   have:=(h.k5 t).1 j o (eO j (by omega)) (by simpa using la) az λk o' aq g4 ld=>by
    rcases Nat.lt_or_ge j k with cj|tH
    · exact absurd ld (pX k o' cj (h.sub k aq) (by simpa using g4))
    · exact tH
   exact this
  |none=>
   simp only[]
   cases af:Nat.testBit X.need t with
   |false=>trivial
   |true=>
    exact(h.k5 t).2 (λj o aD g4 az=>f2 hf j o (h.sub j aD) (by simpa using g4) az) af
 |i::L,S,c,μ,w,a,cs,a2,h=>by
  obtain⟨ae,dv,cL,pY⟩:=a2
  rcases Nat.lt_trichotomy i X.N with cj|heq|rU
  · obtain⟨c',aH,w',cQ,bH,aa,ad⟩:=h.step bf cj dv cL L k
    exact gq.BI aa (Inv.order bf e5 k L (i::S) c' aH w' cQ bH pY ad)
  ·
   obtain⟨s,hs,gI,eR,_⟩:=bf.kK ae
   obtain⟨c,aG,h⟩:=h.norm bf _ _ rfl
   rw[heq] at hs
   obtain⟨bq,bT,eI⟩:=bf.last s hs
   rw[<-heq] at hs bT
   have oY:=h.GJ bf aG (Nat.le_of_eq heq) dv cL hs bq bT
   have fF:=h.one bf (Nat.le_of_eq heq) dv cL hs L k
   obtain⟨v,bn,q',ak,aC,ax⟩:=e5.bK (by omega) s (by rw[<-heq];exact hs)
   rw[<-heq] at aC
   rw[<-oY,aC] at fF
   rw[ax]
   obtain⟨aH,w',u,s1,s2,bI,cq,cN,dK⟩:=fF
   rw[oY] at cq
   refine⟨aH,w',a,cs,u,_,s1,trivial,s2,λt aQ af=>?_,h.sz,bI,bO.trans bf.yz h.rel h.nY cq,cN,dK⟩
   obtain⟨f1,f2⟩:=vX X.ops.toList t X.ops.toList.length (Nat.le_refl _)
   rw[List.take_length] at f2
   have:=(h.k5 t).2 (λj o aD g4 az=>f2 aQ j o (by have:=h.sub j aD;have:=bf.hA;simp;omega) (by simpa using g4) az) af
   exact this.mono cq.le
  · exfalso
    obtain⟨s,hs,_⟩:=bf.kK (i:=X.N) (by omega)
    obtain⟨bo,c8,_,_,_,kL⟩:=bf.kK ae
    have:=(bf.last s hs).2.2 i bo rU c8
    rw[(bf.j7 hs).2.1] at this
    have:=h.sub _ (kL S h.closed cL _ this)
    omega
end
section
variable {P:Program}
theorem GL{need:Nat}{ops:Array Oper}{r:aL}{n:Nat}{env:List I}{last:Option Nat}{h:J}{aY:List (Nat×Nat×J)}:∀{l:List DStep},jU P need ops r n env last h aY l=true->∀s∈l,s.i<n->kindOf P s.o.op=.pure->jB P need ops r n env s ((nth (n-1-s.i) env).getD .bad) last h aY=true
 |[],_,s,hs,_,_=>by cases hs
 |x::l,an,s,hs,ae,aq=>by
  simp only[jU,Bool.and_eq_true] at an
  rcases List.mem_cons.1 hs with rfl|hs
  · have aa:=an.1
    have af:Nat.blt s.i n=true:=by simpa using ae
    rw[af,aq] at aa
    exact aa
  · exact GL an.2 s hs ae aq
theorem Ot(hm:P.follows .mixedOrders=true){call:aP->List I->J->av}(ag:kH P call)(need b4:Nat):qi P need b4 call:=by
 intro ops id nS hdr b inR r d q H μ w a k cs0 cs cJ ai br ah aj az bh
 unfold ra
 simp only
 obtain⟨nU,jo⟩:∃nU:rN,nU=⟨[],d,q,⟨H.t,H.n+ops.size⟩,[]⟩:=⟨_,rfl⟩
 obtain⟨res,hR⟩:∃res,fq P need inR call ops r H.n (ev ops.toList 0 [] []) [] d q ⟨H.t,H.n+ops.size⟩ []=res:=⟨_,rfl⟩
 rw[hR]
 by_cases GM:∃tI,res=.fail tI
 · obtain⟨tI,e⟩:=GM;subst e;trivial
 have Ou:∀tI,res≠ .fail tI:=λtI e=>GM ⟨tI,e⟩
 have Ov:fq P need inR call ops r H.n (ev ops.toList 0 [] []) nU.env nU.d nU.q nU.h nU.aY=res:=by rw[jo];exact hR
 obtain⟨f,N,f0,hA,GN,tF⟩:=Gt _ _ _ Ov Ou
 have hlen:(ev ops.toList 0 [] []).length=ops.size:=by rw[Bu];simp
 rw[hlen] at hA
 have GO:∀m,m<=N->(f m).env.length=m:=λm=>by
  induction m with
  |zero=>intro _;rw[f0,jo];rfl
  |succ m bg=>
   intro AE
   have hs:(ev ops.toList 0 [] [])[m]? =some (ev ops.toList 0 [] [])[m]:=List.getElem?_eq_getElem (by omega)
   have aQ:=GN m _ (by omega) hs
   have Ow:=bg (by omega)
   generalize f (m+1)=st at aQ
   cases aQ<;>simp[Ow]
 let X:gq:={P:=P,need:=need,b4:=b4,inR:=inR,call:=call,ops:=ops,r:=r,b:=b,lh:=μ,H:=H,hQ:=w,cs0:=cs0,N:=N,f:=f}
 let dp:World:={w with drawn:=w.drawn+1}
 have qn:∀o i,ops[i]? =some o->mI o i=true:=λo i a2=>by
  have ae:i<ops.size:=(Array.getElem?_eq_some_iff.1 a2).1
  have g4:ops.toList[i]? =some o:=by simpa using a2
  obtain⟨s,aa,ad,ar,_⟩:=vW (ops:=ops) ops.toList 0 [] [] (λk=>by simp) (tB hdr) (λj aD=>by omega) i o g4
  have:=tB hdr s (List.mem_of_getElem? aa)
  rw[ar] at this
  have BK:s.i=i:=by omega
  rw[BK] at this;exact this
 have j8:=N9 qn (w.tape w.drawn (.order b.fn id))
 have eo:Steps P (lone (b.atR a (.code (.region id ops true)::k)) cs w) (lone (b.atR a (.inRegion ops (Region.schedule true ops (w.tape w.drawn (.order b.fn id)))::k)) cs dp):=by
  have:=stepR_region_draw (P:=P) (b:=b) (a:=a) (k:=k) (cs:=cs) (w:=w) (ops:=ops) (id:=id)
  rw[hm] at this
  exact .one this
 have hinv:Inv X [] 0 μ dp a cs:=by
  refine⟨Nat.zero_le _,(λj aD=>by cases aD),(λj aD=>by cases aD),(λi s aa ad ar=>⟨λaD=>(by cases aD),λaD=>(by omega)⟩),?_,?_,?_,?_,λi ae _=>?_,(λi s v ob aa ad ar aM=>by omega),λi ae ad=>?_,?_,(λi s v ob aa ad ar aM=>by cases ar),?_,br⟩
  · show bc μ (f 0).h dp
    rw[f0,jo]
    exact⟨λdh o i af ae=>(ah.rel dh o i af ae).mono (en.refl μ) rfl,ah.inj,λdh i ae=>⟨Nat.lt_of_lt_of_le (ah.lt dh i ae).1 (Nat.le_add_right _ _),(ah.lt dh i ae).2⟩,λdh af=>ah.bound dh (Nat.le_trans (Nat.le_add_right _ _) af)⟩
  · show bO μ H w μ (f 0).h dp
    rw[f0,jo]
    exact⟨en.refl μ,Nat.le_refl _,Nat.le_add_right _ _,λ_ _ an=>an,λ_ _ _=>rfl,λ_ _ _=>rfl,(λdh i aa ad=>by rw[aa] at ad;cases ad),λ_ _ _ af _ _=>⟨af,rfl⟩,rfl,rfl,rfl,Nat.le_succ _⟩
  · show fI μ (f 0).d a.defers
    rw[f0,jo];exact az
  · show g3 μ b.kind cs0 (f 0).q cs
    rw[f0,jo];exact bh
  · show μ (H.n+i)=none
    cases e:μ (H.n+i) with
    |none=>rfl
    |some dJ=>have:=(ah.lt _ dJ e).1;omega
  · show(f 0).h.get (H.n+i)=none
    rw[f0,jo]
    exact ah.bound (H.n+i) (Nat.le_add_right _ _)
  · show H.n+ops.size<=(f 0).h.n
    rw[f0,jo];exact Nat.le_refl _
  · intro t
    exact⟨λj o aD=>(by cases aD),λ_ af=>ai t af⟩
 have GP:∀(dn:Option Nat) (jn:jU P need ops r (f N).env.length (f N).env dn (f N).h (f N).aY (ev ops.toList 0 [] [])=true) (v5:∀e,dn=some e->e=N/\N<ops.size)
   (pX:∀s,(ev ops.toList 0 [] [])[N]? =some s->kindOf P s.o.op=.dI/\(∀e m h0 l,(f N).aY=(e,m,h0)::l->Nat.testBit s.ek e=true)/\∀k bo,N<k->(ev ops.toList 0 [] [])[k]? =some bo->Nat.testBit bo.ek s.i=true),e8 X:=by
  intro dn jn v5 pX
  refine⟨ag,cJ,nS,hdr,hA,GN,by show(f 0).env=[];rw[f0,jo],by show(f 0).aY=[];rw[f0,jo],λi s ae hs aq=>?_,pX,aj,ah⟩
  have gI:s.i=i:=by
   have BL:i<ops.size:=Nat.lt_of_lt_of_le ae hA
   obtain⟨bo,aa,ad,_⟩:=vW (ops:=ops) ops.toList 0 [] [] (λk=>by simp) (tB hdr) (λj aD=>by omega) i _ (show ops.toList[i]? =some ops[i] by simp[BL])
   have iS:(ev ops.toList 0 [] [])[i]? =some s:=hs
   rw[aa] at iS;cases iS;omega
  have:=GL jn s (List.mem_of_getElem? hs) (by rw[GO N (Nat.le_refl _),gI];exact ae) aq
  rw[GO N (Nat.le_refl _),gI] at this
  exact⟨dn,this,v5⟩
 rcases tF with⟨XB,ab⟩|⟨s,hs,aq,a2,Ox,v,bn,q',ak,he,ab⟩
 · subst ab
   simp only
   cases jn:jU P need ops r (f N).env.length (f N).env none (f N).h (f N).aY (ev ops.toList 0 [] []) with
   |false=>trivial
   |true=>
    simp only
    have bf:=GP none jn (λe he=>by cases he) (λs hs=>by rw[List.getElem?_eq_none (by omega)] at hs;cases hs)
    have e5:BJ X (.ok (f N).env (f N).d (f N).q (f N).h):=⟨λ_=>rfl,λcj=>by
     have AH:N<ops.size:=cj
     omega⟩
    exact gq.BI (X:=X) eo (Inv.order bf e5 k _ [] 0 μ dp a cs j8 hinv)
 · subst ab
   simp only
   have gI:s.i=N:=by
    have BL:N<ops.size:=by have:=(List.getElem?_eq_some_iff.1 hs).1;omega
    obtain⟨bo,aa,ad,_⟩:=vW (ops:=ops) ops.toList 0 [] [] (λk=>by simp) (tB hdr) (λj aD=>by omega) N _ (show ops.toList[N]? =some ops[N] by simp[BL])
    rw[aa] at hs;cases hs;omega
   have Oy:N<ops.size:=by have:=(List.getElem?_eq_some_iff.1 hs).1;omega
   cases jn:jU P need ops r (f N).env.length (f N).env (some s.i) (f N).h (f N).aY (ev ops.toList 0 [] []) with
   |false=>trivial
   |true=>
    simp only
    have bf:=GP (some s.i) jn (λe he=>by cases he;exact⟨gI,Oy⟩) (λbo c8=>by rw[hs] at c8;cases c8;exact⟨aq,a2,Ox⟩)
    have e5:BJ X (.bK v bn q' ak):=⟨λe=>by
     have cx:N=ops.size:=e
     omega,λ_ bo c8=>by
     have iS:(ev ops.toList 0 [] [])[N]? =some bo:=c8
     rw[hs] at iS;cases iS
     exact⟨v,bn,q',ak,he,rfl⟩⟩
    exact gq.BI (X:=X) eo (Inv.order bf e5 k _ [] 0 μ dp a cs j8 hinv)
structure Fit(P:Program):Prop where
 mixed:P.follows .mixedOrders=true
 code:vM P
 ext:yu P
theorem BM(hf:Fit P){intr:Nat->List I->J->Option (I×J)}(ae:kI P intr)(n:Nat):kH P (e4 P intr n):=
 Gm ae (λcall ag need b4=>Ot hf.mixed ag need b4) hf.code hf.ext n
end
end aw
namespace aw
open Go Go.RowKit Go.ChangeShapes Go.WideShapes
section
variable {P:Program}
def Oz(P:Program):Bool:=P.funcs.toList.all λfn=>match fn.body with
 |some c=>ht fn.ntmps c&&!(fn.name== "runtime.NumGoroutine")
 |none=>true
def OA(P:Program):Bool:=P.funcs.toList.all λfn=>match fn.body with
 |some _=>true
 |none=>!ql.contains fn.name||(Extern.findNext fn).isNone
theorem GQ{g:FuncId}{fH:Func}(h:P.funcs[g]? =some fH):fH∈P.funcs.toList:=by
 rw[<-Array.getElem?_toList] at h;exact List.mem_of_getElem? h
theorem OB(hm:P.follows .mixedOrders=true)(ag:Oz P=true)(he:OA P=true):Fit P where
 mixed:=hm
 code:=λg fH gc aj af=>by
  have:=List.all_eq_true.1 ag fH (GQ aj)
  rw[af] at this
  simp only[Bool.and_eq_true,Bool.not_eq_true'] at this
  exact this
 ext:=λg fH aj af aG=>by
  have:=List.all_eq_true.1 he fH (GQ aj)
  rw[af] at this
  simp only[Bool.or_eq_true,Bool.not_eq_true',List.contains_eq_mem,decide_eq_false_iff_not] at this
  rcases this with h|h
  · exact absurd aG h
  · simpa using h
def rV(H:J):Prop:=∀b o,H.get b=some o->o.lV=true
theorem bO.below{μ aH:a8}{H aO:J}{W g5:World}(ai:rV H)(ah:bc μ H W)(h:bO μ H W aH aO g5):Below W.heap.size W g5:=by
 refine⟨h.os,h.tape,h.out,h.size,λr cj=>?_⟩
 by_cases he:∃b i,H.get b≠none/\μ b=some i/\i.a5=r
 · obtain⟨b,i,aa,ad,rfl⟩:=he
   cases aj:H.get b with
   |none=>exact absurd aj aa
   |some o=>exact(h.ro b o i aj (ai b o aj) ad).2
 · exact h.old r cj λb i aa ad ar=>he ⟨b,i,aa,ad,ar⟩
def v7(G:Nat):a8:=λb=>if b<G then some ⟨b,0,0⟩ else none
theorem OC{W:World}(ix:P.globals.size<=W.heap.size):bc (v7 P.globals.size) (h1 P.globals.size) W/\gp P (v7 P.globals.size)/\rV (h1 P.globals.size):=by
 have aG:∀b,(h1 P.globals.size).get b=none:=λb=>rfl
 refine⟨⟨λb o i h=>(by rw[aG] at h;cases h),λb c i j h=>absurd (aG b) h,λb i h=>?_,λb _=>aG b⟩,λg aj=>⟨⟨g,0,0⟩,by simp[v7,aj],rfl,rfl⟩,λb o h=>(by rw[aG] at h;cases h)⟩
 unfold v7 at h
 split at h
 · rename_i af;cases h;exact⟨af,Nat.lt_of_lt_of_le af ix⟩
 · cases h
theorem OD(hf:Fit P){intr:Nat->List I->J->Option (I×J)}(ae:kI P intr){n:Nat}{f:Nat}{fn:Func}{c:Code}(l4:P.funcs[f]? =some fn)(af:fn.body=some c){args:List I}{H:J}{v:I}{aO:J}
  (eo:e4 P intr n (.fn f) args H=.ret v aO){μ:a8}{W:World}{vs:List Value}(ah:bc μ H W)(aj:gp P μ)(aB:bN μ args vs):
  Calls P f ⟨vs⟩ W λe g5=>∃aH u,e=.returned u/\a1 aH v u/\bc aH aO g5/\bO μ H W aH aO g5:=by
 have aa:=(BM hf ae n).fn f args H (by rw[eo];rfl) μ W vs ah aj aB
 rw[eo] at aa
 obtain⟨_,vS⟩:=hf.code f fn c l4 af
 have he:=Bj l4 af vS ⟨vs⟩ W
 rcases aa with⟨v',w',aR,_⟩|⟨_,a3⟩
 · rw[he] at aR;cases aR
 · exact a3.mono λe g5 h=>h
def yK:av->Bool
 |.ret (.bool true) _=>true
 |_=>false
theorem OE{r:av}(h:yK r=true):∃H,r=.ret (.bool true) H:=by
 unfold yK at h
 split at h
 · exact⟨_,rfl⟩
 · cases h
theorem OF(hf:Fit P){intr:Nat->List I->J->Option (I×J)}(ae:kI P intr){n:Nat}{f:Nat}{fn:Func}{c:Code}(l4:P.funcs[f]? =some fn)(af:fn.body=some c){args:List I}{H:J}
  (eo:yK (e4 P intr n (.fn f) args H)=true){μ:a8}{W:World}{vs:List Value}(ah:bc μ H W)(ai:rV H)(aj:gp P μ)(aB:bN μ args vs):
  Calls P f ⟨vs⟩ W λe g5=>e=.returned (.bool true)/\Below W.heap.size W g5:=by
 obtain⟨aO,e⟩:=OE eo
 exact(OD hf ae l4 af e ah aj aB).mono λe g5 ⟨aH,u,aa,ad,ar,aM⟩=>⟨by cases ad;exact aa,aM.below ai ah⟩
def BN(P:Program):Bool:=match P.globals.size with
 |0=>true
 |g+1=>(((begin P (λ_ _=>0) default).world.heap[g]?).bind Obj.row?).isSome
theorem OG{W:World}(hs:W.ShapedOpen P)(af:BN P=true):P.globals.size<=W.heap.size:=by
 unfold BN at af
 cases aj:P.globals.size with
 |zero=>exact Nat.zero_le _
 |succ g=>
  rw[aj] at af
  simp only at af
  obtain⟨⟨zero,t⟩,ab⟩:=Option.isSome_iff_exists.1 af
  obtain⟨cs,aa,_⟩:=hs.1 g zero t (by omega) ab
  have:=(Array.getElem?_eq_some_iff.1 aa).1
  omega
variable {H:Type} {enc:TypeId×Value->H}
theorem GR(an:laidOutB P=true){W g5:World}(af:Below W.heap.size W g5){sp:Nat->Bool}:∀{ts:List TypeId} {vs:List Value} {aS:List (DataW H)} {ps:List MemPlace},(∀t∈ts,P.readableRec t=true/\t<P.types.size)->
  DataW.TrodAll enc P W 0 (λ_=>true) true ts vs aS ps->(∀x∈ps,x.block<W.heap.size/\sp x.block=true)->DataW.TrodAll enc P g5 0 sp true ts vs aS ps
 |[],[],[],_,_,h,_=>h
 |_::_,_::_,_::_,_,j9,⟨p,q,aa,ad,e⟩,hs=>
  ⟨p,q,WideElems.Trod_stays an (j9 _ (by simp)).1 (j9 _ (by simp)).2 aa (λx ab=>af.same (hs x (by rw[e];simp[ab])).1) (λx ab=>(hs x (by rw[e];simp[ab])).2),
    GR an af (λt aQ=>j9 t (by simp[aQ])) ad (λx ab=>hs x (by rw[e];simp[ab])),e⟩
theorem OH{f:Func}{s:ChangeSpec}{apart fresh handsOn again:Bool}{W g5:World}{args:Array Value}{aS gs:List (DataW H)}{before:List MemPlace}{GS:TypeId}
  (an:laidOutB P=true)(j9:∀t∈f.params.toList,P.readableRec t=true/\t<P.types.size)(hR:f.resultTypes=#[GS])(GU:P.underlying GS=some .bool)(BO:s.vars=[])
  (ix:DataW.Whole enc P f.params.toList s.vars apart W args.toList aS gs before)(l4:s.fn H aS={results:=[.lit (.bool true)],args:=aS})(af:Below W.heap.size W g5):
  s.post enc P f apart fresh handsOn again W args (.bool true) g5:=by
 have cj:∀p∈before,p.block<W.heap.size:=λp a6=>ix.lt p a6
 have OI:=ix
 obtain⟨qv,A2,h8,BP,rfl,aT,aG⟩:=ix
 rw[BO] at BP
 obtain⟨rfl,rfl⟩:=trodVars_none BP
 have e:s.fn H (aS++[])={results:=[.lit (.bool true)],args:=aS}:=by rw[List.append_nil];exact l4
 have gr:∀sp:Nat->Bool,(∀p∈qv++[],sp p.block=true)->DataW.TrodAll enc P g5 0 sp true f.params.toList args.toList aS qv:=λsp OJ=>
  GR an af j9 h8 (λx ab=>⟨cj x (by simp[ab]),OJ x (by simp[ab])⟩)
 have fF:∀(b:Nat) (sp:Nat->Bool) (az:Bool),DataW.TrodAll enc P g5 b sp az f.resultTypes.toList ((Value.bool true).resultList f.resultTypes.size) [.lit (.bool true)] []:=λb sp az=>by
  rw[hR];exact trodAll_mk1 (shut_bool GU true)
 refine⟨aS,[],qv++[],[],qv,[],OI,?_,?_,?_,World.keptBut_mono (λp a6=>⟨a6,?_⟩) (af.frame (· ∈qv++[])),λ_=>?_⟩
 · rw[e];exact fF _ _ _
 · rw[e];exact gr _ λp a6=>by simpa using cj p a6
 · rw[e,BO];rfl
 · exact Or.inr (by simpa using a6)
 · refine⟨ok_one hR rfl (okWide_bool_mk GU true),_,_,([]++qv)++[],⟨[]++qv,[],trodAll_append (gr _ (λ_ _=>rfl)) (fF _ _ _),show DataW.TrodVars enc P g5 (λ_=>true) s.vars [] [] from by rw[BO];rfl,rfl,?_,?_⟩,?_⟩
   · intro b off a6
     have cJ:MemPlace.cell b off∈qv++[]:=by simpa using a6
     rw[af.frozen (cj _ cJ)]
     exact aT b off cJ
   · intro aX
     simpa using aG aX
   · intro p a6 _
     simpa using a6
theorem OK{a:Assume}{C:Checked}{os:Os}{f:FuncId}{fn:Func}{s:ChangeSpec}{conds:List PathCond}{apart fresh handsOn again:Bool}{X:World->Array Value->Prop}
  (bf:∀(w w':World) (args:Array Value),w.heap=w'.heap->X w args->X w' args)
  (own:ownKnob C.prog.godebug=none)(started:os.Started)(OL:C.prog.inits.idxOf? f=none)(l4:C.prog.funcs[f]? =some fn)
  (witness:∃(w:World) (tape:Tape) (i:Input),w.os=os/\(w.forCall tape i).Shaped C.prog/\i.vars=[]/\Input.okWide C.prog (w.forCall tape i) .any w.heap.size f i/\
   ((s.pre enc C.prog fn conds apart (w.forCall tape i).memory i.args/\X (w.forCall tape i).memory i.args)/\sizedMet enc C.prog fn (OpenSpec.ofChange s) apart (w.forCall tape i).memory i.args)/\a.holds C.prog (lone (Frame.enter C.prog f i.args .normal) [] (w.forCall tape i)))
  (OM:∀(W:World) (base:Nat) (args:Array Value) (aS gs:List (DataW H)) (before:List MemPlace),
   (∀(j:Nat) t v,fn.params[j]? =some t->args[j]? =some v->Value.okWide C.prog W .any base t v)->
   DataW.Whole enc C.prog fn.params.toList s.vars apart W args.toList aS gs before->
   (DataW.weightsEach C.prog (fn.params.toList++s.plain.varTypes C.prog) (aS++gs)).all (· <=reachBytes)=true->X W args->W.ShapedOpen C.prog->
   Calls C.prog f args W λe g5=>∃v,e=.returned v/\s.post enc C.prog fn apart fresh handsOn again W args v g5):
  ReturnsInHanded a C os f .any (λw args=>(s.pre enc C.prog fn conds apart w args/\X w args)/\sizedMet enc C.prog fn (OpenSpec.ofChange s) apart w args) (s.post enc C.prog fn apart fresh handsOn again):=by
 refine returnsInHanded_of_calls own started OL witness ?_
 intro w tape i _ hS _ du ON XC
 obtain⟨_,_,_,Ax,OO,_,_,_,_,l5⟩:=du
 have e:Ax=fn:=Option.some.inj (OO.symm.trans l4)
 subst e
 obtain⟨⟨⟨aS,gs,before,hw,ag⟩,ab⟩,aT⟩:=ON
 have OP:=DataW.Whole.of_heap (w':=w.forCall tape i) (by rfl) hw
 refine(OM (w.forCall tape i) w.heap.size i.args aS gs before l5 OP (aT.weights hw) (bf _ _ _ (by rfl) ab) hS).mono λe g5 ⟨v,he,a6⟩=>?_
 subst he
 exact ChangeSpec.post_blind a6
end
end aw
namespace aw
open Go Go.RowKit
mutual
def lk:I->Bool
 |.bool _=>true
 |.int _ _=>true
 |.str _=>true
 |.bd=>true
 |.a0=>true
 |.gm=>true
 |.eN=>true
 |.dW=>true
 |.fn _ a b=>oZ a&&oZ b
 |.iface _ v=>lk v
 |.agg cs=>oZ cs
 |.aK vs=>oZ vs
 |_=>false
def oZ:List I->Bool
 |[]=>true
 |v::vs=>lk v&&oZ vs
end
mutual
theorem BQ{μ aH:a8}:∀(a:I) (v:Value),lk a=true->a1 μ a v->a1 aH a v
 |.bool _,v,_,h=>h
 |.int _ _,v,_,h=>h
 |.str _,v,_,h=>h
 |.bd,v,_,h=>h
 |.a0,v,_,h=>h
 |.gm,v,_,h=>h
 |.eN,v,_,h=>h
 |.dW,v,_,h=>h
 |.fn f a b,v,ai,h=>by
  simp only[lk,Bool.and_eq_true] at ai
  obtain⟨b2,cs,e,aa,ad⟩:=h
  exact⟨b2,cs,e,rW _ _ ai.1 aa,rW _ _ ai.2 ad⟩
 |.iface t x,v,ai,h=>by
  simp only[lk] at ai
  obtain⟨y,e,aa⟩:=h
  exact⟨y,e,BQ _ _ ai aa⟩
 |.agg cs,v,ai,h=>by
  simp only[lk] at ai
  obtain⟨l,e,aa⟩:=h
  exact⟨l,e,rW _ _ ai aa⟩
 |.aK cs,v,ai,h=>by
  simp only[lk] at ai
  obtain⟨l,e,aa⟩:=h
  exact⟨l,e,rW _ _ ai aa⟩
 |.bad,v,ai,h=>by simp[lk] at ai
 |.ptr _ _,v,ai,h=>by simp[lk] at ai
 |.slice _ _ _ _,v,ai,h=>by simp[lk] at ai
 |.map _,v,ai,h=>by simp[lk] at ai
 |.bQ _,v,ai,h=>by simp[lk] at ai
theorem rW{μ aH:a8}:∀(as:List I) (vs:List Value),oZ as=true->bN μ as vs->bN aH as vs
 |[],vs,_,h=>h
 |a::as,vs,ai,h=>by
  simp only[oZ,Bool.and_eq_true] at ai
  obtain⟨v,tw,e,aa,ad⟩:=h
  exact⟨v,tw,e,BQ a v ai.1 aa,rW as tw ai.2 ad⟩
end
structure o0 where
 f:Nat
 args:List I
 v:I
def o1:List o0->Nat->List I->J->Option (I×J)
 |[],_,_,_=>none
 |e::T,f,args,h=>match Nat.beq f e.f with
  |true=>match I.iM args e.args with
   |true=>some (e.v,h)
   |false=>o1 T f args h
  |false=>o1 T f args h
theorem GV:∀(T:List o0) (f:Nat) (args:List I) (h:J) (v:I) (ak:J),o1 T f args h=some (v,ak)->ak=h/\∃e∈T,e.f=f/\e.args=args/\e.v=v
 |[],f,args,h,v,ak,ab=>by cases ab
 |e::T,f,args,h,v,ak,ab=>by
  simp only[o1] at ab
  have rest:o1 T f args h=some (v,ak)->ak=h/\∃cx∈e::T,cx.f=f/\cx.args=args/\cx.v=v:=λab=>by
   obtain⟨aa,cx,ad,ar⟩:=GV T f args h v ak ab
   exact⟨aa,cx,List.mem_cons_of_mem _ ad,ar⟩
  split at ab
  · rename_i hf
    split at ab
    · rename_i aX
      cases ab
      exact⟨rfl,e,by simp,(Nat.eq_of_beq_eq_true hf).symm,(oV _ _ aX).symm,rfl⟩
    · exact rest ab
  · exact rest ab
section
variable {P:Program}
def BR(P:Program)(intr:Nat->List I->J->Option (I×J))(n:Nat)(e:o0):Bool:=
 match e4 P intr n (.fn e.f) e.args (h1 P.globals.size) with
 |.ret v _=>I.beq v e.v&&lk e.v&&oZ e.args
 |_=>false
def rX(P:Program)(e:o0):Prop:=∃(intr:Nat->List I->J->Option (I×J)) (n:Nat),kI P intr/\BR P intr n e=true
theorem tu.mono{f:FuncId}{vs:List Value}{w:World}{R rY:Ending->World->Prop}(h:∀e w',R e w'->rY e w')(aj:tu P f vs w R):tu P f vs w rY:=by
 rcases aj with⟨v,w',aa,ad⟩|⟨aa,ad⟩
 · exact .inl ⟨v,w',aa,h _ _ ad⟩
 · exact .inr ⟨aa,ad.mono λe w' he=>h e w' he⟩
theorem GW(hf:Fit P){T:List o0}(j9:∀e∈T,rX P e):kI P (o1 T):=by
 intro f args H v aO ab μ w vs ah aj aB
 obtain⟨rfl,e,he,rfl,rfl,rfl⟩:=GV T f args H v aO ab
 obtain⟨intr,n,ae,af⟩:=j9 e he
 unfold BR at af
 split at af
 · rename_i v1 H1 eo
   simp only[Bool.and_eq_true] at af
   obtain⟨⟨jq,dw⟩,rZ⟩:=af
   have BS:=beq_eq _ _ jq
   subst BS
   have BT:P.globals.size<=w.heap.size:=by
    cases br:P.globals.size with
    |zero=>exact Nat.zero_le _
    |succ g=>
     obtain⟨i,aa,ad,ar⟩:=aj g (by omega)
     have:=(ah.lt _ i aa).2
     omega
   obtain⟨s1,s2,bI⟩:=OC (P:=P) BT
   have gi:=(BM hf ae n).fn e.f e.args (h1 P.globals.size) (by rw[eo];rfl) (v7 P.globals.size) w vs s1 s2 (rW _ _ rZ aB)
   rw[eo] at gi
   refine gi.mono λkE w' oQ=>?_
   obtain⟨aH,u,rfl,aR,a3,ck⟩:=oQ
   have hold:∀r,r<w.heap.size->w'.heap[r]? =w.heap[r]? :=λr ai=>ck.old r ai λb i an=>absurd rfl an
   refine⟨μ,u,rfl,BQ _ _ dw aR,⟨λb o i af ae=>(ah.rel b o i af ae).mono (en.refl μ) (hold _ (ah.lt b i ae).2),ah.inj,λb i ae=>⟨(ah.lt b i ae).1,Nat.lt_of_lt_of_le (ah.lt b i ae).2 ck.size⟩,ah.bound⟩,?_⟩
   exact⟨en.refl μ,ck.size,Nat.le_refl _,λ_ _ an=>an,λ_ _ _=>rfl,λr ai _=>hold r ai,(λb i aa ad=>by rw[aa] at ad;cases ad),λb o i af _ ae=>⟨af,hold _ (ah.lt b i ae).2⟩,ck.os,ck.out,ck.tape,ck.drawn⟩
 · cases af
def v8(P:Program):List o0->Prop
 |[]=>True
 |e::T=>rX P e/\v8 P T
theorem v8.ok:∀{T:List o0},v8 P T->∀e∈T,rX P e
 |[],_,e,he=>by cases he
 |x::T,h,e,he=>by
  rcases List.mem_cons.1 he with rfl|he
  · exact h.1
  · exact v8.ok h.2 e he
theorem BU(hf:Fit P){T:List o0}(j9:v8 P T){n:Nat}{e:o0}(h:BR P (o1 T) n e=true):rX P e:=⟨o1 T,n,GW hf j9.ok,h⟩
end
end aw
namespace aw
open Go
def o2(G:Nat)(is:List dL):a8:=λb=>if b<G then some ⟨b,0,0⟩ else is[b-G]?
def r0(h:J)(r:List I×Nat):J:=h.push (.cells r.1 r.2 .ro 0 0)
def r3(G:Nat)(rows:List (List I×Nat)):J:=rows.foldl r0 (h1 G)
theorem yL:∀(rows:List (List I×Nat)) (h:J),(∀b,h.n<=b->h.get b=none)->(rows.foldl r0 h).n=h.n+rows.length/\∀b,(rows.foldl r0 h).get b=if b<h.n then h.get b else(rows[b-h.n]?).map λr=>.cells r.1 r.2 .ro 0 0
 |[],h,af=>⟨rfl,λb=>by
  split
  · rfl
  · rename_i aG;simpa using af b (by omega)⟩
 |r::rows,h,af=>by
  have aG:(r0 h r).n=h.n+1:=rfl
  have aj:∀b,(r0 h r).get b=if b=h.n then some (.cells r.1 r.2 .ro 0 0) else h.get b:=λb=>J.ec _ _ _
  obtain⟨aR,a3⟩:=yL rows (r0 h r) λb aa=>by rw[aj,if_neg (by omega)];exact af b (by omega)
  refine⟨by rw[List.foldl_cons,aR,aG,List.length_cons];omega,λb=>?_⟩
  rw[List.foldl_cons,a3,aG,aj]
  by_cases aa:b<h.n
  · rw[if_pos (by omega),if_neg (by omega),if_pos aa]
  · rw[if_neg aa]
    by_cases ad:b=h.n
    · subst ad;rw[if_pos (by omega),if_pos rfl,Nat.sub_self];rfl
    · rw[if_neg (by omega)]
      obtain⟨k,rfl⟩:∃k,b=h.n+(k+1):=⟨b-h.n-1,by omega⟩
      have aC:h.n+(k+1)-(h.n+1)=k:=by omega
      have ax:h.n+(k+1)-h.n=k+1:=by omega
      rw[aC,ax];rfl
theorem BV(G:Nat)(rows:List (List I×Nat)):(r3 G rows).n=G+rows.length:=(yL rows (h1 G) λ_ _=>rfl).1
theorem BW(G:Nat)(rows:List (List I×Nat))(b:Nat):(r3 G rows).get b=if b<G then none else(rows[b-G]?).map λr=>.cells r.1 r.2 .ro 0 0:=(yL rows (h1 G) λ_ _=>rfl).2 b
def tJ(W:World)(i:dL)(cs:List I)(el:Nat):Prop:=∃c fz,W.heap[i.a5]? =some (.cells c el fz)/\(∀μ,xS μ cs c i.base)/\i.base+i.size=c.size
theorem OQ{P:Program}{l:List (dL×List I×Nat)}{k:Nat}{x:dL×List I×Nat}(h:l[k]? =some x):o2 P.globals.size (l.map (·.1)) (P.globals.size+k)=some x.1:=by
 unfold o2
 rw[if_neg (by omega),Nat.add_sub_cancel_left,List.getElem?_map,h];rfl
theorem OR{P:Program}{l:List (dL×List I×Nat)}{k:Nat}{x:dL×List I×Nat}(h:l[k]? =some x):(r3 P.globals.size (l.map (·.2))).get (P.globals.size+k)=some (.cells x.2.1 x.2.2 .ro 0 0):=by
 rw[BW,if_neg (by omega),Nat.add_sub_cancel_left,List.getElem?_map,h];rfl
end aw
namespace aw
open Go
theorem GX{P:Program}{W:World}{r:Reach}{base t:Nat}{v:Value}{ts:List TypeId}(hu:k6 P t=some true)(aQ:P.cellTypes P.depth t=some ts)(aG:P.cellsOf t=ts.length)(h:Value.okWide P W r base t v):
  ∃cs:List Value,v=.agg ⟨cs⟩/\cs.length=ts.length/\∀(i:Nat) (x:Value) (u:TypeId),cs[i]? =some x->ts[i]? =some u->Cell.okWide P W r base u x:=by
 have key:∃cs,v=.agg cs/\cs.size=P.cellsOf t/\Row.okWide P W r base t cs:=by
  unfold k6 at hu
  unfold Value.okWide at h
  cases ab:P.underlying t with
  |none=>rw[ab] at hu;cases hu
  |some x=>
   rw[ab] at hu h
   cases x<;>first|exact h|simp at hu
 obtain⟨⟨cs⟩,rfl,hs,XD,aa,_,ar⟩:=key
 rw[aQ] at aa;cases aa
 have c8:cs.length=ts.length:=by simpa[aG] using hs
 refine⟨cs,rfl,c8,λi x u ab hu=>?_⟩
 obtain⟨mX,k_,ag⟩:=ar i x (by simpa using ab)
 have ae:i<ts.length:=(List.getElem?_eq_some_iff.1 hu).1
 rw[Nat.mod_eq_of_lt ae,hu] at k_
 cases k_
 exact ag
theorem GY{P:Program}{W:World}{r:Reach}{base u:Nat}{v:Value}(hu:P.underlying u=some .string)(h:Cell.okWide P W r base u v):∃s,v=.string s:=by
 simp only[Cell.okWide,hu] at h
 cases v<;>simp_all [Cell.ok]
end aw
