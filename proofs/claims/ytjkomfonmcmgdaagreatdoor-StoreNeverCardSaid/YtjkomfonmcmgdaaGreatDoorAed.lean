/-
  THE ABSTRACT EVALUATOR (drawn regions; a run of the evaluator is a run of the program): a deterministic semantics of loaded code, and the proof that its runs are runs of the program in the model, whatever the tape draws. No condition.
-/
import Derived.Test.YtjkomfonmcmgdaaGreatDoorAec
import Derived.Handed
import Derived.ProofKit
import Derived.Below
import Derived.ChangeSame
import Derived.SliceStrings
import Derived.WideShapes
set_option linter.unusedVariables false
set_option linter.unusedSimpArgs false
namespace aM
open Go
structure hv where
 P:Program
 need:Nat
 bP:Nat
 inR:Bool
 call:aI->List I->J->av
 ops:Array Oper
 r:aY
 b:Frame
 mu:bp
 H:J
 gO:World
 cs0:List Frame
 N:Nat
 f:Nat->sV
def hv.steps(X:hv):List DStep:=e1 X.ops.toList 0 [] []
def hv.val(X:hv)(j:Nat):I:=(nth (X.N-1-j) (X.f X.N).env).getD .bad
structure fF(X:hv):Prop where
 ag:jc X.P X.call
 fe:X.inR=X.b.roundOf.isSome
 km:∀o∈X.ops.toList,∀t,o.dst=some t->t<X.bP
 hdr:pR X.ops X.steps=true
 gG:X.N<=X.ops.size
 sX:∀k s,k<X.N->X.steps[k]? =some s->sW X.P X.need X.inR X.call X.ops X.r X.H.n s (X.f k) (X.f (k+1))
 Rr:(X.f 0).env=[]
 rv:(X.f 0).bc=[]
 looks:∀i s,i<X.N->X.steps[i]? =some s->kindOf X.P s.o.op=.pure->∃dQ,kJ X.P X.need X.ops X.r X.N (X.f X.N).env s (X.val i) dQ (X.f X.N).h (X.f X.N).bc=true/\(∀e,dQ=some e->e=X.N/\X.N<X.ops.size)
 last:∀s,X.steps[X.N]? =some s->kindOf X.P s.o.op=.eb/\(∀e m h0 l,(X.f X.N).bc=(e,m,h0)::l->Nat.testBit s.eT e=true)/\∀k bg,X.N<k->X.steps[k]? =some bg->Nat.testBit bg.eT s.i=true
 mj:hd X.P X.mu
 Al:br X.mu X.H X.gO
section
variable {X:hv}
theorem fF.lO(bu:fF X){i:Nat}(af:i<X.ops.size):∃s,X.steps[i]? =some s/\s.i=i/\X.ops[i]? =some s.o/\s.loc=iK (X.ops.toList.take i) 0 []/\Sound X.ops i s.eT:=by
 have a2:X.ops.toList[i]? =some X.ops[i]:=by simp[af]
 obtain⟨s,ab,ad,ar,aJ,bO⟩:=xG (ops:=X.ops) X.ops.toList 0 [] [] (λk=>by simp) (uQ bu.hdr) (λj aL=>by omega) i _ a2
 refine⟨s,ab,by omega,by rw[ar];exact Array.getElem?_eq_getElem af,aJ,by simpa using bO⟩
theorem fF.lb(bu:fF X){i:Nat}{s:DStep}(h:X.steps[i]? =some s):i<X.ops.size/\s.i=i/\X.ops[i]? =some s.o/\s.loc=iK (X.ops.toList.take i) 0 []/\Sound X.ops i s.eT:=by
 have af:i<X.ops.size:=by
  have ab:=(List.getElem?_eq_some_iff.1 h).1
  rw[hv.steps,Ds] at ab
  simpa using ab
 obtain⟨bg,ab,ad⟩:=bu.lO af
 rw[h] at ab;cases ab
 exact⟨af,ad⟩
theorem fF.apart(bu:fF X){i j:Nat}{s bg:DStep}(ru:i<j)(ab:X.steps[i]? =some s)(ad:X.steps[j]? =some bg)(h:(∃t,s.o.dst=some t/\t∈lD X.ops bg.o)\/(∃t,bg.o.dst=some t/\t∈lD X.ops s.o)):Nat.testBit bg.eT i=true:=by
 have:=IL bu.hdr i j s bg ru ab ad h
 rw[(bu.lb ab).2.1] at this;exact this
theorem fF.Am(bu:fF X):∀k,k<=X.N->(X.f k).env.length=k
 |0,_=>by rw[bu.Rr];rfl
 |k+1,aq=>by
  obtain⟨s,ab,_⟩:=bu.lO (i:=k) (by have:=bu.gG;omega)
  have a6:=bu.Am k (by omega)
  have a_:=bu.sX k s (by omega) ab
  generalize X.f (k+1)=st at a_
  cases a_<;>simp[a6]
theorem fF.IN(bu:fF X)(k:Nat):∀m,k<=m->m<=X.N->∃l,(X.f m).env=l++(X.f k).env
 |0,ab,ad=>⟨[],by obtain rfl:k=0:=by omega
                  rfl⟩
 |m+1,ab,ad=>by
  by_cases e:k=m+1
  · exact⟨[],by rw[e];rfl⟩
  · obtain⟨l,aw⟩:=bu.IN k m (by omega) (by omega)
    obtain⟨s,hs,_⟩:=bu.lO (i:=m) (by have:=bu.gG;omega)
    have a_:=bu.sX m s (by omega) hs
    have:∃v,(X.f (m+1)).env=v::(X.f m).env:=by
     generalize X.f (m+1)=st at a_
     cases a_<;>exact⟨_,rfl⟩
    obtain⟨v,aB⟩:=this
    exact⟨v::l,by rw[aB,aw];rfl⟩
theorem IP{α:Type}:∀(l m:List α) (k:Nat),nth (l.length+k) (l++m)=nth k m
 |[],m,k=>by simp
 |a::l,m,k=>by
  have:(a::l).length+k=(l.length+k)+1:=by simp;omega
  rw[this];exact IP l m k
theorem fF.Dt(bu:fF X){k j:Nat}(aq:k<=X.N)(aL:j<k):nth (k-1-j) (X.f k).env=nth (X.N-1-j) (X.f X.N).env:=by
 obtain⟨l,aw⟩:=bu.IN k X.N aq (Nat.le_refl _)
 have ab:=bu.Am k aq
 have ad:=bu.Am X.N (Nat.le_refl _)
 rw[aw] at ad⊢
 simp only[List.length_append,ab] at ad
 have:X.N-1-j=l.length+(k-1-j):=by omega
 rw[this,IP]
theorem fF.An(bu:fF X){k:Nat}(aq:k<X.N){v:I}(h:(X.f (k+1)).env=v::(X.f k).env):X.val k=v:=by
 have ab:=bu.Dt (k:=k+1) (j:=k) aq (Nat.lt_succ_self k)
 unfold hv.val
 rw[<-ab,h]
 simp[nth]
theorem fF.IQ(bu:fF X){k:Nat}(aq:k<=X.N){a:Acc}(aS:a.below k):dt k (X.f k).env X.r a=dt X.N (X.f X.N).env X.r a:=by
 cases a with
 |env j=>simp only[dt];rw[bu.Dt aq aS]
 |reg p=>rfl
 |val v=>rfl
theorem xH(l:List Oper)(t:Nat):∀k,k<=l.length->
  (∀a,hX t (iK (l.take k) 0 [])=some a->∃j o,j<k/\a=.env j/\l[j]? =some o/\o.dst=some t/\∀jF o',j<jF->jF<k->l[jF]? =some o'->o'.dst≠some t)/\
  (hX t (iK (l.take k) 0 [])=none->∀j o,j<k->l[j]? =some o->o.dst≠some t)
 |0,_=>⟨λa h=>by simp[iK,hX] at h,λ_ j o aL=>by omega⟩
 |k+1,aq=>by
  obtain⟨Ao,Ap⟩:=xH l t k (by omega)
  have a2:l[k]? =some l[k]:=List.getElem?_eq_getElem (by omega)
  rw[IJ l 0 [] k l[k] a2,Nat.zero_add]
  unfold g9
  cases ao:(l[k]).dst with
  |none=>
   refine⟨λa h=>?_,λh j o aL mg=>?_⟩
   · obtain⟨j,o,ab,ad,ar,aJ,bO⟩:=Ao a h
     refine⟨j,o,by omega,ad,ar,aJ,λjF o' ba a7 b5=>?_⟩
     by_cases e:jF=k
     · subst e;rw[a2] at b5;cases b5;rw[ao];simp
     · exact bO jF o' ba (by omega) b5
   · by_cases e:j=k
     · subst e;rw[a2] at mg;cases mg;rw[ao];simp
     · exact Ap h j o (by omega) mg
  |some d=>
   simp only[n0]
   by_cases e:t=d
   · subst e
     refine⟨λa h=>?_,λh=>by simp at h⟩
     simp at h;subst h
     exact⟨k,_,by omega,rfl,a2,ao,λjF o' ba a7=>by omega⟩
   · simp only[e,if_false]
     refine⟨λa h=>?_,λh j o aL mg=>?_⟩
     · obtain⟨j,o,ab,ad,ar,aJ,bO⟩:=Ao a h
       refine⟨j,o,by omega,ad,ar,aJ,λjF o' ba a7 b5=>?_⟩
       by_cases ay:jF=k
       · subst ay;rw[a2] at b5;cases b5;rw[ao];simp;exactλcH=>e cH.symm
       · exact bO jF o' ba (by omega) b5
     · by_cases ay:j=k
       · subst ay;rw[a2] at mg;cases mg;rw[ao];simp;exactλcH=>e cH.symm
       · exact Ap h j o (by omega) mg
def hv.sY(X:hv)(S:List Nat)(μ:bp)(ca:Array Value):Prop:=∀t,
 (∀j o,j∈S->X.ops[j]? =some o->o.dst=some t->(∀k o',k∈S->X.ops[k]? =some o'->o'.dst=some t->k<=j)->bl μ (X.val j) (ca.getD t undef))/\
 ((∀j o,j∈S->X.ops[j]? =some o->o.dst≠some t)->Nat.testBit X.need t=true->bl μ (X.r.get (gU t)) (ca.getD t undef))
theorem hv.sY.mono{S:List Nat}{μ aX:bp}{ca:Array Value}(hle:e2 μ aX)(h:X.sY S μ ca):X.sY S aX ca:=λt=>⟨λj o ab ad ar aJ=>((h t).1 j o ab ad ar aJ).mono hle,λab ad=>((h t).2 ab ad).mono hle⟩
theorem fF.IS(bu:fF X){S:List Nat}(hI:xE X.ops S){μ:bp}{ca:Array Value}(ak:X.sY S μ ca){i:Nat}(af:i<=X.N)(dR:i∉S)(cC:kQ X.ops S i){s:DStep}(hs:X.steps[i]? =some s){t:Nat}(a_:t∈lD X.ops s.o):
  bl μ (dt i (X.f i).env X.r (cE X.P X.need s.loc (.tmp t))) (ca.getD t undef):=by
 obtain⟨fe,hM,eF,mv,lP⟩:=bu.lb hs
 obtain⟨f1,f2⟩:=xH X.ops.toList t i (by simp;omega)
 have IT:∀k o',k∈S->X.ops[k]? =some o'->o'.dst=some t->k<i:=λk o' aq ie ao=>by
  have o8:k<X.ops.size:=(Array.getElem?_eq_some_iff.1 ie).1
  rcases Nat.lt_trichotomy k i with h|h|h
  · exact h
  · subst h;exact absurd aq dR
  · obtain⟨bg,ba,a7,b5,gr,gb⟩:=bu.lO o8
    rw[ie] at b5;cases b5
    have:=bu.apart h hs ba (.inr ⟨t,ao,a_⟩)
    exact absurd (gb S hI (hI k aq) i this) dR
 simp only[cE,mv]
 cases hf:hX t (iK (X.ops.toList.take i) 0 []) with
 |some a=>
  obtain⟨j,o,aL,rfl,mg,ao,pV⟩:=f1 a hf
  have IU:X.ops[j]? =some o:=by simpa using mg
  obtain⟨bg,ba,a7,b5,gr,gb⟩:=bu.lO (i:=j) (by omega)
  rw[IU] at b5;cases b5
  have Du:j∈S:=lP S hI cC j (bu.apart aL ba hs (.inl ⟨t,ao,a_⟩))
  have:=(ak t).1 j _ Du IU ao λk o' aq ie mm=>by
   have Rs:=IT k o' aq ie mm
   rcases Nat.lt_or_ge j k with h|h
   · exact absurd mm (pV k o' h Rs (by simpa using ie))
   · exact h
  have aB:dt i (X.f i).env X.r (.env j)=X.val j:=by
   simp only[dt,hv.val]
   rw[bu.Dt af aL]
  simp only[aB];exact this
 |none=>
  simp only[]
  cases ae:Nat.testBit X.need t with
  |false=>trivial
  |true=>
   exact(ak t).2 (λj o aL a2 ao=>f2 hf j o (IT j o aL a2 ao) (by simpa using a2) ao) ae
theorem fF.IV(bu:fF X){S:List Nat}(hI:xE X.ops S){μ:bp}{a:Act}(bw:a.tmps.size=X.bP)(ak:X.sY S μ a.tmps){i:Nat}(dR:i∉S)(cC:kQ X.ops S i){s:DStep}(hs:X.steps[i]? =some s){u:Value}(hu:bl μ (X.val i) u):
  X.sY (i::S) μ (a.put s.o.dst u).tmps:=by
 obtain⟨fe,hM,eF,mv,lP⟩:=bu.lb hs
 have b8:∀t,s.o.dst=some t->t<a.tmps.size:=λt h=>by
  rw[bw];exact bu.km s.o (by rw[<-Array.getElem?_toList] at eF;exact List.mem_of_getElem? eF) t h
 intro t
 by_cases ao:s.o.dst=some t
 · have hH:(a.put s.o.dst u).tmps.getD t undef=u:=by
     rw[ao];simp only[Act.put];rw[xu (b8 t ao),if_pos rfl]
   have Rt:∀k o',k∈S->X.ops[k]? =some o'->o'.dst=some t->k<i:=λk o' aq ie mm=>by
    have o8:k<X.ops.size:=(Array.getElem?_eq_some_iff.1 ie).1
    rcases Nat.lt_trichotomy k i with h|h|h
    · exact h
    · subst h;exact absurd aq dR
    · obtain⟨bg,ba,a7,b5,gr,gb⟩:=bu.lO o8
      rw[ie] at b5;cases b5
      have:=bu.apart h hs ba (.inr ⟨t,mm,by simp[lD,ao]⟩)
      exact absurd (gb S hI (hI k aq) i this) dR
   refine⟨λj o aL a2 Aq xl=>?_,λn7=>absurd ao (n7 i s.o (by simp) eF)⟩
   have ru:=xl i s.o (by simp) eF ao
   rcases List.mem_cons.1 aL with rfl|aL
   · rw[hH];exact hu
   · have:=Rt j o aL a2 Aq;omega
 · have hH:(a.put s.o.dst u).tmps.getD t undef=a.tmps.getD t undef:=by
     cases IW:s.o.dst with
     |none=>rfl
     |some d=>
      simp only[Act.put]
      rw[xu (b8 d IW),if_neg (λe=>ao (by rw[IW,e]))]
   rw[hH]
   refine⟨λj o aL a2 Aq xl=>?_,λn7 ae=>(ak t).2 (λj o aL a2=>n7 j o (by simp[aL]) a2) ae⟩
   rcases List.mem_cons.1 aL with rfl|aL
   · rw[eF] at a2;cases a2;exact absurd Aq ao
   · exact(ak t).1 j o aL a2 Aq λk o' aq ie mm=>xl k o' (by simp[aq]) ie mm
def qd(μ:bp)(w:World)(b:Nat)(cq:da):Prop:=∃i O,μ b=some i/\w.heap[i.bk]? =some O/\(∀aX w',e2 μ aX->w'.heap[i.bk]? =some O->oU aX cq i w')/\(∀c j,c≠b->μ c=some j->j.bk≠i.bk)
theorem br.Dv{μ:bp}{H:J}{w:World}(h:br μ H w){b:Nat}{cq:da}(ae:b<H.n)(aO:μ b=none\/qd μ w b cq):br μ (H.set b (some cq)) w:=by
 refine⟨λc o i ag af=>?_,λc d i j ag ao af aL e=>?_,λc i af=>h.lt c i af,λc ag=>?_⟩
 · rw[J.cR] at ag
   by_cases e:c=b
   · subst e
     rw[if_pos rfl] at ag;cases ag
     rcases aO with aO|⟨IX,O,ab,ad,ar,aJ⟩
     · rw[aO] at af;cases af
     · rw[ab] at af;cases af
       exact ar μ w (e2.refl μ) ad
   · rw[if_neg e] at ag;exact h.rel c o i ag af
 · rw[J.cR] at ag ao
   by_cases aA:c=b
   · by_cases ay:d=b
     · rw[aA,ay]
     · subst aA
       rcases aO with aO|⟨IX,O,ab,ad,ar,aJ⟩
       · rw[aO] at af;cases af
       · rw[ab] at af;cases af
         exact absurd e.symm (aJ d j ay aL)
   · by_cases ay:d=b
     · subst ay
       rcases aO with aO|⟨IX,O,ab,ad,ar,aJ⟩
       · rw[aO] at aL;cases aL
       · rw[ab] at aL;cases aL
         exact absurd e (aJ c i aA af)
     · rw[if_neg aA] at ag;rw[if_neg ay] at ao
       exact h.inj c d i j ag ao af aL e
 · rw[J.cR,if_neg (by simp at ag;omega)];exact h.bound c (by simpa using ag)
theorem b7.Dv{mu μ:bp}{H xI:J}{gO w:World}(ai:br mu H gO)(h:b7 mu H gO μ xI w){b:Nat}(cq:da)(ae:H.n<=b):b7 mu H gO μ (xI.set b (some cq)) w where
 le:=h.le
 size:=h.size
 n:=by simpa using h.n
 live:=λc ag aw=>h.live c ag (by rw[J.cR,if_neg (by omega)] at aw;exact aw)
 idle:=λc ag hm=>by rw[J.cR,if_neg (by omega)];exact h.idle c ag hm
 old:=h.old
 new:=h.new
 ro:=λc o i ag ak af=>by
  have:=(ai.lt c i af).1
  rw[J.cR,if_neg (by omega)];exact h.ro c o i ag ak af
 os:=h.os
 out:=h.out
 tape:=h.tape
 drawn:=h.drawn
theorem br.early{μ:bp}{H:J}{w:World}(h:br μ H w){b:Nat}{cq:da}{O:Obj}{sz:Nat}(ae:b<H.n)(hm:μ b=none)(a2:∀o,H.get b=some o->o=cq)
  (Ru:∀aX w',e2 μ aX->w'.heap[w.heap.size]? =some O->oU aX cq ⟨w.heap.size,0,sz⟩ w'):e2 μ (fm μ b ⟨w.heap.size,0,sz⟩)/\br (fm μ b ⟨w.heap.size,0,sz⟩) H (w.alloc O):=by
 have hle:e2 μ (fm μ b ⟨w.heap.size,0,sz⟩):=λc i af=>by
  rw[ha];exact af
  intro e;subst e;rw[hm] at af;cases af
 have hold:∀r,r<w.heap.size->(w.alloc O).heap[r]? =w.heap[r]? :=λr ak=>by
  simp only[World.alloc,Array.getElem?_push];rw[if_neg (by omega)]
 refine⟨hle,λc o i ag af=>?_,λc d i j ag ao af aL e=>?_,λc i af=>?_,h.bound⟩
 · by_cases e:c=b
   · subst e
     rw[gp] at af;cases af
     rw[a2 o ag]
     exact Ru _ _ hle (World.heap_alloc_new _ _)
   · rw[ha _ _ e] at af
     exact(h.rel c o i ag af).mono hle (hold _ (h.lt c i af).2)
 · by_cases aA:c=b
   · by_cases ay:d=b
     · rw[aA,ay]
     · subst aA;rw[gp] at af;cases af
       rw[ha _ _ ay] at aL
       have:=(h.lt d j aL).2
       simp only at e;omega
   · by_cases ay:d=b
     · subst ay;rw[gp] at aL;cases aL
       rw[ha _ _ aA] at af
       have:=(h.lt c i af).2
       simp only at e;omega
     · rw[ha _ _ aA] at af;rw[ha _ _ ay] at aL
       exact h.inj c d i j ag ao af aL e
 · by_cases e:c=b
   · subst e;rw[gp] at af;cases af
     exact⟨ae,by simp⟩
   · rw[ha _ _ e] at af
     have:=h.lt c i af
     simp only[World.size_alloc];omega
theorem b7.early{mu μ:bp}{H xI:J}{gO w:World}(ai:br mu H gO)(h:b7 mu H gO μ xI w){b:Nat}(ae:H.n<=b)(hm:μ b=none){O:Obj}{sz:Nat}:b7 mu H gO (fm μ b ⟨w.heap.size,0,sz⟩) xI (w.alloc O):=by
 have hold:∀r,r<w.heap.size->(w.alloc O).heap[r]? =w.heap[r]? :=λr ak=>by
  simp only[World.alloc,Array.getElem?_push];rw[if_neg (by omega)]
 exact{
  le:=λc i af=>by
   have ab:=h.le c i af
   rw[ha];exact ab
   intro e;subst e;rw[hm] at ab;cases ab
  size:=by have:=h.size;simp only[World.size_alloc];omega
  n:=h.n
  live:=h.live
  idle:=h.idle
  old:=λr ak aK=>(hold r (Nat.lt_of_lt_of_le ak h.size)).trans (h.old r ak aK)
  new:=λc i ab ad=>by
   by_cases e:c=b
   · subst e;rw[gp] at ad;cases ad;exact⟨ae,.inl h.size⟩
   · rw[ha _ _ e] at ad;exact h.new c i ab ad
  ro:=λc o i ag ak af=>by
   obtain⟨ab,ad⟩:=h.ro c o i ag ak af
   exact⟨ab,(hold _ (Nat.lt_of_lt_of_le (ai.lt c i af).2 h.size)).trans ad⟩
  os:=h.os
  out:=h.out
  tape:=h.tape
  drawn:=h.drawn}
theorem qd.early{μ:bp}{H:J}{w:World}(h:br μ H w){b c:Nat}{cq:da}{O:Obj}{sz:Nat}(hm:μ b=none)(aO:qd μ w c cq):qd (fm μ b ⟨w.heap.size,0,sz⟩) (w.alloc O) c cq:=by
 obtain⟨i,Dw,ab,ad,ar,aJ⟩:=aO
 have cV:c≠b:=by intro e;subst e;rw[hm] at ab;cases ab
 have b8:=(h.lt c i ab).2
 have hle:e2 μ (fm μ b ⟨w.heap.size,0,sz⟩):=λc i af=>by
  rw[ha];exact af
  intro e;subst e;rw[hm] at af;cases af
 refine⟨i,Dw,by rw[ha _ _ cV];exact ab,?_,λaX w' aw sZ=>ar aX w' (hle.trans aw) sZ,λd j ao aL=>?_⟩
 · simp only[World.alloc,Array.getElem?_push];rw[if_neg (by omega)];exact ad
 · by_cases e:d=b
   · subst e;rw[gp] at aL;cases aL;simp only;omega
   · rw[ha _ _ e] at aL;exact aJ d j ao aL
theorem qd.o9{μ aX:bp}{H aV:J}{w w':World}(ai:br μ H w)(aS:b7 μ H w aX aV w'){c:Nat}{cq:da}(al:H.get c=none)(aO:qd μ w c cq):qd aX w' c cq:=by
 obtain⟨i,Dw,ab,ad,ar,aJ⟩:=aO
 have b8:=(ai.lt c i ab).2
 refine⟨i,Dw,aS.le _ _ ab,?_,λux cG aw sZ=>ar ux cG (aS.le.trans aw) sZ,λd j ao aL=>?_⟩
 · rw[aS.old i.bk b8]
   · exact ad
   · intro d j aw aL
     exact aJ d j (λe=>by subst e;exact aw al) aL
 · cases n4:μ d with
   |some Rv=>
    have:=aS.le d Rv n4
    rw[aL] at this;cases this
    exact aJ d j ao n4
   |none=>
    obtain⟨_,aK|⟨e,o,k,he,_,aq,Dx⟩⟩:=aS.new d j n4 aL
    · omega
    · rw[<-Dx]
      exact aJ e k (λcH=>by subst cH;rw[al] at he;cases he) aq
end
end aM
namespace aM
open Go
section
variable {X:hv}
def ry(X:hv)(i:Nat)(s:DStep)(v:I)(cq:da):Prop:=
 i<X.N/\kindOf X.P s.o.op=.alloc/\ep (gL X.P X.need X.ops X.r s.i (X.f i).env s)=some true/\jX X.P s.o.op (lN X.P X.need X.r s (X.f i).env) (X.H.n+i)=some (v,cq)
structure Inv(X:hv)(S:List Nat)(c:Nat)(μ:bp)(w:World)(a:Act)(cs:List Frame):Prop where
 ag:c<=X.N
 closed:xE X.ops S
 sub:∀i∈S,i<X.N
 eb:∀i s,X.steps[i]? =some s->i<X.N->kindOf X.P s.o.op=.eb->(i∈S<->i<c)
 rel:br μ (X.f c).h w
 o9:b7 X.mu X.H X.gO μ (X.f c).h w
 uU:gl μ (X.f c).d a.defers
 qr:ht μ X.b.kind X.cs0 (X.f c).q cs
 eh:∀i,i<X.ops.size->i∉S->μ (X.H.n+i)=none
 lay:∀i s v cq,X.steps[i]? =some s->ry X i s v cq->i∉S->i<c->(X.f c).h.get (X.H.n+i)=some cq
 n8:∀i,c<=i->i<X.ops.size->(X.f c).h.get (X.H.n+i)=none
 uV:X.H.n+X.ops.size<=(X.f c).h.n
 fM:∀i s v cq,X.steps[i]? =some s->ry X i s v cq->i∈S->c<=i->qd μ w (X.H.n+i) cq
 mb:X.sY S μ a.tmps
 sz:a.tmps.size=X.bP
theorem Inv.pass(bu:fF X){S:List Nat}{c:Nat}{μ:bp}{w:World}{a:Act}{cs:List Frame}(h:Inv X S c μ w a cs)(b8:c<X.N){s:DStep}(hs:X.steps[c]? =some s)(aq:kindOf X.P s.o.op≠ .eb):Inv X S (c+1) μ w a cs:=by
 obtain⟨fe,hM,eF,mv,lP⟩:=bu.lb hs
 have a_:=bu.sX c s b8 hs
 have IY:∀i bg,X.steps[i]? =some bg->i<X.N->kindOf X.P bg.o.op=.eb->(i∈S<->i<c+1):=λi bg ab ad ar=>by
  rw[h.eb i bg ab ad ar]
  have:i≠c:=by intro e;subst e;rw[hs] at ab;cases ab;exact aq ar
  omega
 have same:(X.f (c+1)).h=(X.f c).h->(X.f (c+1)).d=(X.f c).d->(X.f (c+1)).q=(X.f c).q->(∀v cq,¬ry X c s v cq)->Inv X S (c+1) μ w a cs:=λaA ay bx Dy=>by
  refine⟨b8,h.closed,h.sub,IY,by rw[aA];exact h.rel,by rw[aA];exact h.o9,by rw[ay];exact h.uU,by rw[bx];exact h.qr,h.eh,λi bg v cq ab ad ar aJ=>?_,λi ab ad=>(by rw[aA];exact h.n8 i (by omega) ad),by rw[aA];exact h.uV,λi bg v cq ab ad ar aJ=>h.fM i bg v cq ab ad ar (by omega),h.mb,h.sz⟩
  by_cases e:i=c
  · subst e;rw[hs] at ab;cases ab;exact absurd ad (Dy v cq)
  · rw[aA];exact h.lay i bg v cq ab ad ar (by omega)
 generalize hf:X.f (c+1)=st at a_
 cases a_ with
 |uS eU hw=>
  refine same (by rw[hf]) (by rw[hf]) (by rw[hf]) λv cq h2=>?_
  have:=h2.2.2.1
  rw[hw] at this;cases this
 |pure eU he=>
  refine same (by rw[hf]) (by rw[hf]) (by rw[hf]) λv cq h2=>?_
  have:=h2.2.1
  rw[eU] at this;cases this
 |eb eU a2 he=>exact absurd eU aq
 |alloc eU hw aS=>
  rename_i v cq
  have aA:(X.f (c+1)).h=(X.f c).h.set (X.H.n+c) (some cq):=by rw[hf,hM]
  have ay:(X.f (c+1)).d=(X.f c).d:=by rw[hf]
  have bx:(X.f (c+1)).q=(X.f c).q:=by rw[hf]
  have h2:ry X c s v cq:=⟨b8,eU,hw,by rw[<-hM];rw[<-hM] at aS;exact aS⟩
  have ae:X.H.n+c<(X.f c).h.n:=by have:=h.uV;omega
  have aO:μ (X.H.n+c)=none\/qd μ w (X.H.n+c) cq:=by
   by_cases IZ:c∈S
   · exact .inr (h.fM c s v cq hs h2 IZ (Nat.le_refl _))
   · exact .inl (h.eh c fe IZ)
  refine⟨b8,h.closed,h.sub,IY,by rw[aA];exact h.rel.Dv ae aO,by rw[aA];exact h.o9.Dv bu.Al cq (by omega),by rw[ay];exact h.uU,by rw[bx];exact h.qr,h.eh,λi bg v' Dz ab ad ar aJ=>?_,λi ab ad=>?_,by rw[aA];simpa using h.uV,λi bg v cq ab ad ar aJ=>h.fM i bg v cq ab ad ar (by omega),h.mb,h.sz⟩
  · rw[aA,J.cR]
    by_cases e:i=c
    · subst e
      rw[hs] at ab;cases ab
      have:=ad.2.2.2.symm.trans h2.2.2.2
      cases this
      rw[if_pos rfl]
    · rw[if_neg (by omega)];exact h.lay i bg v' Dz ab ad ar (by omega)
  · rw[aA,J.cR,if_neg (by omega)]
    exact h.n8 i (by omega) ad
def Norm(X:hv)(c:Nat):Prop:=c=X.N\/∃s,X.steps[c]? =some s/\kindOf X.P s.o.op=.eb
theorem Inv.norm(bu:fF X){S:List Nat}{μ:bp}{w:World}{a:Act}{cs:List Frame}:∀(k c:Nat),X.N-c=k->Inv X S c μ w a cs->∃c',Norm X c'/\Inv X S c' μ w a cs
 |0,c,aq,h=>⟨c,.inl (by have:=h.ag;omega),h⟩
 |k+1,c,aq,h=>by
  obtain⟨s,hs,_⟩:=bu.lO (i:=c) (by have:=bu.gG;omega)
  by_cases he:kindOf X.P s.o.op=.eb
  · exact⟨c,.inr ⟨s,hs,he⟩,h⟩
  · exact Inv.norm bu k (c+1) (by omega) (h.pass bu (by omega) hs he)
def xJ(ops:Array Oper)(o:Oper)(g:Operand->I):Operand->I
 |.tmp t=>if(lD ops o).contains t then g (.tmp t) else .bad
 |x=>g x
theorem Ar{ops:Array Oper}{o:Oper}{g:Operand->I}:∀x∈o.op.operands,g x=xJ ops o g x:=by
 intro x aa
 cases x with
 |tmp t=>
  have:(lD ops o).contains t=true:=by
   have ab:t∈o.op.operands.toList.filterMap λ|.tmp t=>some t|_=>none:=List.mem_filterMap.2 ⟨.tmp t,by simpa using aa,rfl⟩
   simp only[lD,List.contains_iff_mem,List.mem_append]
   exact .inl (.inr ab)
  simp only[xJ,this,if_true]
 |_=>rfl
theorem I0(bu:fF X){S:List Nat}{c:Nat}{μ:bp}{w:World}{a:Act}{cs:List Frame}(h:Inv X S c μ w a cs){i:Nat}(af:i<=X.N)(dR:i∉S)(cC:kQ X.ops S i){s:DStep}(hs:X.steps[i]? =some s):
  ∀x,bl μ (xJ X.ops s.o (lN X.P X.need X.r s (X.f i).env) x) (a.eval x):=by
 obtain⟨fe,hM,eF,mv,lP⟩:=bu.lb hs
 intro x
 cases x with
 |tmp t=>
  simp only[xJ]
  split
  · rename_i a_
    have:=bu.IS h.closed h.mb af dR cC hs (t:=t) (by simpa using a_)
    unfold lN;rw[hM];exact this
  · trivial
 |const v=>exact jY μ v
 |global g=>
  simp only[xJ,lN,cE,Act.eval]
  cases ae:Nat.blt g X.P.globals.size with
  |false=>exact trivial
  |true=>
   obtain⟨i,ab,ad,ar⟩:=bu.mj.mono h.o9.le g (by simpa using ae)
   obtain⟨hc,i0,xh⟩:=i
   simp only at ad ar
   subst ad;subst ar
   exact⟨_,ab,rfl⟩
 |func f=>exact⟨[],[],rfl,rfl,rfl⟩
theorem DA(bu:fF X){S:List Nat}{c:Nat}{μ:bp}{w:World}{a:Act}{cs:List Frame}(h:Inv X S c μ w a cs){i:Nat}(af:i<=X.N)(dR:i∉S)(cC:kQ X.ops S i){s:DStep}(hs:X.steps[i]? =some s):
  ∀o4,ep (gL X.P X.need X.ops X.r s.i (X.f i).env s)=some o4->Region.wanted s.o (yielded X.ops a.tmps)=o4:=by
 obtain⟨fe,hM,eF,mv,lP⟩:=bu.lb hs
 intro o4 hw
 unfold gL jr at hw
 unfold Region.wanted
 cases al:s.o.guard with
 |none=>rw[al] at hw;simp only[ep] at hw;cases hw;rfl
 |some p=>
  obtain⟨j,fh⟩:=p
  rw[al] at hw
  simp only at hw⊢
  cases a_:(X.ops[j]?).bind (·.dst) with
  |none=>rw[a_] at hw;simp only[dt,ep] at hw;cases hw
  |some t=>
   rw[a_] at hw
   simp only at hw
   have ak:=bu.IS h.closed h.mb af dR cC hs (t:=t) (by
    simp only[lD,List.mem_append]
    refine .inr ?_
    rw[al];simp only[a_];simp)
   rw[Ii a_]
   rw[hM] at hw
   generalize dt i (X.f i).env X.r (cE X.P X.need s.loc (.tmp t))=v at hw ak
   unfold ep at hw
   split at hw
   · rename_i he;cases he
   · rename_i he;cases he;cases hw
     have Da:a.tmps.getD t undef=_:=ak
     rw[Da];rfl
   · rename_i he;cases he;cases hw
     obtain⟨l,aw,rl⟩:=ak
     cases rl
     rw[aw];rfl
   · cases hw
theorem s0{P:Program}{inR:Bool}{call:aI->List I->J->av}{gd:Option (I×Bool)}{o:Oper}{g gg:Operand->I}{d:List bQ}{q:bD}{H:J}(h:∀x∈o.op.operands,g x=gg x):dL P inR call gd o g d q H=dL P inR call gd o gg d q H:=by
 unfold dL;rw[xC o H h]
theorem Inv.one(bu:fF X){S:List Nat}{c:Nat}{μ:bp}{w:World}{a:Act}{cs:List Frame}(h:Inv X S c μ w a cs){i:Nat}(af:i<=X.N)(dR:i∉S)(cC:kQ X.ops S i){s:DStep}(hs:X.steps[i]? =some s)(rest:List Nat)(k:List Item):
  C7 X.P μ (X.f c).h w X.b a X.ops s.o i rest k X.cs0 cs (dL X.P X.inR X.call (gL X.P X.need X.ops X.r s.i (X.f i).env s) s.o (lN X.P X.need X.r s (X.f i).env) (X.f c).d (X.f c).q (X.f c).h):=by
 obtain⟨fe,hM,eF,mv,lP⟩:=bu.lb hs
 rw[s0 (Ar (ops:=X.ops))]
 exact Ic bu.ag h.rel (bu.mj.mono h.o9.le) eF (DA bu h af dR cC hs) (I0 bu h af dR cC hs) h.uU h.qr bu.fe
theorem Inv.As(bu:fF X){S:List Nat}{c c':Nat}{μ aX:bp}{w w':World}{a:Act}{cs bN:List Frame}(h:Inv X S c μ w a cs){i:Nat}(af:i<X.N)(dR:i∉S)(cC:kQ X.ops S i){s:DStep}(hs:X.steps[i]? =some s)(aq:∀v cq,¬ry X i s v cq)
  {u:Value}{ds:List Deferred}(aB:bl aX (X.val i) u)(la:br aX (X.f c').h w')(kn:b7 μ (X.f c).h w aX (X.f c').h w')(ao:gl aX (X.f c').d ds)(aT:ht aX X.b.kind X.cs0 (X.f c').q bN)
  (uW:(c'=c/\kindOf X.P s.o.op≠ .eb)\/(c'=c+1/\i=c)):Inv X (i::S) c' aX w' {tmps:=(a.put s.o.dst u).tmps,defers:=ds} bN:=by
 obtain⟨fe,hM,eF,mv,lP⟩:=bu.lb hs
 have hle:=kn.le
 have xK:c<=c':=by rcases uW with⟨e,_⟩|⟨e,_⟩<;>omega
 have xL:=h.uV
 refine⟨?_,λj aL=>?_,λj aL=>?_,λj bg ab ad ar=>?_,la,b7.trans bu.Al h.rel h.o9 kn,ao,aT,λj ab ad=>?_,λj bg v cq ab ad ar aJ=>?_,λj ab ad=>?_,?_,λj bg v cq ab ad ar aJ=>?_,?_,?_⟩
 · rcases uW with⟨e,_⟩|⟨e,ay⟩
   · rw[e];exact h.ag
   · omega
 · have hm:kQ X.ops S j->kQ X.ops (i::S) j:=λai o a2 e he ae=>List.mem_cons_of_mem _ (ai o a2 e he ae)
   rcases List.mem_cons.1 aL with rfl|aL
   · exact hm cC
   · exact hm (h.closed j aL)
 · rcases List.mem_cons.1 aL with rfl|aL
   · exact af
   · exact h.sub j aL
 · have:=h.eb j bg ab ad ar
   rw[List.mem_cons,this]
   rcases uW with⟨e,ay⟩|⟨e,ay⟩
   · subst e
     have:j≠i:=by intro e;subst e;rw[hs] at ab;cases ab;exact ay ar
     simp[this]
   · omega
 · have At:j∉S:=λai=>ad (List.mem_cons_of_mem _ ai)
   cases hm:aX (X.H.n+j) with
   |none=>rfl
   |some eh=>
    have:=(kn.new _ eh (h.eh j ab At) hm).1
    omega
 · have At:j∉S:=λai=>ar (List.mem_cons_of_mem _ ai)
   have nT:j≠i:=λe=>ar (by simp[e])
   have acq:=ad.1
   have Hs:j<c:=by rcases uW with⟨e,_⟩|⟨e,ay⟩<;>omega
   rw[kn.idle _ (by have:=bu.gG;omega) (h.eh j (by have:=bu.gG;omega) At)]
   exact h.lay j bg v cq ab ad At Hs
 · have h0:=h.n8 j (by omega) ad
   cases al:(X.f c').h.get (X.H.n+j) with
   |none=>rfl
   |some o=>exact absurd h0 (kn.live _ (by omega) (by rw[al];simp))
 · exact Nat.le_trans xL kn.n
 · have nT:j≠i:=by
     intro e;subst e;rw[hs] at ab;cases ab;exact aq v cq ad
   have Du:j∈S:=by
    rcases List.mem_cons.1 ar with e|ai
    · exact absurd e nT
    · exact ai
   have acr:=ad.1
   exact(h.fM j bg v cq ab ad Du (by omega)).o9 h.rel kn (h.n8 j (by omega) (by have:=bu.gG;omega))
 · exact bu.IV (a:=a) h.closed h.sz (h.mb.mono hle) dR cC hs aB
 · simpa using(xv a s.o.dst u).trans h.sz
theorem xM{s:DStep}{v:I}(bu:fF X):∀(m:Nat),m<=X.N->∀(dQ:Option Nat) (uX:J),kJ X.P X.need X.ops X.r X.N (X.f X.N).env s v dQ uX (X.f m).bc=true->
  ∀c bg,c<m->X.steps[c]? =some bg->kindOf X.P bg.o.op=.eb->∃bc,bc=(X.f c).bc/\kJ X.P X.need X.ops X.r X.N (X.f X.N).env s v (some c) (X.f c).h bc=true
 |0,_,dQ,uX,h,c,bg,ag,_,_=>by omega
 |m+1,hm,dQ,uX,h,c,bg,ag,dp,aq=>by
  obtain⟨s3,ba,a7,_⟩:=bu.lO (i:=m) (by have:=bu.gG;omega)
  have a_:=bu.sX m s3 (by omega) ba
  by_cases e:c=m
  · subst e
    rw[ba] at dp;cases dp
    generalize hf:X.f (c+1)=st at a_ h
    cases a_ with
    |uS eU=>rw[aq] at eU;cases eU
    |alloc eU=>rw[aq] at eU;cases eU
    |pure eU=>rw[aq] at eU;cases eU
    |eb eU a2 he=>
     unfold kJ at h
     rw[Bool.and_eq_true] at h
     have ad:=h.2
     simp only[a7] at ad
     exact⟨_,rfl,ad⟩
  · have b8:c<m:=by omega
    generalize hf:X.f (m+1)=st at a_ h
    cases a_ with
    |uS eU=>exact xM bu m (by omega) dQ uX h c bg b8 dp aq
    |alloc eU=>exact xM bu m (by omega) dQ uX h c bg b8 dp aq
    |pure eU=>exact xM bu m (by omega) dQ uX h c bg b8 dp aq
    |eb eU a2 he=>
     unfold kJ at h
     rw[Bool.and_eq_true] at h
     have ad:=h.2
     simp only at ad
     exact xM bu m (by omega) _ _ ad c bg b8 dp aq
theorem DB(bu:fF X):∀(m:Nat),m<=X.N->∀e mk h0 l,(X.f m).bc=(e,mk,h0)::l->e<m/\∃bg,X.steps[e]? =some bg/\kindOf X.P bg.o.op=.eb/\mk=bg.eT
 |0,_,e,mk,h0,l,h=>by rw[bu.rv] at h;cases h
 |m+1,hm,e,mk,h0,l,h=>by
  obtain⟨s3,ba,a7,_⟩:=bu.lO (i:=m) (by have:=bu.gG;omega)
  have a_:=bu.sX m s3 (by omega) ba
  generalize hf:X.f (m+1)=st at a_ h
  cases a_ with
  |eb eU a2 he=>
   simp only[List.cons.injEq,Prod.mk.injEq] at h
   obtain⟨⟨rfl,rfl,rfl⟩,rfl⟩:=h
   exact⟨by omega,s3,by rw[a7];exact ba,eU,rfl⟩
  |_=>obtain⟨ab,ad⟩:=DB bu m (by omega) e mk h0 l h;exact⟨by omega,ad⟩
theorem Inv.looks(bu:fF X){S:List Nat}{c:Nat}{μ:bp}{w:World}{a:Act}{cs:List Frame}(h:Inv X S c μ w a cs)(aK:Norm X c){i:Nat}(af:i<X.N)(dR:i∉S)(cC:kQ X.ops S i){s:DStep}(hs:X.steps[i]? =some s)(aq:kindOf X.P s.o.op=.pure):
  lC X.P X.need X.ops X.r X.N (X.f X.N).env s (X.val i) (X.f c).h=true:=by
 obtain⟨fe,hM,eF,mv,lP⟩:=bu.lb hs
 obtain⟨dQ,ab,ad⟩:=bu.looks i s af hs aq
 have off:∀(dQ:Option Nat),(∀e,dQ=some e->e=c/\c∉S)->kJ X.P X.need X.ops X.r X.N (X.f X.N).env s (X.val i) dQ (X.f c).h (X.f c).bc=true->lC X.P X.need X.ops X.r X.N (X.f X.N).env s (X.val i) (X.f c).h=true:=by
  intro dQ Au ch
  unfold kJ at ch
  rw[Bool.and_eq_true] at ch
  have ar:=ch.1
  split at ar
  · rename_i ae
    exfalso
    rw[Bool.or_eq_true] at ae
    rcases ae with ae|ae
    · cases dQ with
      |none=>cases ae
      |some e=>
       obtain⟨rfl,q⟩:=Au e rfl
       exact q (lP S h.closed cC _ ae)
    · cases rz:(X.f c).bc with
      |nil=>rw[rz] at ae;cases ae
      |cons p l=>
       obtain⟨e,mk,h0⟩:=p
       rw[rz] at ae
       obtain⟨ba,bg,a7,b5,rfl⟩:=DB bu c h.ag e mk h0 l rz
       have DC:=(h.eb e bg a7 (by have:=h.ag;omega) b5).2 ba
       exact dR ((bu.lb a7).2.2.2.2 S h.closed (h.closed e DC) i (by rw[hM] at ae;exact ae))
  · exact ar
 have I1:∀e bg,X.steps[e]? =some bg->e=X.N->e∉S:=λe bg _ he ai=>by have:=h.sub e ai;omega
 by_cases xK:c=X.N
 · subst xK
   exact off dQ (λe he=>⟨(ad e he).1,λai=>by have:=h.sub _ ai;omega⟩) ab
 · have I2:c<X.N:=by have:=h.ag;omega
   rcases aK with e|⟨bg,ba,a7⟩
   · exact absurd e xK
   · obtain⟨bc,rfl,aJ⟩:=xM bu X.N (Nat.le_refl _) dQ _ ab c bg I2 ba a7
     refine off (some c) (λe he=>⟨by cases he;rfl,λai=>?_⟩) aJ
     have:=(h.eb c bg ba I2 a7).1 ai
     omega
end
end aM
namespace aM
open Go
section
variable {X:hv}
theorem I3(bu:fF X):∀(m:Nat),m<=X.N->
  (∀e mk h0 l,(X.f m).bc=(e,mk,h0)::l->∀j bg,e<j->j<m->X.steps[j]? =some bg->kindOf X.P bg.o.op≠ .eb)/\
  ((X.f m).bc=[]->∀j bg,j<m->X.steps[j]? =some bg->kindOf X.P bg.o.op≠ .eb)
 |0,_=>⟨λe mk h0 l h=>(by rw[bu.rv] at h;cases h),λ_ j bg aL=>(by omega)⟩
 |m+1,hm=>by
  obtain⟨Ao,Ap⟩:=I3 bu m (by omega)
  obtain⟨s3,ba,a7,_⟩:=bu.lO (i:=m) (by have:=bu.gG;omega)
  have a_:=bu.sX m s3 (by omega) ba
  have same:kindOf X.P s3.o.op≠ .eb->(X.f (m+1)).bc=(X.f m).bc->_:=λaq he=>(⟨λe mk h0 l h j bg ab ad ar=>by
    by_cases cH:j=m
    · subst cH;rw[ba] at ar;cases ar;exact aq
    · exact Ao e mk h0 l (he▸h) j bg ab (by omega) ar,λh j bg ad ar=>by
    by_cases cH:j=m
    · subst cH;rw[ba] at ar;cases ar;exact aq
    · exact Ap (he▸h) j bg (by omega) ar⟩:
   (∀e mk h0 l,(X.f (m+1)).bc=(e,mk,h0)::l->∀j bg,e<j->j<m+1->X.steps[j]? =some bg->kindOf X.P bg.o.op≠ .eb)/\((X.f (m+1)).bc=[]->∀j bg,j<m+1->X.steps[j]? =some bg->kindOf X.P bg.o.op≠ .eb))
  generalize hf:X.f (m+1)=st at a_ same⊢
  clear hf
  cases a_ with
  |uS eU=>exact same (by rw[eU];simp) rfl
  |alloc eU=>exact same (by rw[eU];simp) rfl
  |pure eU=>exact same (by rw[eU];simp) rfl
  |eb eU a2 he=>
   refine⟨λe mk h0 l h j bg ab ad ar=>?_,λh=>by cases h⟩
   simp only[List.cons.injEq,Prod.mk.injEq] at h
   obtain⟨⟨rfl,_,_⟩,_⟩:=h
   omega
theorem Inv.I4(bu:fF X){S:List Nat}{c:Nat}{μ:bp}{w:World}{a:Act}{cs:List Frame}(h:Inv X S c μ w a cs)(aK:Norm X c){i:Nat}(af:i<=X.N)(dR:i∉S)(cC:kQ X.ops S i){s:DStep}(hs:X.steps[i]? =some s)
  (aq:kindOf X.P s.o.op=.eb)(a2:∀e m h0 l,(X.f i).bc=(e,m,h0)::l->Nat.testBit s.eT e=true):i=c:=by
 obtain⟨fe,hM,eF,mv,lP⟩:=bu.lb hs
 have H0:c<=i:=by
  rcases Nat.lt_or_ge i X.N with ab|ab
  · have:=h.eb i s hs ab aq
    rcases Nat.lt_or_ge i c with ad|ad
    · exact absurd (this.2 ad) dR
    · exact ad
  · have:=h.ag;omega
 rcases Nat.lt_or_ge c i with b8|uY
 · exfalso
   rcases aK with e|⟨bg,ba,a7⟩
   · omega
   · obtain⟨r1,r2⟩:=I3 bu i af
     cases rz:(X.f i).bc with
     |nil=>exact r2 rz c bg b8 ba a7
     |cons p l=>
      obtain⟨e,mk,h0⟩:=p
      obtain⟨eN,s2,fR,js,_⟩:=DB bu i af e mk h0 l rz
      have DC:=lP S h.closed cC e (a2 e mk h0 l rz)
      have Rw:=(h.eb e s2 fR (by omega) js).1 DC
      exact r1 e mk h0 l rz c bg Rw b8 ba a7
 · omega
theorem Inv.Rx(bu:fF X){S:List Nat}{c:Nat}{μ:bp}{w:World}{a:Act}{cs:List Frame}(h:Inv X S c μ w a cs){i:Nat}(af:i<X.N)(dR:i∉S)(cC:kQ X.ops S i){s:DStep}(hs:X.steps[i]? =some s){v:I}{cq:da}(h2:ry X i s v cq)(aB:X.val i=v)(rest:List Nat)(k:List Item):
  ∃aX w' cy,Steps X.P (lone (X.b.atR a (.inRegion X.ops (i::rest)::k)) cs w) (lone (X.b.atR cy (.inRegion X.ops rest::k)) cs w')/\Inv X (i::S) c aX w' cy cs:=by
 obtain⟨fe,hM,eF,mv,lP⟩:=bu.lb hs
 obtain⟨_,aq,hw,aS⟩:=h2
 have C8:=DA bu h (Nat.le_of_lt af) dR cC hs _ hw
 rw[xD _ _ (Ar (ops:=X.ops))] at aS
 obtain⟨u,O,sz,aw⟩:=QC (P:=X.P) (w:=w) s.o (I0 bu h (Nat.le_of_lt af) dR cC hs) aS
 have ch:=stepGR_op (P:=X.P) (b:=X.b) (a:=a) (k:=k) (cs:=cs) (w:=w) (rest:=rest) eF C8
 have sP:s.o.semAt X.b.roundOf a.eval=execOp a.eval s.o:=Oper.semAt_eq _ _ _ λI5 e=>by rw[e] at aq;cases aq
 rw[sP] at ch
 obtain⟨aj,_⟩:=z4 ch
 have hN:=aj _ _ aw.run
 have ml:(X.b.atR a (.inRegion X.ops (i::rest)::k)).finish u=X.b.atR (a.put s.o.dst u) (.inRegion X.ops rest::k):=by
  rw[Frame.finish_atR,eF];rfl
 rw[ml] at hN
 have hJ:=h.eh i fe dR
 have xL:=h.uV
 have iA:∀o,(X.f c).h.get (X.H.n+i)=some o->o=cq:=λo al=>by
  rcases Nat.lt_or_ge i c with b8|uY
  · have:=h.lay i s v cq hs ⟨af,aq,hw,by rw[xD _ _ (Ar (ops:=X.ops))];exact aS⟩ dR b8
    rw[al] at this;cases this;rfl
  · rw[h.n8 i uY fe] at al;cases al
 obtain⟨hle,la⟩:=h.rel.early (b:=X.H.n+i) (by omega) hJ iA aw.obj
 have kn:=h.o9.early bu.Al (b:=X.H.n+i) (by omega) hJ (O:=O) (sz:=sz)
 have Ry:bl (fm μ (X.H.n+i) ⟨w.heap.size,0,sz⟩) (X.val i) u:=by rw[aB];exact aw.val _ hle (gp _ _ _)
 refine⟨fm μ (X.H.n+i) ⟨w.heap.size,0,sz⟩,_,_,hN,?_⟩
 have hm:∀{j},kQ X.ops S j->kQ X.ops (i::S) j:=λai o a2 e he ae=>List.mem_cons_of_mem _ (ai o a2 e he ae)
 refine⟨h.ag,λj aL=>?_,λj aL=>?_,λj bg ab ad ar=>?_,la,kn,?_,h.qr.mono hle,λj ab ad=>?_,λj bg v cq ab ad ar aJ=>h.lay j bg v cq ab ad (λai=>ar (List.mem_cons_of_mem _ ai)) aJ,h.n8,h.uV,λj bg v' Dz ab ad ar aJ=>?_,bu.IV h.closed h.sz (h.mb.mono hle) dR cC hs Ry,(xv _ _ _).trans h.sz⟩
 · rcases List.mem_cons.1 aL with rfl|aL
   · exact hm cC
   · exact hm (h.closed j aL)
 · rcases List.mem_cons.1 aL with rfl|aL
   · exact af
   · exact h.sub j aL
 · have nT:j≠i:=by intro e;subst e;rw[hs] at ab;cases ab;rw[aq] at ar;cases ar
   rw[List.mem_cons]
   simp only[nT,false_or]
   exact h.eb j bg ab ad ar
 · rw[put_defers];exact h.uU.mono hle
 · have nT:j≠i:=λe=>ad (by simp[e])
   rw[ha _ _ (by omega)]
   exact h.eh j ab (λai=>ad (List.mem_cons_of_mem _ ai))
 · rcases List.mem_cons.1 ar with e|ar
   · subst e
     rw[hs] at ab;cases ab
     have:=ad.2.2.2
     rw[xD _ _ (Ar (ops:=X.ops)),aS] at this
     cases this
     refine⟨⟨w.heap.size,0,sz⟩,O,gp _ _ _,World.heap_alloc_new _ _,λaX w' pZ sZ=>aw.obj aX w' (hle.trans pZ) sZ,λd jF ao aL=>?_⟩
     rw[ha _ _ ao] at aL
     have:=(h.rel.lt d jF aL).2
     simp only;omega
   · exact(h.fM j bg v' Dz ab ad ar aJ).early h.rel hJ
theorem DD(bu:fF X){i:Nat}(af:i<=X.N):C_ i (iK (X.ops.toList.take i) 0 []):=λt a aS=>by
 obtain⟨j,o,ab,rfl,_⟩:=(xH X.ops.toList t i (by have:=bu.gG;simp;omega)).1 a aS
 exact ab
theorem Inv.step(bu:fF X){S:List Nat}{c:Nat}{μ:bp}{w:World}{a:Act}{cs:List Frame}(h:Inv X S c μ w a cs){i:Nat}(af:i<X.N)(dR:i∉S)(cC:kQ X.ops S i)(rest:List Nat)(k:List Item):
  ∃c' aX w' cy bN,Steps X.P (lone (X.b.atR a (.inRegion X.ops (i::rest)::k)) cs w) (lone (X.b.atR cy (.inRegion X.ops rest::k)) bN w')/\Inv X (i::S) c' aX w' cy bN:=by
 obtain⟨c,aK,h⟩:=h.norm bu _ _ rfl
 obtain⟨s,hs,hM,eF,_⟩:=bu.lO (i:=i) (by have:=bu.gG;omega)
 have a_:=bu.sX i s af hs
 have hle:=Nat.le_of_lt af
 generalize hf:X.f (i+1)=st at a_
 cases a_ with
 |uS aq hw=>
  have aB:=bu.An af (v:=.aP []) (by rw[hf])
  have xq:=DA bu h hle dR cC hs _ hw
  have pW:=stepR_op_skip (P:=X.P) (b:=X.b) (a:=a) (k:=k) (cs:=cs) (w:=w) (ops:=X.ops) (i:=i) (rest:=rest) (by simp[eF,xq])
  rw[eF] at pW
  have he:a.put ((some s.o).bind (·.dst)) undef={tmps:=(a.put s.o.dst undef).tmps,defers:=a.defers}:=z5 a s.o.dst undef
  rw[he] at pW
  refine⟨c,μ,w,_,cs,.one pW,h.As bu af dR cC hs (λv cq h2=>?_) (by rw[aB];exact⟨[],rfl,rfl⟩) h.rel (b7.refl _ _ _) h.uU h.qr (.inl ⟨rfl,by rw[aq];simp⟩)⟩
  have:=h2.2.2.1
  rw[hw] at this;cases this
 |alloc aq hw aS=>
  rename_i v cq
  have aB:=bu.An af (v:=v) (by rw[hf])
  obtain⟨aX,w',cy,ab,ad⟩:=h.Rx bu af dR cC hs ⟨af,aq,hw,by rw[<-hM];rw[<-hM] at aS;exact aS⟩ aB rest k
  exact⟨c,aX,w',cy,cs,ab,ad⟩
 |pure aq he=>
  rename_i v bf bj an
  have aB:=bu.An af (v:=v) (by rw[hf])
  have kp:=h.looks bu aK af dR cC hs aq
  have fE:=h.one bu hle dR cC hs rest k
  have gv:gL X.P X.need X.ops X.r X.N (X.f X.N).env s=gL X.P X.need X.ops X.r s.i (X.f i).env s:=by
   unfold gL jr
   cases DE:s.o.guard with
   |none=>rfl
   |some p=>
    obtain⟨j,fh⟩:=p
    simp only
    cases acs:(X.ops[j]?).bind (·.dst) with
    |none=>rfl
    |some t=>
     simp only
     rw[hM,bu.IQ hle (by rw[(bu.lb hs).2.2.2.1];exact z8 (DD bu hle) _)]
  have eV:∀x,dt X.N (X.f X.N).env X.r (cE X.P X.need s.loc x)=lN X.P X.need X.r s (X.f i).env x:=λx=>by
   unfold lN
   rw[hM,bu.IQ hle (by rw[(bu.lb hs).2.2.2.1];exact z8 (DD bu hle) _)]
  unfold lC at kp
  rw[gv] at kp
  have rn:(λx=>dt X.N (X.f X.N).env X.r (cE X.P X.need s.loc x))=lN X.P X.need X.r s (X.f i).env:=funext eV
  rw[rn] at kp
  have Av:∀v cq,¬ry X i s v cq:=λv cq h2=>by have:=h2.2.1;rw[aq] at this;cases this
  have cV:kindOf X.P s.o.op≠ .eb:=by rw[aq];simp
  unfold dL at fE he
  cases I6:ep (gL X.P X.need X.ops X.r s.i (X.f i).env s) with
  |none=>rw[I6] at kp;cases kp
  |some fh=>
   rw[I6] at kp fE he
   cases fh with
   |false=>
    simp only at fE he
    cases he
    obtain⟨aX,w',u,sO,bN,s1,s2,bI,bL,cb,cW⟩:=fE
    exact⟨c,aX,w',_,bN,s1,h.As bu af dR cC hs Av (by rw[aB];exact s2) bI bL cb cW (.inl ⟨rfl,cV⟩)⟩
   |true=>
    simp only at kp fE
    split at kp
    · rename_i v' DF fi
      rw[fi] at fE
      simp only at fE
      have Rz:=beq_eq _ _ kp
      have RA:=Rl aq fi
      rw[RA] at fE
      obtain⟨aX,w',u,sO,bN,s1,s2,bI,bL,cb,cW⟩:=fE
      exact⟨c,aX,w',_,bN,s1,h.As bu af dR cC hs Av (by rw[<-Rz];exact s2) bI bL cb cW (.inl ⟨rfl,cV⟩)⟩
    · cases kp
 |eb aq a2 he=>
  rename_i v bf bj an
  have aB:=bu.An af (v:=v) (by rw[hf])
  have qe:=h.I4 bu aK hle dR cC hs aq a2
  have fE:=h.one bu hle dR cC hs rest k
  have Av:∀v cq,¬ry X i s v cq:=λv cq h2=>by have:=h2.2.1;rw[aq] at this;cases this
  rw[<-qe,he] at fE
  obtain⟨aX,w',u,sO,bN,s1,s2,bI,bL,cb,cW⟩:=fE
  have aA:(X.f (c+1)).h=an:=by rw[<-qe,hf]
  have ay:(X.f (c+1)).d=bf:=by rw[<-qe,hf]
  have bx:(X.f (c+1)).q=bj:=by rw[<-qe,hf]
  exact⟨c+1,aX,w',_,bN,s1,h.As bu af dR cC hs Av (by rw[aB];exact s2) (by rw[aA];exact bI) (by rw[aA,<-qe];exact bL) (by rw[ay];exact cb) (by rw[bx];exact cW) (.inr ⟨rfl,qe⟩)⟩
end
end aM
namespace aM
open Go
section
variable {X:hv}
def hv.ends(X:hv)(k:List Item)(e7:Machine)(res:mc):Prop:=n1 X.P X.need X.bP X.mu X.r X.H X.gO X.b k X.cs0 e7 (iK X.ops.toList 0 []) res
theorem hv.DG{k:List Item}{e7 a3:Machine}{res:mc}(h:Steps X.P e7 a3)(an:X.ends k a3 res):X.ends k e7 res:=by
 unfold hv.ends at*
 cases res with
 |ok env d q aV=>obtain⟨aX,w',cy,bN,s1,s2⟩:=an;exact⟨aX,w',cy,bN,h.trans s1,s2⟩
 |b4 v d q aV=>obtain⟨aX,w',cy,bN,u,bh,s1,s2⟩:=an;exact⟨aX,w',cy,bN,u,bh,h.trans s1,s2⟩
 |fail s=>trivial
structure DH(X:hv)(res:mc):Prop where
 ok:X.N=X.ops.size->res=.ok (X.f X.N).env (X.f X.N).d (X.f X.N).q (X.f X.N).h
 b4:X.N<X.ops.size->∀s,X.steps[X.N]? =some s->∃v bf bj an,dL X.P X.inR X.call (gL X.P X.need X.ops X.r s.i (X.f X.N).env s) s.o (lN X.P X.need X.r s (X.f X.N).env) (X.f X.N).d (X.f X.N).q (X.f X.N).h=.b4 v bf bj an/\res=.b4 v bf bj an
theorem Inv.order(bu:fF X){res:mc}(fp:DH X res)(k:List Item):∀(L:List Nat) (S:List Nat) (c:Nat) (μ:bp) (w:World) (a:Act) (cs:List Frame),sU X.ops S L->Inv X S c μ w a cs->X.ends k (lone (X.b.atR a (.inRegion X.ops L::k)) cs w) res
 |[],S,c,μ,w,a,cs,a2,h=>by
  have eg:∀i,i<X.ops.size->i∈S:=a2
  have gG:X.N=X.ops.size:=by
   have:=bu.gG
   rcases Nat.lt_or_ge X.N X.ops.size with b8|uY
   · have:=h.sub _ (eg _ b8);omega
   · omega
  obtain⟨c,aK,h⟩:=h.norm bu _ _ rfl
  have I1:c=X.N:=by
   rcases aK with e|⟨s,ba,a7⟩
   · exact e
   · have:=h.ag
     rcases Nat.lt_or_ge c X.N with b8|uY
     · have:=(h.eb c s ba b8 a7).1 (eg c (by omega));omega
     · omega
  subst I1
  rw[fp.ok gG]
  have hlen:=bu.Am X.N (Nat.le_refl _)
  have I7:X.ops.toList.take X.N=X.ops.toList:=by rw[gG];exact List.take_of_length_le (by simp)
  have mv:=DD bu (Nat.le_refl X.N)
  rw[I7] at mv
  refine⟨μ,w,a,cs,.one stepR_region_end,⟨by rw[hlen];exact mv,λt=>?_⟩,h.sz,h.rel,h.o9,h.uU,h.qr⟩
  rw[hlen]
  obtain⟨f1,f2⟩:=xH X.ops.toList t X.N (by simp;omega)
  rw[I7] at f1 f2
  simp only[cE]
  cases hf:hX t (iK X.ops.toList 0 []) with
  |some ac=>
   obtain⟨j,o,aL,rfl,mg,ao,pV⟩:=f1 ac hf
   have:=(h.mb t).1 j o (eg j (by omega)) (by simpa using mg) ao λk o' aq ie mm=>by
    rcases Nat.lt_or_ge j k with b8|uY
    · exact absurd mm (pV k o' b8 (h.sub k aq) (by simpa using ie))
    · exact uY
   exact this
  |none=>
   simp only[]
   cases ae:Nat.testBit X.need t with
   |false=>trivial
   |true=>
    exact(h.mb t).2 (λj o aL ie ao=>f2 hf j o (h.sub j aL) (by simpa using ie) ao) ae
 |i::L,S,c,μ,w,a,cs,a2,h=>by
  obtain⟨af,dR,cC,m6⟩:=a2
  rcases Nat.lt_trichotomy i X.N with b8|heq|s4
  · obtain⟨c',aX,w',cy,bN,ab,ad⟩:=h.step bu b8 dR cC L k
    exact hv.DG ab (Inv.order bu fp k L (i::S) c' aX w' cy bN m6 ad)
  ·
   obtain⟨s,hs,hM,eF,_⟩:=bu.lO af
   obtain⟨c,aK,h⟩:=h.norm bu _ _ rfl
   rw[heq] at hs
   obtain⟨bB,b2,dq⟩:=bu.last s hs
   rw[<-heq] at hs b2
   have qe:=h.I4 bu aK (Nat.le_of_eq heq) dR cC hs bB b2
   have fE:=h.one bu (Nat.le_of_eq heq) dR cC hs L k
   obtain⟨v,bf,bj,an,aA,ay⟩:=fp.b4 (by omega) s (by rw[<-heq];exact hs)
   rw[<-heq] at aA
   rw[<-qe,aA] at fE
   rw[ay]
   obtain⟨aX,w',u,s1,s2,bI,bL,cb,cW⟩:=fE
   rw[qe] at bL
   refine⟨aX,w',a,cs,u,_,s1,trivial,s2,λt a_ ae=>?_,h.sz,bI,b7.trans bu.Al h.rel h.o9 bL,cb,cW⟩
   obtain⟨f1,f2⟩:=xH X.ops.toList t X.ops.toList.length (Nat.le_refl _)
   rw[List.take_length] at f2
   have:=(h.mb t).2 (λj o aL ie ao=>f2 a_ j o (by have:=h.sub j aL;have:=bu.gG;simp;omega) (by simpa using ie) ao) ae
   exact this.mono bL.le
  · exfalso
    obtain⟨s,hs,_⟩:=bu.lO (i:=X.N) (by omega)
    obtain⟨bg,dp,_,_,_,lP⟩:=bu.lO af
    have:=(bu.last s hs).2.2 i bg s4 dp
    rw[(bu.lb hs).2.1] at this
    have:=h.sub _ (lP S h.closed cC _ this)
    omega
end
section
variable {P:Program}
theorem I8{need:Nat}{ops:Array Oper}{r:aY}{n:Nat}{env:List I}{last:Option Nat}{h:J}{bc:List (Nat×Nat×J)}:∀{l:List DStep},k9 P need ops r n env last h bc l=true->∀s∈l,s.i<n->kindOf P s.o.op=.pure->kJ P need ops r n env s ((nth (n-1-s.i) env).getD .bad) last h bc=true
 |[],_,s,hs,_,_=>by cases hs
 |x::l,aw,s,hs,af,aq=>by
  simp only[k9,Bool.and_eq_true] at aw
  rcases List.mem_cons.1 hs with rfl|hs
  · have ab:=aw.1
    have ae:Nat.blt s.i n=true:=by simpa using af
    rw[ae,aq] at ab
    exact ab
  · exact I8 aw.2 s hs af aq
theorem I9(hm:P.follows .mixedOrders=true){call:aI->List I->J->av}(ag:jc P call)(need bP:Nat):mq P need bP call:=by
 intro ops id km hdr b inR r d q H μ w a k cs0 cs fe ak bw ai al ao aT
 unfold ss
 simp only
 obtain⟨o6,kq⟩:∃o6:sV,o6=⟨[],d,q,⟨H.t,H.n+ops.size⟩,[]⟩:=⟨_,rfl⟩
 obtain⟨res,iO⟩:∃res,gj P need inR call ops r H.n (e1 ops.toList 0 [] []) [] d q ⟨H.t,H.n+ops.size⟩ []=res:=⟨_,rfl⟩
 rw[iO]
 by_cases I_:∃jK,res=.fail jK
 · obtain⟨jK,e⟩:=I_;subst e;trivial
 have RB:∀jK,res≠ .fail jK:=λjK e=>I_ ⟨jK,e⟩
 have RC:gj P need inR call ops r H.n (e1 ops.toList 0 [] []) o6.env o6.d o6.q o6.h o6.bc=res:=by rw[kq];exact iO
 obtain⟨f,N,f0,gG,Ja,uW⟩:=IM _ _ _ RC RB
 have hlen:(e1 ops.toList 0 [] []).length=ops.size:=by rw[Ds];simp
 rw[hlen] at gG
 have Jb:∀m,m<=N->(f m).env.length=m:=λm=>by
  induction m with
  |zero=>intro _;rw[f0,kq];rfl
  |succ m a6=>
   intro pY
   have hs:(e1 ops.toList 0 [] [])[m]? =some (e1 ops.toList 0 [] [])[m]:=List.getElem?_eq_getElem (by omega)
   have a_:=Ja m _ (by omega) hs
   have DI:=a6 (by omega)
   generalize f (m+1)=st at a_
   cases a_<;>simp[DI]
 let X:hv:={P:=P,need:=need,bP:=bP,inR:=inR,call:=call,ops:=ops,r:=r,b:=b,mu:=μ,H:=H,gO:=w,cs0:=cs0,N:=N,f:=f}
 let cK:World:={w with drawn:=w.drawn+1}
 have rr:∀o i,ops[i]? =some o->nS o i=true:=λo i a2=>by
  have af:i<ops.size:=(Array.getElem?_eq_some_iff.1 a2).1
  have ie:ops.toList[i]? =some o:=by simpa using a2
  obtain⟨s,ab,ad,ar,_⟩:=xG (ops:=ops) ops.toList 0 [] [] (λk=>by simp) (uQ hdr) (λj aL=>by omega) i o ie
  have:=uQ hdr s (List.mem_of_getElem? ab)
  rw[ar] at this
  have xN:s.i=i:=by omega
  rw[xN] at this;exact this
 have ld:=Rk rr (w.tape w.drawn (.order b.fn id))
 have eP:Steps P (lone (b.atR a (.code (.region id ops true)::k)) cs w) (lone (b.atR a (.inRegion ops (Region.schedule true ops (w.tape w.drawn (.order b.fn id)))::k)) cs cK):=by
  have:=stepR_region_draw (P:=P) (b:=b) (a:=a) (k:=k) (cs:=cs) (w:=w) (ops:=ops) (id:=id)
  rw[hm] at this
  exact .one this
 have hinv:Inv X [] 0 μ cK a cs:=by
  refine⟨Nat.zero_le _,(λj aL=>by cases aL),(λj aL=>by cases aL),(λi s ab ad ar=>⟨λaL=>(by cases aL),λaL=>(by omega)⟩),?_,?_,?_,?_,λi af _=>?_,(λi s v cq ab ad ar aJ=>by omega),λi af ad=>?_,?_,(λi s v cq ab ad ar aJ=>by cases ar),?_,bw⟩
  · show br μ (f 0).h cK
    rw[f0,kq]
    exact⟨λfh o i ae af=>(ai.rel fh o i ae af).mono (e2.refl μ) rfl,ai.inj,λfh i af=>⟨Nat.lt_of_lt_of_le (ai.lt fh i af).1 (Nat.le_add_right _ _),(ai.lt fh i af).2⟩,λfh ae=>ai.bound fh (Nat.le_trans (Nat.le_add_right _ _) ae)⟩
  · show b7 μ H w μ (f 0).h cK
    rw[f0,kq]
    exact⟨e2.refl μ,Nat.le_refl _,Nat.le_add_right _ _,λ_ _ aw=>aw,λ_ _ _=>rfl,λ_ _ _=>rfl,(λfh i ab ad=>by rw[ab] at ad;cases ad),λ_ _ _ ae _ _=>⟨ae,rfl⟩,rfl,rfl,rfl,Nat.le_succ _⟩
  · show gl μ (f 0).d a.defers
    rw[f0,kq];exact ao
  · show ht μ b.kind cs0 (f 0).q cs
    rw[f0,kq];exact aT
  · show μ (H.n+i)=none
    cases e:μ (H.n+i) with
    |none=>rfl
    |some eh=>have:=(ai.lt _ eh e).1;omega
  · show(f 0).h.get (H.n+i)=none
    rw[f0,kq]
    exact ai.bound (H.n+i) (Nat.le_add_right _ _)
  · show H.n+ops.size<=(f 0).h.n
    rw[f0,kq];exact Nat.le_refl _
  · intro t
    exact⟨λj o aL=>(by cases aL),λ_ ae=>ak t ae⟩
 have Jc:∀(dQ:Option Nat) (kp:k9 P need ops r (f N).env.length (f N).env dQ (f N).h (f N).bc (e1 ops.toList 0 [] [])=true) (Au:∀e,dQ=some e->e=N/\N<ops.size)
   (pV:∀s,(e1 ops.toList 0 [] [])[N]? =some s->kindOf P s.o.op=.eb/\(∀e m h0 l,(f N).bc=(e,m,h0)::l->Nat.testBit s.eT e=true)/\∀k bg,N<k->(e1 ops.toList 0 [] [])[k]? =some bg->Nat.testBit bg.eT s.i=true),fF X:=by
  intro dQ kp Au pV
  refine⟨ag,fe,km,hdr,gG,Ja,by show(f 0).env=[];rw[f0,kq],by show(f 0).bc=[];rw[f0,kq],λi s af hs aq=>?_,pV,al,ai⟩
  have hM:s.i=i:=by
   have DJ:i<ops.size:=Nat.lt_of_lt_of_le af gG
   obtain⟨bg,ab,ad,_⟩:=xG (ops:=ops) ops.toList 0 [] [] (λk=>by simp) (uQ hdr) (λj aL=>by omega) i _ (show ops.toList[i]? =some ops[i] by simp[DJ])
   have j2:(e1 ops.toList 0 [] [])[i]? =some s:=hs
   rw[ab] at j2;cases j2;omega
  have:=I8 kp s (List.mem_of_getElem? hs) (by rw[Jb N (Nat.le_refl _),hM];exact af) aq
  rw[Jb N (Nat.le_refl _),hM] at this
  exact⟨dQ,this,Au⟩
 rcases uW with⟨acu,aa⟩|⟨s,hs,aq,a2,RD,v,bf,bj,an,he,aa⟩
 · subst aa
   simp only
   cases kp:k9 P need ops r (f N).env.length (f N).env none (f N).h (f N).bc (e1 ops.toList 0 [] []) with
   |false=>trivial
   |true=>
    simp only
    have bu:=Jc none kp (λe he=>by cases he) (λs hs=>by rw[List.getElem?_eq_none (by omega)] at hs;cases hs)
    have fp:DH X (.ok (f N).env (f N).d (f N).q (f N).h):=⟨λ_=>rfl,λb8=>by
     have w7:N<ops.size:=b8
     omega⟩
    exact hv.DG (X:=X) eP (Inv.order bu fp k _ [] 0 μ cK a cs ld hinv)
 · subst aa
   simp only
   have hM:s.i=N:=by
    have DJ:N<ops.size:=by have:=(List.getElem?_eq_some_iff.1 hs).1;omega
    obtain⟨bg,ab,ad,_⟩:=xG (ops:=ops) ops.toList 0 [] [] (λk=>by simp) (uQ hdr) (λj aL=>by omega) N _ (show ops.toList[N]? =some ops[N] by simp[DJ])
    rw[ab] at hs;cases hs;omega
   have RE:N<ops.size:=by have:=(List.getElem?_eq_some_iff.1 hs).1;omega
   cases kp:k9 P need ops r (f N).env.length (f N).env (some s.i) (f N).h (f N).bc (e1 ops.toList 0 [] []) with
   |false=>trivial
   |true=>
    simp only
    have bu:=Jc (some s.i) kp (λe he=>by cases he;exact⟨hM,RE⟩) (λbg dp=>by rw[hs] at dp;cases dp;exact⟨aq,a2,RD⟩)
    have fp:DH X (.b4 v bf bj an):=⟨λe=>by
     have cH:N=ops.size:=e
     omega,λ_ bg dp=>by
     have j2:(e1 ops.toList 0 [] [])[N]? =some bg:=dp
     rw[hs] at j2;cases j2
     exact⟨v,bf,bj,an,he,rfl⟩⟩
    exact hv.DG (X:=X) eP (Inv.order bu fp k _ [] 0 μ cK a cs ld hinv)
structure Fit(P:Program):Prop where
 mixed:P.follows .mixedOrders=true
 code:uL P
 ext:Ah P
theorem DK(hf:Fit P){intr:Nat->List I->J->Option (I×J)}(af:nk P intr)(n:Nat):jc P (e6 P intr n):=
 IG af (λcall ag need bP=>I9 hf.mixed ag need bP) hf.code hf.ext n
end
end aM
namespace aM
open Go Go.RowKit Go.ChangeShapes Go.WideShapes
section
variable {P:Program}
def RF(P:Program):Bool:=P.funcs.toList.all λfn=>match fn.body with
 |some c=>hp fn.ntmps c&&!(fn.name== "runtime.NumGoroutine")
 |none=>true
def RG(P:Program):Bool:=P.funcs.toList.all λfn=>match fn.body with
 |some _=>true
 |none=>!rp.contains fn.name||(Extern.findNext fn).isNone
theorem Jd{g:FuncId}{ho:Func}(h:P.funcs[g]? =some ho):ho∈P.funcs.toList:=by
 rw[<-Array.getElem?_toList] at h;exact List.mem_of_getElem? h
theorem xO(hm:P.follows .mixedOrders=true)(ag:RF P=true)(he:RG P=true):Fit P where
 mixed:=hm
 code:=λg ho gc al ae=>by
  have:=List.all_eq_true.1 ag ho (Jd al)
  rw[ae] at this
  simp only[Bool.and_eq_true,Bool.not_eq_true'] at this
  exact this
 ext:=λg ho al ae aK=>by
  have:=List.all_eq_true.1 he ho (Jd al)
  rw[ae] at this
  simp only[Bool.or_eq_true,Bool.not_eq_true',List.contains_eq_mem,decide_eq_false_iff_not] at this
  rcases this with h|h
  · exact absurd aK h
  · simpa using h
def xP(H:J):Prop:=∀b o,H.get b=some o->o.oV=true
theorem b7.below{μ aX:bp}{H aV:J}{W ig:World}(ak:xP H)(ai:br μ H W)(h:b7 μ H W aX aV ig):Below W.heap.size W ig:=by
 refine⟨h.os,h.tape,h.out,h.size,λr b8=>?_⟩
 by_cases he:∃b i,H.get b≠none/\μ b=some i/\i.bk=r
 · obtain⟨b,i,ab,ad,rfl⟩:=he
   cases al:H.get b with
   |none=>exact absurd al ab
   |some o=>exact(h.ro b o i al (ak b o al) ad).2
 · exact h.old r b8 λb i ab ad ar=>he ⟨b,i,ab,ad,ar⟩
def xQ(G:Nat):bp:=λb=>if b<G then some ⟨b,0,0⟩ else none
theorem RH{W:World}(je:P.globals.size<=W.heap.size):br (xQ P.globals.size) (qT P.globals.size) W/\hd P (xQ P.globals.size)/\xP (qT P.globals.size):=by
 have aK:∀b,(qT P.globals.size).get b=none:=λb=>rfl
 refine⟨⟨λb o i h=>(by rw[aK] at h;cases h),λb c i j h=>absurd (aK b) h,λb i h=>?_,λb _=>aK b⟩,λg al=>⟨⟨g,0,0⟩,by simp[xQ,al],rfl,rfl⟩,λb o h=>(by rw[aK] at h;cases h)⟩
 unfold xQ at h
 split at h
 · rename_i ae;cases h;exact⟨ae,Nat.lt_of_lt_of_le ae je⟩
 · cases h
theorem RI(hf:Fit P){intr:Nat->List I->J->Option (I×J)}(af:nk P intr){n:Nat}{f:Nat}{fn:Func}{c:Code}(ng:P.funcs[f]? =some fn)(ae:fn.body=some c){args:List I}{H:J}{v:I}{aV:J}
  (eP:e6 P intr n (.fn f) args H=.ret v aV){μ:bp}{W:World}{vs:List Value}(ai:br μ H W)(al:hd P μ)(aB:b_ μ args vs):
  Calls P f ⟨vs⟩ W λe ig=>∃aX u,e=.returned u/\bl aX v u/\br aX aV ig/\b7 μ H W aX aV ig:=by
 have ab:=(DK hf af n).fn f args H (by rw[eP];rfl) μ W vs ai al aB
 rw[eP] at ab
 obtain⟨_,Dp⟩:=hf.code f fn c ng ae
 have he:=Ae ng ae Dp ⟨vs⟩ W
 rcases ab with⟨v',w',ba,_⟩|⟨_,a7⟩
 · rw[he] at ba;cases ba
 · exact a7.mono λe ig h=>h
def Aw:av->Bool
 |.ret (.bool true) _=>true
 |_=>false
theorem RJ{r:av}(h:Aw r=true):∃H,r=.ret (.bool true) H:=by
 unfold Aw at h
 split at h
 · exact⟨_,rfl⟩
 · cases h
theorem RK(hf:Fit P){intr:Nat->List I->J->Option (I×J)}(af:nk P intr){n:Nat}{f:Nat}{fn:Func}{c:Code}(ng:P.funcs[f]? =some fn)(ae:fn.body=some c){args:List I}{H:J}
  (eP:Aw (e6 P intr n (.fn f) args H)=true){μ:bp}{W:World}{vs:List Value}(ai:br μ H W)(ak:xP H)(al:hd P μ)(aB:b_ μ args vs):
  Calls P f ⟨vs⟩ W λe ig=>e=.returned (.bool true)/\Below W.heap.size W ig:=by
 obtain⟨aV,e⟩:=RJ eP
 exact(RI hf af ng ae e ai al aB).mono λe ig ⟨aX,u,ab,ad,ar,aJ⟩=>⟨by cases ad;exact ab,aJ.below ak ai⟩
def DL(P:Program):Bool:=match P.globals.size with
 |0=>true
 |g+1=>(((begin P (λ_ _=>0) default).world.heap[g]?).bind Obj.row?).isSome
theorem RL{W:World}(hs:W.ShapedOpen P)(ae:DL P=true):P.globals.size<=W.heap.size:=by
 unfold DL at ae
 cases al:P.globals.size with
 |zero=>exact Nat.zero_le _
 |succ g=>
  rw[al] at ae
  simp only at ae
  obtain⟨⟨zero,t⟩,aa⟩:=Option.isSome_iff_exists.1 ae
  obtain⟨cs,ab,_⟩:=hs.1 g zero t (by omega) aa
  have:=(Array.getElem?_eq_some_iff.1 ab).1
  omega
variable {H:Type} {enc:TypeId×Value->H}
theorem Je(aw:laidOutB P=true){W ig:World}(ae:Below W.heap.size W ig){sp:Nat->Bool}:∀{cv:List TypeId} {vs:List Value} {ds:List (DataW H)} {ps:List MemPlace},(∀t∈cv,P.readableRec t=true/\t<P.types.size)->
  DataW.TrodAll enc P W 0 (λ_=>true) true cv vs ds ps->(∀x∈ps,x.block<W.heap.size/\sp x.block=true)->DataW.TrodAll enc P ig 0 sp true cv vs ds ps
 |[],[],[],_,_,h,_=>h
 |_::_,_::_,_::_,_,n9,⟨p,q,ab,ad,e⟩,hs=>
  ⟨p,q,WideElems.Trod_stays aw (n9 _ (by simp)).1 (n9 _ (by simp)).2 ab (λx aa=>ae.same (hs x (by rw[e];simp[aa])).1) (λx aa=>(hs x (by rw[e];simp[aa])).2),
    Je aw ae (λt a_=>n9 t (by simp[a_])) ad (λx aa=>hs x (by rw[e];simp[aa])),e⟩
theorem RM{f:Func}{s:ChangeSpec}{apart fresh handsOn again:Bool}{W ig:World}{args:Array Value}{ds gs:List (DataW H)}{before:List MemPlace}{lQ:TypeId}
  (aw:laidOutB P=true)(n9:∀t∈f.params.toList,P.readableRec t=true/\t<P.types.size)(iO:f.resultTypes=#[lQ])(uZ:P.underlying lQ=some .bool)(DM:s.vars=[])
  (je:DataW.Whole enc P f.params.toList s.vars apart W args.toList ds gs before)(ng:s.fn H ds={results:=[.lit (.bool true)],args:=ds})(ae:Below W.heap.size W ig):
  s.post enc P f apart fresh handsOn again W args (.bool true) ig:=by
 have b8:∀p∈before,p.block<W.heap.size:=λp aO=>je.lt p aO
 have RN:=je
 obtain⟨rA,C2,jL,DN,rfl,aZ,aK⟩:=je
 rw[DM] at DN
 obtain⟨rfl,rfl⟩:=trodVars_none DN
 have e:s.fn H (ds++[])={results:=[.lit (.bool true)],args:=ds}:=by rw[List.append_nil];exact ng
 have hx:∀sp:Nat->Bool,(∀p∈rA++[],sp p.block=true)->DataW.TrodAll enc P ig 0 sp true f.params.toList args.toList ds rA:=λsp RO=>
  Je aw ae n9 jL (λx aa=>⟨b8 x (by simp[aa]),RO x (by simp[aa])⟩)
 have fE:∀(b:Nat) (sp:Nat->Bool) (ao:Bool),DataW.TrodAll enc P ig b sp ao f.resultTypes.toList ((Value.bool true).resultList f.resultTypes.size) [.lit (.bool true)] []:=λb sp ao=>by
  rw[iO];exact trodAll_mk1 (shut_bool uZ true)
 refine⟨ds,[],rA++[],[],rA,[],RN,?_,?_,?_,World.keptBut_mono (λp aO=>⟨aO,?_⟩) (ae.frame (· ∈rA++[])),λ_=>?_⟩
 · rw[e];exact fE _ _ _
 · rw[e];exact hx _ λp aO=>by simpa using b8 p aO
 · rw[e,DM];rfl
 · exact Or.inr (by simpa using aO)
 · refine⟨ok_one iO rfl (okWide_bool_mk uZ true),_,_,([]++rA)++[],⟨[]++rA,[],trodAll_append (hx _ (λ_ _=>rfl)) (fE _ _ _),show DataW.TrodVars enc P ig (λ_=>true) s.vars [] [] from by rw[DM];rfl,rfl,?_,?_⟩,?_⟩
   · intro b off aO
     have fe:MemPlace.cell b off∈rA++[]:=by simpa using aO
     rw[ae.frozen (b8 _ fe)]
     exact aZ b off fe
   · intro aS
     simpa using aK aS
   · intro p aO _
     simpa using aO
theorem RP{a:Assume}{C:Checked}{os:Os}{f:FuncId}{fn:Func}{s:ChangeSpec}{conds:List PathCond}{apart fresh handsOn again:Bool}{X:World->Array Value->Prop}
  (bu:∀(w w':World) (args:Array Value),w.heap=w'.heap->X w args->X w' args)
  (own:ownKnob C.prog.godebug=none)(started:os.Started)(RQ:C.prog.inits.idxOf? f=none)(ng:C.prog.funcs[f]? =some fn)
  (witness:∃(w:World) (tape:Tape) (i:Input),w.os=os/\(w.forCall tape i).Shaped C.prog/\i.vars=[]/\Input.okWide C.prog (w.forCall tape i) .any w.heap.size f i/\
   ((s.pre enc C.prog fn conds apart (w.forCall tape i).memory i.args/\X (w.forCall tape i).memory i.args)/\sizedMet enc C.prog fn (OpenSpec.ofChange s) apart (w.forCall tape i).memory i.args)/\a.holds C.prog (lone (Frame.enter C.prog f i.args .normal) [] (w.forCall tape i)))
  (RR:∀(W:World) (base:Nat) (args:Array Value) (ds gs:List (DataW H)) (before:List MemPlace),
   (∀(j:Nat) t v,fn.params[j]? =some t->args[j]? =some v->Value.okWide C.prog W .any base t v)->
   DataW.Whole enc C.prog fn.params.toList s.vars apart W args.toList ds gs before->
   (DataW.weightsEach C.prog (fn.params.toList++s.plain.varTypes C.prog) (ds++gs)).all (· <=reachBytes)=true->X W args->W.ShapedOpen C.prog->
   Calls C.prog f args W λe ig=>∃v,e=.returned v/\s.post enc C.prog fn apart fresh handsOn again W args v ig):
  ReturnsInHanded a C os f .any (λw args=>(s.pre enc C.prog fn conds apart w args/\X w args)/\sizedMet enc C.prog fn (OpenSpec.ofChange s) apart w args) (s.post enc C.prog fn apart fresh handsOn again):=by
 refine returnsInHanded_of_calls own started RQ witness ?_
 intro w tape i _ kr _ c9 RS acv
 obtain⟨_,_,_,Cv,RT,_,_,_,_,mn⟩:=c9
 have e:Cv=fn:=Option.some.inj (RT.symm.trans ng)
 subst e
 obtain⟨⟨⟨ds,gs,before,hw,ag⟩,aa⟩,aZ⟩:=RS
 have RU:=DataW.Whole.of_heap (w':=w.forCall tape i) (by rfl) hw
 refine(RR (w.forCall tape i) w.heap.size i.args ds gs before mn RU (aZ.weights hw) (bu _ _ _ (by rfl) aa) kr).mono λe ig ⟨v,he,aO⟩=>?_
 subst he
 exact ChangeSpec.post_blind aO
end
end aM
namespace aM
open Go Go.RowKit
mutual
def mw:I->Bool
 |.bool _=>true
 |.int _ _=>true
 |.str _=>true
 |.bb=>true
 |.a0=>true
 |.hW=>true
 |.fL=>true
 |.eS=>true
 |.fn _ a b=>rB a&&rB b
 |.iface _ v=>mw v
 |.agg cs=>rB cs
 |.aP vs=>rB vs
 |_=>false
def rB:List I->Bool
 |[]=>true
 |v::vs=>mw v&&rB vs
end
mutual
theorem DO{μ aX:bp}:∀(a:I) (v:Value),mw a=true->bl μ a v->bl aX a v
 |.bool _,v,_,h=>h
 |.int _ _,v,_,h=>h
 |.str _,v,_,h=>h
 |.bb,v,_,h=>h
 |.a0,v,_,h=>h
 |.hW,v,_,h=>h
 |.fL,v,_,h=>h
 |.eS,v,_,h=>h
 |.fn f a b,v,ak,h=>by
  simp only[mw,Bool.and_eq_true] at ak
  obtain⟨bR,cs,e,ab,ad⟩:=h
  exact⟨bR,cs,e,u0 _ _ ak.1 ab,u0 _ _ ak.2 ad⟩
 |.iface t x,v,ak,h=>by
  simp only[mw] at ak
  obtain⟨y,e,ab⟩:=h
  exact⟨y,e,DO _ _ ak ab⟩
 |.agg cs,v,ak,h=>by
  simp only[mw] at ak
  obtain⟨l,e,ab⟩:=h
  exact⟨l,e,u0 _ _ ak ab⟩
 |.aP cs,v,ak,h=>by
  simp only[mw] at ak
  obtain⟨l,e,ab⟩:=h
  exact⟨l,e,u0 _ _ ak ab⟩
 |.bad,v,ak,h=>by simp[mw] at ak
 |.ptr _ _,v,ak,h=>by simp[mw] at ak
 |.slice _ _ _ _,v,ak,h=>by simp[mw] at ak
 |.map _,v,ak,h=>by simp[mw] at ak
 |.dd _,v,ak,h=>by simp[mw] at ak
theorem u0{μ aX:bp}:∀(as:List I) (vs:List Value),rB as=true->b_ μ as vs->b_ aX as vs
 |[],vs,_,h=>h
 |a::as,vs,ak,h=>by
  simp only[rB,Bool.and_eq_true] at ak
  obtain⟨v,uK,e,ab,ad⟩:=h
  exact⟨v,uK,e,DO a v ak.1 ab,u0 as uK ak.2 ad⟩
end
structure qf where
 f:Nat
 args:List I
 v:I
def qg:List qf->Nat->List I->J->Option (I×J)
 |[],_,_,_=>none
 |e::T,f,args,h=>match Nat.beq f e.f with
  |true=>match I.m1 args e.args with
   |true=>some (e.v,h)
   |false=>qg T f args h
  |false=>qg T f args h
theorem Jf:∀(T:List qf) (f:Nat) (args:List I) (h:J) (v:I) (an:J),qg T f args h=some (v,an)->an=h/\∃e∈T,e.f=f/\e.args=args/\e.v=v
 |[],f,args,h,v,an,aa=>by cases aa
 |e::T,f,args,h,v,an,aa=>by
  simp only[qg] at aa
  have rest:qg T f args h=some (v,an)->an=h/\∃cH∈e::T,cH.f=f/\cH.args=args/\cH.v=v:=λaa=>by
   obtain⟨ab,cH,ad,ar⟩:=Jf T f args h v an aa
   exact⟨ab,cH,List.mem_cons_of_mem _ ad,ar⟩
  split at aa
  · rename_i hf
    split at aa
    · rename_i aS
      cases aa
      exact⟨rfl,e,by simp,(Nat.eq_of_beq_eq_true hf).symm,(uT _ _ aS).symm,rfl⟩
    · exact rest aa
  · exact rest aa
section
variable {P:Program}
def DP(P:Program)(intr:Nat->List I->J->Option (I×J))(n:Nat)(e:qf):Bool:=
 match e6 P intr n (.fn e.f) e.args (qT P.globals.size) with
 |.ret v _=>I.beq v e.v&&mw e.v&&rB e.args
 |_=>false
def s5(P:Program)(e:qf):Prop:=∃(intr:Nat->List I->J->Option (I×J)) (n:Nat),nk P intr/\DP P intr n e=true
theorem sN.mono{f:FuncId}{vs:List Value}{w:World}{R Jg:Ending->World->Prop}(h:∀e w',R e w'->Jg e w')(al:sN P f vs w R):sN P f vs w Jg:=by
 rcases al with⟨v,w',ab,ad⟩|⟨ab,ad⟩
 · exact .inl ⟨v,w',ab,h _ _ ad⟩
 · exact .inr ⟨ab,ad.mono λe w' he=>h e w' he⟩
theorem Jh(hf:Fit P){T:List qf}(n9:∀e∈T,s5 P e):nk P (qg T):=by
 intro f args H v aV aa μ w vs ai al aB
 obtain⟨rfl,e,he,rfl,rfl,rfl⟩:=Jf T f args H v aV aa
 obtain⟨intr,n,af,ae⟩:=n9 e he
 unfold DP at ae
 split at ae
 · rename_i v1 H1 eP
   simp only[Bool.and_eq_true] at ae
   obtain⟨⟨iP,fw⟩,RV⟩:=ae
   have RW:=beq_eq _ _ iP
   subst RW
   have iC:P.globals.size<=w.heap.size:=by
    cases bw:P.globals.size with
    |zero=>exact Nat.zero_le _
    |succ g=>
     obtain⟨i,ab,ad,ar⟩:=al g (by omega)
     have:=(ai.lt _ i ab).2
     omega
   obtain⟨s1,s2,bI⟩:=RH (P:=P) iC
   have iA:=(DK hf af n).fn e.f e.args (qT P.globals.size) (by rw[eP];rfl) (xQ P.globals.size) w vs s1 s2 (u0 _ _ RV aB)
   rw[eP] at iA
   refine iA.mono λnf w' o3=>?_
   obtain⟨aX,u,rfl,ba,a7,b5⟩:=o3
   have hold:∀r,r<w.heap.size->w'.heap[r]? =w.heap[r]? :=λr ak=>b5.old r ak λb i aw=>absurd rfl aw
   refine⟨μ,u,rfl,DO _ _ fw ba,⟨λb o i ae af=>(ai.rel b o i ae af).mono (e2.refl μ) (hold _ (ai.lt b i af).2),ai.inj,λb i af=>⟨(ai.lt b i af).1,Nat.lt_of_lt_of_le (ai.lt b i af).2 b5.size⟩,ai.bound⟩,?_⟩
   exact⟨e2.refl μ,b5.size,Nat.le_refl _,λ_ _ aw=>aw,λ_ _ _=>rfl,λr ak _=>hold r ak,(λb i ab ad=>by rw[ab] at ad;cases ad),λb o i ae _ af=>⟨ae,hold _ (ai.lt b i af).2⟩,b5.os,b5.out,b5.tape,b5.drawn⟩
 · cases ae
def xR(P:Program):List qf->Prop
 |[]=>True
 |e::T=>s5 P e/\xR P T
theorem xR.ok:∀{T:List qf},xR P T->∀e∈T,s5 P e
 |[],_,e,he=>by cases he
 |x::T,h,e,he=>by
  rcases List.mem_cons.1 he with rfl|he
  · exact h.1
  · exact xR.ok h.2 e he
theorem Ji(hf:Fit P){T:List qf}(n9:xR P T){n:Nat}{e:qf}(h:DP P (qg T) n e=true):s5 P e:=⟨qg T,n,Jh hf n9.ok,h⟩
end
end aM
namespace aM
open Go
def qh(G:Nat)(is:List eM):bp:=λb=>if b<G then some ⟨b,0,0⟩ else is[b-G]?
def u1(h:J)(r:List I×Nat):J:=h.push (.cells r.1 r.2 .ro 0 0)
def s6(G:Nat)(rows:List (List I×Nat)):J:=rows.foldl u1 (qT G)
theorem DQ:∀(rows:List (List I×Nat)) (h:J),(∀b,h.n<=b->h.get b=none)->(rows.foldl u1 h).n=h.n+rows.length/\∀b,(rows.foldl u1 h).get b=if b<h.n then h.get b else(rows[b-h.n]?).map λr=>.cells r.1 r.2 .ro 0 0
 |[],h,ae=>⟨rfl,λb=>by
  split
  · rfl
  · rename_i aK;simpa using ae b (by omega)⟩
 |r::rows,h,ae=>by
  have aK:(u1 h r).n=h.n+1:=rfl
  have al:∀b,(u1 h r).get b=if b=h.n then some (.cells r.1 r.2 .ro 0 0) else h.get b:=λb=>J.gk _ _ _
  obtain⟨ba,a7⟩:=DQ rows (u1 h r) λb ab=>by rw[al,if_neg (by omega)];exact ae b (by omega)
  refine⟨by rw[List.foldl_cons,ba,aK,List.length_cons];omega,λb=>?_⟩
  rw[List.foldl_cons,a7,aK,al]
  by_cases ab:b<h.n
  · rw[if_pos (by omega),if_neg (by omega),if_pos ab]
  · rw[if_neg ab]
    by_cases ad:b=h.n
    · subst ad;rw[if_pos (by omega),if_pos rfl,Nat.sub_self];rfl
    · rw[if_neg (by omega)]
      obtain⟨k,rfl⟩:∃k,b=h.n+(k+1):=⟨b-h.n-1,by omega⟩
      have aA:h.n+(k+1)-(h.n+1)=k:=by omega
      have ay:h.n+(k+1)-h.n=k+1:=by omega
      rw[aA,ay];rfl
theorem DR(G:Nat)(rows:List (List I×Nat)):(s6 G rows).n=G+rows.length:=(DQ rows (qT G) λ_ _=>rfl).1
theorem DS(G:Nat)(rows:List (List I×Nat))(b:Nat):(s6 G rows).get b=if b<G then none else(rows[b-G]?).map λr=>.cells r.1 r.2 .ro 0 0:=(DQ rows (qT G) λ_ _=>rfl).2 b
def DT(W:World)(i:eM)(cs:List I)(el:Nat):Prop:=∃c fz,W.heap[i.bk]? =some (.cells c el fz)/\(∀μ,zG μ cs c i.base)/\i.base+i.size=c.size
theorem RX{P:Program}{l:List (eM×List I×Nat)}{k:Nat}{x:eM×List I×Nat}(h:l[k]? =some x):qh P.globals.size (l.map (·.1)) (P.globals.size+k)=some x.1:=by
 unfold qh
 rw[if_neg (by omega),Nat.add_sub_cancel_left,List.getElem?_map,h];rfl
theorem RY{P:Program}{l:List (eM×List I×Nat)}{k:Nat}{x:eM×List I×Nat}(h:l[k]? =some x):(s6 P.globals.size (l.map (·.2))).get (P.globals.size+k)=some (.cells x.2.1 x.2.2 .ro 0 0):=by
 rw[DS,if_neg (by omega),Nat.add_sub_cancel_left,List.getElem?_map,h];rfl
end aM
namespace aM
open Go
end aM
