/-
  THE ABSTRACT EVALUATOR (drawn regions; a run of the evaluator is a run of the program): a deterministic semantics of loaded code, and the proof that its runs are runs of the program in the model, whatever the tape draws. No condition.
-/
import Derived.Test.YtjkomfonmcmgdaaGreatDoorAec
import Derived.Handed
import Derived.ProofKit
import Derived.Below
import Derived.ChangeSame
import Derived.SliceStrings
import Derived.WideShapes
set_option linter.unusedVariables false
set_option linter.unusedSimpArgs false
namespace aP
open Go
structure hE where
 P:Program
 need:Nat
 bP:Nat
 inR:Bool
 call:aI->List I->J->av
 ops:Array Oper
 r:aY
 b:Frame
 mO:bq
 H:J
 gX:World
 cs0:List Frame
 N:Nat
 f:Nat->tr
def hE.steps(X:hE):List DStep:=e7 X.ops.toList 0 [] []
def hE.val(X:hE)(j:Nat):I:=(nth (X.N-1-j) (X.f X.N).env).getD .bad
structure fK(X:hE):Prop where
 ag:jq X.P X.call
 fj:X.inR=X.b.roundOf.isSome
 kz:∀o∈X.ops.toList,∀t,o.dst=some t->t<X.bP
 hdr:qj X.ops X.steps=true
 gP:X.N<=X.ops.size
 tt:∀k s,k<X.N->X.steps[k]? =some s->ts X.P X.need X.inR X.call X.ops X.r X.H.n s (X.f k) (X.f (k+1))
 Sa:(X.f 0).env=[]
 rV:(X.f 0).bf=[]
 looks:∀i s,i<X.N->X.steps[i]? =some s->kindOf X.P s.o.op=.pure->∃dV,kX X.P X.need X.ops X.r X.N (X.f X.N).env s (X.val i) dV (X.f X.N).h (X.f X.N).bf=true/\(∀e,dV=some e->e=X.N/\X.N<X.ops.size)
 last:∀s,X.steps[X.N]? =some s->kindOf X.P s.o.op=.ek/\(∀e m h0 l,(X.f X.N).bf=(e,m,h0)::l->Nat.testBit s.e2 e=true)/\∀k bc,X.N<k->X.steps[k]? =some bc->Nat.testBit bc.e2 s.i=true
 mH:hn X.P X.mO
 AO:bt X.mO X.H X.gX
section
variable {X:hE}
theorem fK.l2(bu:fK X){i:Nat}(af:i<X.ops.size):∃s,X.steps[i]? =some s/\s.i=i/\X.ops[i]? =some s.o/\s.loc=iS (X.ops.toList.take i) 0 []/\Sound X.ops i s.e2:=by
 have a4:X.ops.toList[i]? =some X.ops[i]:=by simp[af]
 obtain⟨s,ab,ad,ar,aG,bJ⟩:=x6 (ops:=X.ops) X.ops.toList 0 [] [] (λk=>by simp) (vi bu.hdr) (λj aJ=>by omega) i _ a4
 refine⟨s,ab,by omega,by rw[ar];exact Array.getElem?_eq_getElem af,aG,by simpa using bJ⟩
theorem fK.lr(bu:fK X){i:Nat}{s:DStep}(h:X.steps[i]? =some s):i<X.ops.size/\s.i=i/\X.ops[i]? =some s.o/\s.loc=iS (X.ops.toList.take i) 0 []/\Sound X.ops i s.e2:=by
 have af:i<X.ops.size:=by
  have ab:=(List.getElem?_eq_some_iff.1 h).1
  rw[hE.steps,DR] at ab
  simpa using ab
 obtain⟨bc,ab,ad⟩:=bu.l2 af
 rw[h] at ab;cases ab
 exact⟨af,ad⟩
theorem fK.apart(bu:fK X){i j:Nat}{s bc:DStep}(rU:i<j)(ab:X.steps[i]? =some s)(ad:X.steps[j]? =some bc)(h:(∃t,s.o.dst=some t/\t∈lQ X.ops bc.o)\/(∃t,bc.o.dst=some t/\t∈lQ X.ops s.o)):Nat.testBit bc.e2 i=true:=by
 have:=Jn bu.hdr i j s bc rU ab ad h
 rw[(bu.lr ab).2.1] at this;exact this
theorem fK.AP(bu:fK X):∀k,k<=X.N->(X.f k).env.length=k
 |0,_=>by rw[bu.Sa];rfl
 |k+1,aq=>by
  obtain⟨s,ab,_⟩:=bu.l2 (i:=k) (by have:=bu.gP;omega)
  have a7:=bu.AP k (by omega)
  have ba:=bu.tt k s (by omega) ab
  generalize X.f (k+1)=st at ba
  cases ba<;>simp[a7]
theorem fK.Jq(bu:fK X)(k:Nat):∀m,k<=m->m<=X.N->∃l,(X.f m).env=l++(X.f k).env
 |0,ab,ad=>⟨[],by obtain rfl:k=0:=by omega
                  rfl⟩
 |m+1,ab,ad=>by
  by_cases e:k=m+1
  · exact⟨[],by rw[e];rfl⟩
  · obtain⟨l,aw⟩:=bu.Jq k m (by omega) (by omega)
    obtain⟨s,hs,_⟩:=bu.l2 (i:=m) (by have:=bu.gP;omega)
    have ba:=bu.tt m s (by omega) hs
    have:∃v,(X.f (m+1)).env=v::(X.f m).env:=by
     generalize X.f (m+1)=st at ba
     cases ba<;>exact⟨_,rfl⟩
    obtain⟨v,aC⟩:=this
    exact⟨v::l,by rw[aC,aw];rfl⟩
theorem Jr{α:Type}:∀(l m:List α) (k:Nat),nth (l.length+k) (l++m)=nth k m
 |[],m,k=>by simp
 |a::l,m,k=>by
  have:(a::l).length+k=(l.length+k)+1:=by simp;omega
  rw[this];exact Jr l m k
theorem fK.DS(bu:fK X){k j:Nat}(aq:k<=X.N)(aJ:j<k):nth (k-1-j) (X.f k).env=nth (X.N-1-j) (X.f X.N).env:=by
 obtain⟨l,aw⟩:=bu.Jq k X.N aq (Nat.le_refl _)
 have ab:=bu.AP k aq
 have ad:=bu.AP X.N (Nat.le_refl _)
 rw[aw] at ad⊢
 simp only[List.length_append,ab] at ad
 have:X.N-1-j=l.length+(k-1-j):=by omega
 rw[this,Jr]
theorem fK.AQ(bu:fK X){k:Nat}(aq:k<X.N){v:I}(h:(X.f (k+1)).env=v::(X.f k).env):X.val k=v:=by
 have ab:=bu.DS (k:=k+1) (j:=k) aq (Nat.lt_succ_self k)
 unfold hE.val
 rw[<-ab,h]
 simp[nth]
theorem fK.Js(bu:fK X){k:Nat}(aq:k<=X.N){a:Acc}(aT:a.below k):dx k (X.f k).env X.r a=dx X.N (X.f X.N).env X.r a:=by
 cases a with
 |env j=>simp only[dx];rw[bu.DS aq aT]
 |reg p=>rfl
 |val v=>rfl
theorem x7(l:List Oper)(t:Nat):∀k,k<=l.length->
  (∀a,h5 t (iS (l.take k) 0 [])=some a->∃j o,j<k/\a=.env j/\l[j]? =some o/\o.dst=some t/\∀jU o',j<jU->jU<k->l[jU]? =some o'->o'.dst≠some t)/\
  (h5 t (iS (l.take k) 0 [])=none->∀j o,j<k->l[j]? =some o->o.dst≠some t)
 |0,_=>⟨λa h=>by simp[iS,h5] at h,λ_ j o aJ=>by omega⟩
 |k+1,aq=>by
  obtain⟨AR,AS⟩:=x7 l t k (by omega)
  have a4:l[k]? =some l[k]:=List.getElem?_eq_getElem (by omega)
  rw[Jl l 0 [] k l[k] a4,Nat.zero_add]
  unfold hh
  cases ao:(l[k]).dst with
  |none=>
   refine⟨λa h=>?_,λh j o aJ mE=>?_⟩
   · obtain⟨j,o,ab,ad,ar,aG,bJ⟩:=AR a h
     refine⟨j,o,by omega,ad,ar,aG,λjU o' a8 a6 b4=>?_⟩
     by_cases e:jU=k
     · subst e;rw[a4] at b4;cases b4;rw[ao];simp
     · exact bJ jU o' a8 (by omega) b4
   · by_cases e:j=k
     · subst e;rw[a4] at mE;cases mE;rw[ao];simp
     · exact AS h j o (by omega) mE
  |some d=>
   simp only[om]
   by_cases e:t=d
   · subst e
     refine⟨λa h=>?_,λh=>by simp at h⟩
     simp at h;subst h
     exact⟨k,_,by omega,rfl,a4,ao,λjU o' a8 a6=>by omega⟩
   · simp only[e,if_false]
     refine⟨λa h=>?_,λh j o aJ mE=>?_⟩
     · obtain⟨j,o,ab,ad,ar,aG,bJ⟩:=AR a h
       refine⟨j,o,by omega,ad,ar,aG,λjU o' a8 a6 b4=>?_⟩
       by_cases ay:jU=k
       · subst ay;rw[a4] at b4;cases b4;rw[ao];simp;exactλcF=>e cF.symm
       · exact bJ jU o' a8 (by omega) b4
     · by_cases ay:j=k
       · subst ay;rw[a4] at mE;cases mE;rw[ao];simp;exactλcF=>e cF.symm
       · exact AS h j o (by omega) mE
def hE.tu(X:hE)(S:List Nat)(μ:bq)(cg:Array Value):Prop:=∀t,
 (∀j o,j∈S->X.ops[j]? =some o->o.dst=some t->(∀k o',k∈S->X.ops[k]? =some o'->o'.dst=some t->k<=j)->bm μ (X.val j) (cg.getD t undef))/\
 ((∀j o,j∈S->X.ops[j]? =some o->o.dst≠some t)->Nat.testBit X.need t=true->bm μ (X.r.get (g2 t)) (cg.getD t undef))
theorem hE.tu.mono{S:List Nat}{μ aX:bq}{cg:Array Value}(hle:e8 μ aX)(h:X.tu S μ cg):X.tu S aX cg:=λt=>⟨λj o ab ad ar aG=>((h t).1 j o ab ad ar aG).mono hle,λab ad=>((h t).2 ab ad).mono hle⟩
theorem fK.Jt(bu:fK X){S:List Nat}(hQ:mN X.ops S){μ:bq}{cg:Array Value}(aj:X.tu S μ cg){i:Nat}(af:i<=X.N)(dW:i∉S)(cI:k3 X.ops S i){s:DStep}(hs:X.steps[i]? =some s){t:Nat}(ba:t∈lQ X.ops s.o):
  bm μ (dx i (X.f i).env X.r (cJ X.P X.need s.loc (.tmp t))) (cg.getD t undef):=by
 obtain⟨fj,hU,eB,mP,l3⟩:=bu.lr hs
 obtain⟨f1,f2⟩:=x7 X.ops.toList t i (by simp;omega)
 have Ju:∀k o',k∈S->X.ops[k]? =some o'->o'.dst=some t->k<i:=λk o' aq iq ao=>by
  have pB:k<X.ops.size:=(Array.getElem?_eq_some_iff.1 iq).1
  rcases Nat.lt_trichotomy k i with h|h|h
  · exact h
  · subst h;exact absurd aq dW
  · obtain⟨bc,a8,a6,b4,fX,fI⟩:=bu.l2 pB
    rw[iq] at b4;cases b4
    have:=bu.apart h hs a8 (.inr ⟨t,ao,ba⟩)
    exact absurd (fI S hQ (hQ k aq) i this) dW
 simp only[cJ,mP]
 cases hf:h5 t (iS (X.ops.toList.take i) 0 []) with
 |some a=>
  obtain⟨j,o,aJ,rfl,mE,ao,rr⟩:=f1 a hf
  have Jv:X.ops[j]? =some o:=by simpa using mE
  obtain⟨bc,a8,a6,b4,fX,fI⟩:=bu.l2 (i:=j) (by omega)
  rw[Jv] at b4;cases b4
  have DT:j∈S:=l3 S hQ cI j (bu.apart aJ a8 hs (.inl ⟨t,ao,ba⟩))
  have:=(aj t).1 j _ DT Jv ao λk o' aq iq mJ=>by
   have Sb:=Ju k o' aq iq mJ
   rcases Nat.lt_or_ge j k with h|h
   · exact absurd mJ (rr k o' h Sb (by simpa using iq))
   · exact h
  have aC:dx i (X.f i).env X.r (.env j)=X.val j:=by
   simp only[dx,hE.val]
   rw[bu.DS af aJ]
  simp only[aC];exact this
 |none=>
  simp only[]
  cases ae:Nat.testBit X.need t with
  |false=>trivial
  |true=>
   exact(aj t).2 (λj o aJ a4 ao=>f2 hf j o (Ju j o aJ a4 ao) (by simpa using a4) ao) ae
theorem fK.Jw(bu:fK X){S:List Nat}(hQ:mN X.ops S){μ:bq}{a:Act}(bx:a.tmps.size=X.bP)(aj:X.tu S μ a.tmps){i:Nat}(dW:i∉S)(cI:k3 X.ops S i){s:DStep}(hs:X.steps[i]? =some s){u:Value}(hu:bm μ (X.val i) u):
  X.tu (i::S) μ (a.put s.o.dst u).tmps:=by
 obtain⟨fj,hU,eB,mP,l3⟩:=bu.lr hs
 have cd:∀t,s.o.dst=some t->t<a.tmps.size:=λt h=>by
  rw[bx];exact bu.kz s.o (by rw[<-Array.getElem?_toList] at eB;exact List.mem_of_getElem? eB) t h
 intro t
 by_cases ao:s.o.dst=some t
 · have hP:(a.put s.o.dst u).tmps.getD t undef=u:=by
     rw[ao];simp only[Act.put];rw[xV (cd t ao),if_pos rfl]
   have Sc:∀k o',k∈S->X.ops[k]? =some o'->o'.dst=some t->k<i:=λk o' aq iq mJ=>by
    have pB:k<X.ops.size:=(Array.getElem?_eq_some_iff.1 iq).1
    rcases Nat.lt_trichotomy k i with h|h|h
    · exact h
    · subst h;exact absurd aq dW
    · obtain⟨bc,a8,a6,b4,fX,fI⟩:=bu.l2 pB
      rw[iq] at b4;cases b4
      have:=bu.apart h hs a8 (.inr ⟨t,mJ,by simp[lQ,ao]⟩)
      exact absurd (fI S hQ (hQ k aq) i this) dW
   refine⟨λj o aJ a4 AT xM=>?_,λox=>absurd ao (ox i s.o (by simp) eB)⟩
   have rU:=xM i s.o (by simp) eB ao
   rcases List.mem_cons.1 aJ with rfl|aJ
   · rw[hP];exact hu
   · have:=Sc j o aJ a4 AT;omega
 · have hP:(a.put s.o.dst u).tmps.getD t undef=a.tmps.getD t undef:=by
     cases Jx:s.o.dst with
     |none=>rfl
     |some d=>
      simp only[Act.put]
      rw[xV (cd d Jx),if_neg (λe=>ao (by rw[Jx,e]))]
   rw[hP]
   refine⟨λj o aJ a4 AT xM=>?_,λox ae=>(aj t).2 (λj o aJ a4=>ox j o (by simp[aJ]) a4) ae⟩
   rcases List.mem_cons.1 aJ with rfl|aJ
   · rw[eB] at a4;cases a4;exact absurd AT ao
   · exact(aj t).1 j o aJ a4 AT λk o' aq iq mJ=>xM k o' (by simp[aq]) iq mJ
def qF(μ:bq)(w:World)(b:Nat)(cw:df):Prop:=∃i O,μ b=some i/\w.heap[i.bl]? =some O/\(∀aX w',e8 μ aX->w'.heap[i.bl]? =some O->ph aX cw i w')/\(∀c j,c≠b->μ c=some j->j.bl≠i.bl)
theorem bt.DU{μ:bq}{H:J}{w:World}(h:bt μ H w){b:Nat}{cw:df}(ae:b<H.n)(aK:μ b=none\/qF μ w b cw):bt μ (H.set b (some cw)) w:=by
 refine⟨λc o i ag af=>?_,λc d i j ag ao af aJ e=>?_,λc i af=>h.lt c i af,λc ag=>?_⟩
 · rw[J.cV] at ag
   by_cases e:c=b
   · subst e
     rw[if_pos rfl] at ag;cases ag
     rcases aK with aK|⟨Jy,O,ab,ad,ar,aG⟩
     · rw[aK] at af;cases af
     · rw[ab] at af;cases af
       exact ar μ w (e8.refl μ) ad
   · rw[if_neg e] at ag;exact h.rel c o i ag af
 · rw[J.cV] at ag ao
   by_cases aA:c=b
   · by_cases ay:d=b
     · rw[aA,ay]
     · subst aA
       rcases aK with aK|⟨Jy,O,ab,ad,ar,aG⟩
       · rw[aK] at af;cases af
       · rw[ab] at af;cases af
         exact absurd e.symm (aG d j ay aJ)
   · by_cases ay:d=b
     · subst ay
       rcases aK with aK|⟨Jy,O,ab,ad,ar,aG⟩
       · rw[aK] at aJ;cases aJ
       · rw[ab] at aJ;cases aJ
         exact absurd e (aG c i aA af)
     · rw[if_neg aA] at ag;rw[if_neg ay] at ao
       exact h.inj c d i j ag ao af aJ e
 · rw[J.cV,if_neg (by simp at ag;omega)];exact h.bound c (by simpa using ag)
theorem cb.DU{mO μ:bq}{H x8:J}{gX w:World}(ak:bt mO H gX)(h:cb mO H gX μ x8 w){b:Nat}(cw:df)(ae:H.n<=b):cb mO H gX μ (x8.set b (some cw)) w where
 le:=h.le
 size:=h.size
 n:=by simpa using h.n
 live:=λc ag aw=>h.live c ag (by rw[J.cV,if_neg (by omega)] at aw;exact aw)
 idle:=λc ag hm=>by rw[J.cV,if_neg (by omega)];exact h.idle c ag hm
 old:=h.old
 new:=h.new
 ro:=λc o i ag aj af=>by
  have:=(ak.lt c i af).1
  rw[J.cV,if_neg (by omega)];exact h.ro c o i ag aj af
 os:=h.os
 out:=h.out
 tape:=h.tape
 drawn:=h.drawn
theorem bt.early{μ:bq}{H:J}{w:World}(h:bt μ H w){b:Nat}{cw:df}{O:Obj}{sz:Nat}(ae:b<H.n)(hm:μ b=none)(a4:∀o,H.get b=some o->o=cw)
  (Sd:∀aX w',e8 μ aX->w'.heap[w.heap.size]? =some O->ph aX cw ⟨w.heap.size,0,sz⟩ w'):e8 μ (fr μ b ⟨w.heap.size,0,sz⟩)/\bt (fr μ b ⟨w.heap.size,0,sz⟩) H (w.alloc O):=by
 have hle:e8 μ (fr μ b ⟨w.heap.size,0,sz⟩):=λc i af=>by
  rw[hj];exact af
  intro e;subst e;rw[hm] at af;cases af
 have hold:∀r,r<w.heap.size->(w.alloc O).heap[r]? =w.heap[r]? :=λr aj=>by
  simp only[World.alloc,Array.getElem?_push];rw[if_neg (by omega)]
 refine⟨hle,λc o i ag af=>?_,λc d i j ag ao af aJ e=>?_,λc i af=>?_,h.bound⟩
 · by_cases e:c=b
   · subst e
     rw[gw] at af;cases af
     rw[a4 o ag]
     exact Sd _ _ hle (World.heap_alloc_new _ _)
   · rw[hj _ _ e] at af
     exact(h.rel c o i ag af).mono hle (hold _ (h.lt c i af).2)
 · by_cases aA:c=b
   · by_cases ay:d=b
     · rw[aA,ay]
     · subst aA;rw[gw] at af;cases af
       rw[hj _ _ ay] at aJ
       have:=(h.lt d j aJ).2
       simp only at e;omega
   · by_cases ay:d=b
     · subst ay;rw[gw] at aJ;cases aJ
       rw[hj _ _ aA] at af
       have:=(h.lt c i af).2
       simp only at e;omega
     · rw[hj _ _ aA] at af;rw[hj _ _ ay] at aJ
       exact h.inj c d i j ag ao af aJ e
 · by_cases e:c=b
   · subst e;rw[gw] at af;cases af
     exact⟨ae,by simp⟩
   · rw[hj _ _ e] at af
     have:=h.lt c i af
     simp only[World.size_alloc];omega
theorem cb.early{mO μ:bq}{H x8:J}{gX w:World}(ak:bt mO H gX)(h:cb mO H gX μ x8 w){b:Nat}(ae:H.n<=b)(hm:μ b=none){O:Obj}{sz:Nat}:cb mO H gX (fr μ b ⟨w.heap.size,0,sz⟩) x8 (w.alloc O):=by
 have hold:∀r,r<w.heap.size->(w.alloc O).heap[r]? =w.heap[r]? :=λr aj=>by
  simp only[World.alloc,Array.getElem?_push];rw[if_neg (by omega)]
 exact{
  le:=λc i af=>by
   have ab:=h.le c i af
   rw[hj];exact ab
   intro e;subst e;rw[hm] at ab;cases ab
  size:=by have:=h.size;simp only[World.size_alloc];omega
  n:=h.n
  live:=h.live
  idle:=h.idle
  old:=λr aj aN=>(hold r (Nat.lt_of_lt_of_le aj h.size)).trans (h.old r aj aN)
  new:=λc i ab ad=>by
   by_cases e:c=b
   · subst e;rw[gw] at ad;cases ad;exact⟨ae,.inl h.size⟩
   · rw[hj _ _ e] at ad;exact h.new c i ab ad
  ro:=λc o i ag aj af=>by
   obtain⟨ab,ad⟩:=h.ro c o i ag aj af
   exact⟨ab,(hold _ (Nat.lt_of_lt_of_le (ak.lt c i af).2 h.size)).trans ad⟩
  os:=h.os
  out:=h.out
  tape:=h.tape
  drawn:=h.drawn}
theorem qF.early{μ:bq}{H:J}{w:World}(h:bt μ H w){b c:Nat}{cw:df}{O:Obj}{sz:Nat}(hm:μ b=none)(aK:qF μ w c cw):qF (fr μ b ⟨w.heap.size,0,sz⟩) (w.alloc O) c cw:=by
 obtain⟨i,DV,ab,ad,ar,aG⟩:=aK
 have cS:c≠b:=by intro e;subst e;rw[hm] at ab;cases ab
 have cd:=(h.lt c i ab).2
 have hle:e8 μ (fr μ b ⟨w.heap.size,0,sz⟩):=λc i af=>by
  rw[hj];exact af
  intro e;subst e;rw[hm] at af;cases af
 refine⟨i,DV,by rw[hj _ _ cS];exact ab,?_,λaX w' aw tv=>ar aX w' (hle.trans aw) tv,λd j ao aJ=>?_⟩
 · simp only[World.alloc,Array.getElem?_push];rw[if_neg (by omega)];exact ad
 · by_cases e:d=b
   · subst e;rw[gw] at aJ;cases aJ;simp only;omega
   · rw[hj _ _ e] at aJ;exact aG d j ao aJ
theorem qF.pC{μ aX:bq}{H aW:J}{w w':World}(ak:bt μ H w)(aT:cb μ H w aX aW w'){c:Nat}{cw:df}(al:H.get c=none)(aK:qF μ w c cw):qF aX w' c cw:=by
 obtain⟨i,DV,ab,ad,ar,aG⟩:=aK
 have cd:=(ak.lt c i ab).2
 refine⟨i,DV,aT.le _ _ ab,?_,λuZ cK aw tv=>ar uZ cK (aT.le.trans aw) tv,λd j ao aJ=>?_⟩
 · rw[aT.old i.bl cd]
   · exact ad
   · intro d j aw aJ
     exact aG d j (λe=>by subst e;exact aw al) aJ
 · cases ov:μ d with
   |some Se=>
    have:=aT.le d Se ov
    rw[aJ] at this;cases this
    exact aG d j ao ov
   |none=>
    obtain⟨_,aN|⟨e,o,k,he,_,aq,DW⟩⟩:=aT.new d j ov aJ
    · omega
    · rw[<-DW]
      exact aG e k (λcF=>by subst cF;rw[al] at he;cases he) aq
end
end aP
namespace aP
open Go
section
variable {X:hE}
def rW(X:hE)(i:Nat)(s:DStep)(v:I)(cw:df):Prop:=
 i<X.N/\kindOf X.P s.o.op=.alloc/\ew (gV X.P X.need X.ops X.r s.i (X.f i).env s)=some true/\j8 X.P s.o.op (l1 X.P X.need X.r s (X.f i).env) (X.H.n+i)=some (v,cw)
structure Inv(X:hE)(S:List Nat)(c:Nat)(μ:bq)(w:World)(a:Act)(cs:List Frame):Prop where
 ag:c<=X.N
 closed:mN X.ops S
 sub:∀i∈S,i<X.N
 ek:∀i s,X.steps[i]? =some s->i<X.N->kindOf X.P s.o.op=.ek->(i∈S<->i<c)
 rel:bt μ (X.f c).h w
 pC:cb X.mO X.H X.gX μ (X.f c).h w
 vm:gq μ (X.f c).d a.defers
 qr:hD μ X.b.kind X.cs0 (X.f c).q cs
 eo:∀i,i<X.ops.size->i∉S->μ (X.H.n+i)=none
 lay:∀i s v cw,X.steps[i]? =some s->rW X i s v cw->i∉S->i<c->(X.f c).h.get (X.H.n+i)=some cw
 oy:∀i,c<=i->i<X.ops.size->(X.f c).h.get (X.H.n+i)=none
 vn:X.H.n+X.ops.size<=(X.f c).h.n
 fS:∀i s v cw,X.steps[i]? =some s->rW X i s v cw->i∈S->c<=i->qF μ w (X.H.n+i) cw
 my:X.tu S μ a.tmps
 sz:a.tmps.size=X.bP
theorem Inv.pass(bu:fK X){S:List Nat}{c:Nat}{μ:bq}{w:World}{a:Act}{cs:List Frame}(h:Inv X S c μ w a cs)(cd:c<X.N){s:DStep}(hs:X.steps[c]? =some s)(aq:kindOf X.P s.o.op≠ .ek):Inv X S (c+1) μ w a cs:=by
 obtain⟨fj,hU,eB,mP,l3⟩:=bu.lr hs
 have ba:=bu.tt c s cd hs
 have Jz:∀i bc,X.steps[i]? =some bc->i<X.N->kindOf X.P bc.o.op=.ek->(i∈S<->i<c+1):=λi bc ab ad ar=>by
  rw[h.ek i bc ab ad ar]
  have:i≠c:=by intro e;subst e;rw[hs] at ab;cases ab;exact aq ar
  omega
 have same:(X.f (c+1)).h=(X.f c).h->(X.f (c+1)).d=(X.f c).d->(X.f (c+1)).q=(X.f c).q->(∀v cw,¬rW X c s v cw)->Inv X S (c+1) μ w a cs:=λaA ay bw DX=>by
  refine⟨cd,h.closed,h.sub,Jz,by rw[aA];exact h.rel,by rw[aA];exact h.pC,by rw[ay];exact h.vm,by rw[bw];exact h.qr,h.eo,λi bc v cw ab ad ar aG=>?_,λi ab ad=>(by rw[aA];exact h.oy i (by omega) ad),by rw[aA];exact h.vn,λi bc v cw ab ad ar aG=>h.fS i bc v cw ab ad ar (by omega),h.my,h.sz⟩
  by_cases e:i=c
  · subst e;rw[hs] at ab;cases ab;exact absurd ad (DX v cw)
  · rw[aA];exact h.lay i bc v cw ab ad ar (by omega)
 generalize hf:X.f (c+1)=st at ba
 cases ba with
 |vk e3 hw=>
  refine same (by rw[hf]) (by rw[hf]) (by rw[hf]) λv cw h9=>?_
  have:=h9.2.2.1
  rw[hw] at this;cases this
 |pure e3 he=>
  refine same (by rw[hf]) (by rw[hf]) (by rw[hf]) λv cw h9=>?_
  have:=h9.2.1
  rw[e3] at this;cases this
 |ek e3 a4 he=>exact absurd e3 aq
 |alloc e3 hw aT=>
  rename_i v cw
  have aA:(X.f (c+1)).h=(X.f c).h.set (X.H.n+c) (some cw):=by rw[hf,hU]
  have ay:(X.f (c+1)).d=(X.f c).d:=by rw[hf]
  have bw:(X.f (c+1)).q=(X.f c).q:=by rw[hf]
  have h9:rW X c s v cw:=⟨cd,e3,hw,by rw[<-hU];rw[<-hU] at aT;exact aT⟩
  have ae:X.H.n+c<(X.f c).h.n:=by have:=h.vn;omega
  have aK:μ (X.H.n+c)=none\/qF μ w (X.H.n+c) cw:=by
   by_cases JA:c∈S
   · exact .inr (h.fS c s v cw hs h9 JA (Nat.le_refl _))
   · exact .inl (h.eo c fj JA)
  refine⟨cd,h.closed,h.sub,Jz,by rw[aA];exact h.rel.DU ae aK,by rw[aA];exact h.pC.DU bu.AO cw (by omega),by rw[ay];exact h.vm,by rw[bw];exact h.qr,h.eo,λi bc v' DY ab ad ar aG=>?_,λi ab ad=>?_,by rw[aA];simpa using h.vn,λi bc v cw ab ad ar aG=>h.fS i bc v cw ab ad ar (by omega),h.my,h.sz⟩
  · rw[aA,J.cV]
    by_cases e:i=c
    · subst e
      rw[hs] at ab;cases ab
      have:=ad.2.2.2.symm.trans h9.2.2.2
      cases this
      rw[if_pos rfl]
    · rw[if_neg (by omega)];exact h.lay i bc v' DY ab ad ar (by omega)
  · rw[aA,J.cV,if_neg (by omega)]
    exact h.oy i (by omega) ad
def Norm(X:hE)(c:Nat):Prop:=c=X.N\/∃s,X.steps[c]? =some s/\kindOf X.P s.o.op=.ek
theorem Inv.norm(bu:fK X){S:List Nat}{μ:bq}{w:World}{a:Act}{cs:List Frame}:∀(k c:Nat),X.N-c=k->Inv X S c μ w a cs->∃c',Norm X c'/\Inv X S c' μ w a cs
 |0,c,aq,h=>⟨c,.inl (by have:=h.ag;omega),h⟩
 |k+1,c,aq,h=>by
  obtain⟨s,hs,_⟩:=bu.l2 (i:=c) (by have:=bu.gP;omega)
  by_cases he:kindOf X.P s.o.op=.ek
  · exact⟨c,.inr ⟨s,hs,he⟩,h⟩
  · exact Inv.norm bu k (c+1) (by omega) (h.pass bu (by omega) hs he)
def x9(ops:Array Oper)(o:Oper)(g:Operand->I):Operand->I
 |.tmp t=>if(lQ ops o).contains t then g (.tmp t) else .bad
 |x=>g x
theorem AU{ops:Array Oper}{o:Oper}{g:Operand->I}:∀x∈o.op.operands,g x=x9 ops o g x:=by
 intro x aa
 cases x with
 |tmp t=>
  have:(lQ ops o).contains t=true:=by
   have ab:t∈o.op.operands.toList.filterMap λ|.tmp t=>some t|_=>none:=List.mem_filterMap.2 ⟨.tmp t,by simpa using aa,rfl⟩
   simp only[lQ,List.contains_iff_mem,List.mem_append]
   exact .inl (.inr ab)
  simp only[x9,this,if_true]
 |_=>rfl
theorem JB(bu:fK X){S:List Nat}{c:Nat}{μ:bq}{w:World}{a:Act}{cs:List Frame}(h:Inv X S c μ w a cs){i:Nat}(af:i<=X.N)(dW:i∉S)(cI:k3 X.ops S i){s:DStep}(hs:X.steps[i]? =some s):
  ∀x,bm μ (x9 X.ops s.o (l1 X.P X.need X.r s (X.f i).env) x) (a.eval x):=by
 obtain⟨fj,hU,eB,mP,l3⟩:=bu.lr hs
 intro x
 cases x with
 |tmp t=>
  simp only[x9]
  split
  · rename_i ba
    have:=bu.Jt h.closed h.my af dW cI hs (t:=t) (by simpa using ba)
    unfold l1;rw[hU];exact this
  · trivial
 |const v=>exact j9 μ v
 |global g=>
  simp only[x9,l1,cJ,Act.eval]
  cases ae:Nat.blt g X.P.globals.size with
  |false=>exact trivial
  |true=>
   obtain⟨i,ab,ad,ar⟩:=bu.mH.mono h.pC.le g (by simpa using ae)
   obtain⟨hl,i0,xI⟩:=i
   simp only at ad ar
   subst ad;subst ar
   exact⟨_,ab,rfl⟩
 |func f=>exact⟨[],[],rfl,rfl,rfl⟩
theorem DZ(bu:fK X){S:List Nat}{c:Nat}{μ:bq}{w:World}{a:Act}{cs:List Frame}(h:Inv X S c μ w a cs){i:Nat}(af:i<=X.N)(dW:i∉S)(cI:k3 X.ops S i){s:DStep}(hs:X.steps[i]? =some s):
  ∀px,ew (gV X.P X.need X.ops X.r s.i (X.f i).env s)=some px->Region.wanted s.o (yielded X.ops a.tmps)=px:=by
 obtain⟨fj,hU,eB,mP,l3⟩:=bu.lr hs
 intro px hw
 unfold gV jH at hw
 unfold Region.wanted
 cases al:s.o.guard with
 |none=>rw[al] at hw;simp only[ew] at hw;cases hw;rfl
 |some p=>
  obtain⟨j,fl⟩:=p
  rw[al] at hw
  simp only at hw⊢
  cases ba:(X.ops[j]?).bind (·.dst) with
  |none=>rw[ba] at hw;simp only[dx,ew] at hw;cases hw
  |some t=>
   rw[ba] at hw
   simp only at hw
   have aj:=bu.Jt h.closed h.my af dW cI hs (t:=t) (by
    simp only[lQ,List.mem_append]
    refine .inr ?_
    rw[al];simp only[ba];simp)
   rw[IW ba]
   rw[hU] at hw
   generalize dx i (X.f i).env X.r (cJ X.P X.need s.loc (.tmp t))=v at hw aj
   unfold ew at hw
   split at hw
   · rename_i he;cases he
   · rename_i he;cases he;cases hw
     have DB:a.tmps.getD t undef=_:=aj
     rw[DB];rfl
   · rename_i he;cases he;cases hw
     obtain⟨l,aw,rO⟩:=aj
     cases rO
     rw[aw];rfl
   · cases hw
theorem tw{P:Program}{inR:Bool}{call:aI->List I->J->av}{gd:Option (I×Bool)}{o:Oper}{g f_:Operand->I}{d:List bU}{q:bF}{H:J}(h:∀x∈o.op.operands,g x=f_ x):dO P inR call gd o g d q H=dO P inR call gd o f_ d q H:=by
 unfold dO;rw[x3 o H h]
theorem Inv.one(bu:fK X){S:List Nat}{c:Nat}{μ:bq}{w:World}{a:Act}{cs:List Frame}(h:Inv X S c μ w a cs){i:Nat}(af:i<=X.N)(dW:i∉S)(cI:k3 X.ops S i){s:DStep}(hs:X.steps[i]? =some s)(rest:List Nat)(k:List Item):
  Dx X.P μ (X.f c).h w X.b a X.ops s.o i rest k X.cs0 cs (dO X.P X.inR X.call (gV X.P X.need X.ops X.r s.i (X.f i).env s) s.o (l1 X.P X.need X.r s (X.f i).env) (X.f c).d (X.f c).q (X.f c).h):=by
 obtain⟨fj,hU,eB,mP,l3⟩:=bu.lr hs
 rw[tw (AU (ops:=X.ops))]
 exact IS bu.ag h.rel (bu.mH.mono h.pC.le) eB (DZ bu h af dW cI hs) (JB bu h af dW cI hs) h.vm h.qr bu.fj
theorem Inv.AV(bu:fK X){S:List Nat}{c c':Nat}{μ aX:bq}{w w':World}{a:Act}{cs bO:List Frame}(h:Inv X S c μ w a cs){i:Nat}(af:i<X.N)(dW:i∉S)(cI:k3 X.ops S i){s:DStep}(hs:X.steps[i]? =some s)(aq:∀v cw,¬rW X i s v cw)
  {u:Value}{ds:List Deferred}(aC:bm aX (X.val i) u)(lq:bt aX (X.f c').h w')(kA:cb μ (X.f c).h w aX (X.f c').h w')(ao:gq aX (X.f c').d ds)(aM:hD aX X.b.kind X.cs0 (X.f c').q bO)
  (vo:(c'=c/\kindOf X.P s.o.op≠ .ek)\/(c'=c+1/\i=c)):Inv X (i::S) c' aX w' {tmps:=(a.put s.o.dst u).tmps,defers:=ds} bO:=by
 obtain⟨fj,hU,eB,mP,l3⟩:=bu.lr hs
 have hle:=kA.le
 have x_:c<=c':=by rcases vo with⟨e,_⟩|⟨e,_⟩<;>omega
 have ya:=h.vn
 refine⟨?_,λj aJ=>?_,λj aJ=>?_,λj bc ab ad ar=>?_,lq,cb.trans bu.AO h.rel h.pC kA,ao,aM,λj ab ad=>?_,λj bc v cw ab ad ar aG=>?_,λj ab ad=>?_,?_,λj bc v cw ab ad ar aG=>?_,?_,?_⟩
 · rcases vo with⟨e,_⟩|⟨e,ay⟩
   · rw[e];exact h.ag
   · omega
 · have hm:k3 X.ops S j->k3 X.ops (i::S) j:=λak o a4 e he ae=>List.mem_cons_of_mem _ (ak o a4 e he ae)
   rcases List.mem_cons.1 aJ with rfl|aJ
   · exact hm cI
   · exact hm (h.closed j aJ)
 · rcases List.mem_cons.1 aJ with rfl|aJ
   · exact af
   · exact h.sub j aJ
 · have:=h.ek j bc ab ad ar
   rw[List.mem_cons,this]
   rcases vo with⟨e,ay⟩|⟨e,ay⟩
   · subst e
     have:j≠i:=by intro e;subst e;rw[hs] at ab;cases ab;exact ay ar
     simp[this]
   · omega
 · have AW:j∉S:=λak=>ad (List.mem_cons_of_mem _ ak)
   cases hm:aX (X.H.n+j) with
   |none=>rfl
   |some eo=>
    have:=(kA.new _ eo (h.eo j ab AW) hm).1
    omega
 · have AW:j∉S:=λak=>ar (List.mem_cons_of_mem _ ak)
   have ob:j≠i:=λe=>ar (by simp[e])
   have adn:=ad.1
   have H4:j<c:=by rcases vo with⟨e,_⟩|⟨e,ay⟩<;>omega
   rw[kA.idle _ (by have:=bu.gP;omega) (h.eo j (by have:=bu.gP;omega) AW)]
   exact h.lay j bc v cw ab ad AW H4
 · have h0:=h.oy j (by omega) ad
   cases al:(X.f c').h.get (X.H.n+j) with
   |none=>rfl
   |some o=>exact absurd h0 (kA.live _ (by omega) (by rw[al];simp))
 · exact Nat.le_trans ya kA.n
 · have ob:j≠i:=by
     intro e;subst e;rw[hs] at ab;cases ab;exact aq v cw ad
   have DT:j∈S:=by
    rcases List.mem_cons.1 ar with e|ak
    · exact absurd e ob
    · exact ak
   have ado:=ad.1
   exact(h.fS j bc v cw ab ad DT (by omega)).pC h.rel kA (h.oy j (by omega) (by have:=bu.gP;omega))
 · exact bu.Jw (a:=a) h.closed h.sz (h.my.mono hle) dW cI hs aC
 · simpa using(xW a s.o.dst u).trans h.sz
theorem yb{s:DStep}{v:I}(bu:fK X):∀(m:Nat),m<=X.N->∀(dV:Option Nat) (vp:J),kX X.P X.need X.ops X.r X.N (X.f X.N).env s v dV vp (X.f m).bf=true->
  ∀c bc,c<m->X.steps[c]? =some bc->kindOf X.P bc.o.op=.ek->∃bf,bf=(X.f c).bf/\kX X.P X.need X.ops X.r X.N (X.f X.N).env s v (some c) (X.f c).h bf=true
 |0,_,dV,vp,h,c,bc,ag,_,_=>by omega
 |m+1,hm,dV,vp,h,c,bc,ag,dv,aq=>by
  obtain⟨tx,a8,a6,_⟩:=bu.l2 (i:=m) (by have:=bu.gP;omega)
  have ba:=bu.tt m tx (by omega) a8
  by_cases e:c=m
  · subst e
    rw[a8] at dv;cases dv
    generalize hf:X.f (c+1)=st at ba h
    cases ba with
    |vk e3=>rw[aq] at e3;cases e3
    |alloc e3=>rw[aq] at e3;cases e3
    |pure e3=>rw[aq] at e3;cases e3
    |ek e3 a4 he=>
     unfold kX at h
     rw[Bool.and_eq_true] at h
     have ad:=h.2
     simp only[a6] at ad
     exact⟨_,rfl,ad⟩
  · have cd:c<m:=by omega
    generalize hf:X.f (m+1)=st at ba h
    cases ba with
    |vk e3=>exact yb bu m (by omega) dV vp h c bc cd dv aq
    |alloc e3=>exact yb bu m (by omega) dV vp h c bc cd dv aq
    |pure e3=>exact yb bu m (by omega) dV vp h c bc cd dv aq
    |ek e3 a4 he=>
     unfold kX at h
     rw[Bool.and_eq_true] at h
     have ad:=h.2
     simp only at ad
     exact yb bu m (by omega) _ _ ad c bc cd dv aq
theorem D0(bu:fK X):∀(m:Nat),m<=X.N->∀e mk h0 l,(X.f m).bf=(e,mk,h0)::l->e<m/\∃bc,X.steps[e]? =some bc/\kindOf X.P bc.o.op=.ek/\mk=bc.e2
 |0,_,e,mk,h0,l,h=>by rw[bu.rV] at h;cases h
 |m+1,hm,e,mk,h0,l,h=>by
  obtain⟨tx,a8,a6,_⟩:=bu.l2 (i:=m) (by have:=bu.gP;omega)
  have ba:=bu.tt m tx (by omega) a8
  generalize hf:X.f (m+1)=st at ba h
  cases ba with
  |ek e3 a4 he=>
   simp only[List.cons.injEq,Prod.mk.injEq] at h
   obtain⟨⟨rfl,rfl,rfl⟩,rfl⟩:=h
   exact⟨by omega,tx,by rw[a6];exact a8,e3,rfl⟩
  |_=>obtain⟨ab,ad⟩:=D0 bu m (by omega) e mk h0 l h;exact⟨by omega,ad⟩
theorem Inv.looks(bu:fK X){S:List Nat}{c:Nat}{μ:bq}{w:World}{a:Act}{cs:List Frame}(h:Inv X S c μ w a cs)(aN:Norm X c){i:Nat}(af:i<X.N)(dW:i∉S)(cI:k3 X.ops S i){s:DStep}(hs:X.steps[i]? =some s)(aq:kindOf X.P s.o.op=.pure):
  lP X.P X.need X.ops X.r X.N (X.f X.N).env s (X.val i) (X.f c).h=true:=by
 obtain⟨fj,hU,eB,mP,l3⟩:=bu.lr hs
 obtain⟨dV,ab,ad⟩:=bu.looks i s af hs aq
 have off:∀(dV:Option Nat),(∀e,dV=some e->e=c/\c∉S)->kX X.P X.need X.ops X.r X.N (X.f X.N).env s (X.val i) dV (X.f c).h (X.f c).bf=true->lP X.P X.need X.ops X.r X.N (X.f X.N).env s (X.val i) (X.f c).h=true:=by
  intro dV AX ct
  unfold kX at ct
  rw[Bool.and_eq_true] at ct
  have ar:=ct.1
  split at ar
  · rename_i ae
    exfalso
    rw[Bool.or_eq_true] at ae
    rcases ae with ae|ae
    · cases dV with
      |none=>cases ae
      |some e=>
       obtain⟨rfl,q⟩:=AX e rfl
       exact q (l3 S h.closed cI _ ae)
    · cases rX:(X.f c).bf with
      |nil=>rw[rX] at ae;cases ae
      |cons p l=>
       obtain⟨e,mk,h0⟩:=p
       rw[rX] at ae
       obtain⟨a8,bc,a6,b4,rfl⟩:=D0 bu c h.ag e mk h0 l rX
       have D1:=(h.ek e bc a6 (by have:=h.ag;omega) b4).2 a8
       exact dW ((bu.lr a6).2.2.2.2 S h.closed (h.closed e D1) i (by rw[hU] at ae;exact ae))
  · exact ar
 have JC:∀e bc,X.steps[e]? =some bc->e=X.N->e∉S:=λe bc _ he ak=>by have:=h.sub e ak;omega
 by_cases x_:c=X.N
 · subst x_
   exact off dV (λe he=>⟨(ad e he).1,λak=>by have:=h.sub _ ak;omega⟩) ab
 · have JD:c<X.N:=by have:=h.ag;omega
   rcases aN with e|⟨bc,a8,a6⟩
   · exact absurd e x_
   · obtain⟨bf,rfl,aG⟩:=yb bu X.N (Nat.le_refl _) dV _ ab c bc JD a8 a6
     refine off (some c) (λe he=>⟨by cases he;rfl,λak=>?_⟩) aG
     have:=(h.ek c bc a8 JD a6).1 ak
     omega
end
end aP
namespace aP
open Go
section
variable {X:hE}
theorem JE(bu:fK X):∀(m:Nat),m<=X.N->
  (∀e mk h0 l,(X.f m).bf=(e,mk,h0)::l->∀j bc,e<j->j<m->X.steps[j]? =some bc->kindOf X.P bc.o.op≠ .ek)/\
  ((X.f m).bf=[]->∀j bc,j<m->X.steps[j]? =some bc->kindOf X.P bc.o.op≠ .ek)
 |0,_=>⟨λe mk h0 l h=>(by rw[bu.rV] at h;cases h),λ_ j bc aJ=>(by omega)⟩
 |m+1,hm=>by
  obtain⟨AR,AS⟩:=JE bu m (by omega)
  obtain⟨tx,a8,a6,_⟩:=bu.l2 (i:=m) (by have:=bu.gP;omega)
  have ba:=bu.tt m tx (by omega) a8
  have same:kindOf X.P tx.o.op≠ .ek->(X.f (m+1)).bf=(X.f m).bf->_:=λaq he=>(⟨λe mk h0 l h j bc ab ad ar=>by
    by_cases cF:j=m
    · subst cF;rw[a8] at ar;cases ar;exact aq
    · exact AR e mk h0 l (he▸h) j bc ab (by omega) ar,λh j bc ad ar=>by
    by_cases cF:j=m
    · subst cF;rw[a8] at ar;cases ar;exact aq
    · exact AS (he▸h) j bc (by omega) ar⟩:
   (∀e mk h0 l,(X.f (m+1)).bf=(e,mk,h0)::l->∀j bc,e<j->j<m+1->X.steps[j]? =some bc->kindOf X.P bc.o.op≠ .ek)/\((X.f (m+1)).bf=[]->∀j bc,j<m+1->X.steps[j]? =some bc->kindOf X.P bc.o.op≠ .ek))
  generalize hf:X.f (m+1)=st at ba same⊢
  clear hf
  cases ba with
  |vk e3=>exact same (by rw[e3];simp) rfl
  |alloc e3=>exact same (by rw[e3];simp) rfl
  |pure e3=>exact same (by rw[e3];simp) rfl
  |ek e3 a4 he=>
   refine⟨λe mk h0 l h j bc ab ad ar=>?_,λh=>by cases h⟩
   simp only[List.cons.injEq,Prod.mk.injEq] at h
   obtain⟨⟨rfl,_,_⟩,_⟩:=h
   omega
theorem Inv.JF(bu:fK X){S:List Nat}{c:Nat}{μ:bq}{w:World}{a:Act}{cs:List Frame}(h:Inv X S c μ w a cs)(aN:Norm X c){i:Nat}(af:i<=X.N)(dW:i∉S)(cI:k3 X.ops S i){s:DStep}(hs:X.steps[i]? =some s)
  (aq:kindOf X.P s.o.op=.ek)(a4:∀e m h0 l,(X.f i).bf=(e,m,h0)::l->Nat.testBit s.e2 e=true):i=c:=by
 obtain⟨fj,hU,eB,mP,l3⟩:=bu.lr hs
 have IE:c<=i:=by
  rcases Nat.lt_or_ge i X.N with ab|ab
  · have:=h.ek i s hs ab aq
    rcases Nat.lt_or_ge i c with ad|ad
    · exact absurd (this.2 ad) dW
    · exact ad
  · have:=h.ag;omega
 rcases Nat.lt_or_ge c i with cd|vq
 · exfalso
   rcases aN with e|⟨bc,a8,a6⟩
   · omega
   · obtain⟨r1,r2⟩:=JE bu i af
     cases rX:(X.f i).bf with
     |nil=>exact r2 rX c bc cd a8 a6
     |cons p l=>
      obtain⟨e,mk,h0⟩:=p
      obtain⟨eF,s2,fs,jk,_⟩:=D0 bu i af e mk h0 l rX
      have D1:=l3 S h.closed cI e (a4 e mk h0 l rX)
      have Sf:=(h.ek e s2 fs (by omega) jk).1 D1
      exact r1 e mk h0 l rX c bc Sf cd a8 a6
 · omega
theorem Inv.Sg(bu:fK X){S:List Nat}{c:Nat}{μ:bq}{w:World}{a:Act}{cs:List Frame}(h:Inv X S c μ w a cs){i:Nat}(af:i<X.N)(dW:i∉S)(cI:k3 X.ops S i){s:DStep}(hs:X.steps[i]? =some s){v:I}{cw:df}(h9:rW X i s v cw)(aC:X.val i=v)(rest:List Nat)(k:List Item):
  ∃aX w' cA,Steps X.P (lone (X.b.atR a (.inRegion X.ops (i::rest)::k)) cs w) (lone (X.b.atR cA (.inRegion X.ops rest::k)) cs w')/\Inv X (i::S) c aX w' cA cs:=by
 obtain⟨fj,hU,eB,mP,l3⟩:=bu.lr hs
 obtain⟨_,aq,hw,aT⟩:=h9
 have Dy:=DZ bu h (Nat.le_of_lt af) dW cI hs _ hw
 rw[x4 _ _ (AU (ops:=X.ops))] at aT
 obtain⟨u,O,sz,aw⟩:=Rl (P:=X.P) (w:=w) s.o (JB bu h (Nat.le_of_lt af) dW cI hs) aT
 have ct:=stepGR_op (P:=X.P) (b:=X.b) (a:=a) (k:=k) (cs:=cs) (w:=w) (rest:=rest) eB Dy
 have tl:s.o.semAt X.b.roundOf a.eval=execOp a.eval s.o:=Oper.semAt_eq _ _ _ λJG e=>by rw[e] at aq;cases aq
 rw[tl] at ct
 obtain⟨ai,_⟩:=Av ct
 have hV:=ai _ _ aw.run
 have mI:(X.b.atR a (.inRegion X.ops (i::rest)::k)).finish u=X.b.atR (a.put s.o.dst u) (.inRegion X.ops rest::k):=by
  rw[Frame.finish_atR,eB];rfl
 rw[mI] at hV
 have hR:=h.eo i fj dW
 have ya:=h.vn
 have iI:∀o,(X.f c).h.get (X.H.n+i)=some o->o=cw:=λo al=>by
  rcases Nat.lt_or_ge i c with cd|vq
  · have:=h.lay i s v cw hs ⟨af,aq,hw,by rw[x4 _ _ (AU (ops:=X.ops))];exact aT⟩ dW cd
    rw[al] at this;cases this;rfl
  · rw[h.oy i vq fj] at al;cases al
 obtain⟨hle,lq⟩:=h.rel.early (b:=X.H.n+i) (by omega) hR iI aw.obj
 have kA:=h.pC.early bu.AO (b:=X.H.n+i) (by omega) hR (O:=O) (sz:=sz)
 have Sh:bm (fr μ (X.H.n+i) ⟨w.heap.size,0,sz⟩) (X.val i) u:=by rw[aC];exact aw.val _ hle (gw _ _ _)
 refine⟨fr μ (X.H.n+i) ⟨w.heap.size,0,sz⟩,_,_,hV,?_⟩
 have hm:∀{j},k3 X.ops S j->k3 X.ops (i::S) j:=λak o a4 e he ae=>List.mem_cons_of_mem _ (ak o a4 e he ae)
 refine⟨h.ag,λj aJ=>?_,λj aJ=>?_,λj bc ab ad ar=>?_,lq,kA,?_,h.qr.mono hle,λj ab ad=>?_,λj bc v cw ab ad ar aG=>h.lay j bc v cw ab ad (λak=>ar (List.mem_cons_of_mem _ ak)) aG,h.oy,h.vn,λj bc v' DY ab ad ar aG=>?_,bu.Jw h.closed h.sz (h.my.mono hle) dW cI hs Sh,(xW _ _ _).trans h.sz⟩
 · rcases List.mem_cons.1 aJ with rfl|aJ
   · exact hm cI
   · exact hm (h.closed j aJ)
 · rcases List.mem_cons.1 aJ with rfl|aJ
   · exact af
   · exact h.sub j aJ
 · have ob:j≠i:=by intro e;subst e;rw[hs] at ab;cases ab;rw[aq] at ar;cases ar
   rw[List.mem_cons]
   simp only[ob,false_or]
   exact h.ek j bc ab ad ar
 · rw[put_defers];exact h.vm.mono hle
 · have ob:j≠i:=λe=>ad (by simp[e])
   rw[hj _ _ (by omega)]
   exact h.eo j ab (λak=>ad (List.mem_cons_of_mem _ ak))
 · rcases List.mem_cons.1 ar with e|ar
   · subst e
     rw[hs] at ab;cases ab
     have:=ad.2.2.2
     rw[x4 _ _ (AU (ops:=X.ops)),aT] at this
     cases this
     refine⟨⟨w.heap.size,0,sz⟩,O,gw _ _ _,World.heap_alloc_new _ _,λaX w' qp tv=>aw.obj aX w' (hle.trans qp) tv,λd jU ao aJ=>?_⟩
     rw[hj _ _ ao] at aJ
     have:=(h.rel.lt d jU aJ).2
     simp only;omega
   · exact(h.fS j bc v' DY ab ad ar aG).early h.rel hR
theorem D2(bu:fK X){i:Nat}(af:i<=X.N):DA i (iS (X.ops.toList.take i) 0 []):=λt a aT=>by
 obtain⟨j,o,ab,rfl,_⟩:=(x7 X.ops.toList t i (by have:=bu.gP;simp;omega)).1 a aT
 exact ab
theorem Inv.step(bu:fK X){S:List Nat}{c:Nat}{μ:bq}{w:World}{a:Act}{cs:List Frame}(h:Inv X S c μ w a cs){i:Nat}(af:i<X.N)(dW:i∉S)(cI:k3 X.ops S i)(rest:List Nat)(k:List Item):
  ∃c' aX w' cA bO,Steps X.P (lone (X.b.atR a (.inRegion X.ops (i::rest)::k)) cs w) (lone (X.b.atR cA (.inRegion X.ops rest::k)) bO w')/\Inv X (i::S) c' aX w' cA bO:=by
 obtain⟨c,aN,h⟩:=h.norm bu _ _ rfl
 obtain⟨s,hs,hU,eB,_⟩:=bu.l2 (i:=i) (by have:=bu.gP;omega)
 have ba:=bu.tt i s af hs
 have hle:=Nat.le_of_lt af
 generalize hf:X.f (i+1)=st at ba
 cases ba with
 |vk aq hw=>
  have aC:=bu.AQ af (v:=.aQ []) (by rw[hf])
  have xR:=DZ bu h hle dW cI hs _ hw
  have qm:=stepR_op_skip (P:=X.P) (b:=X.b) (a:=a) (k:=k) (cs:=cs) (w:=w) (ops:=X.ops) (i:=i) (rest:=rest) (by simp[eB,xR])
  rw[eB] at qm
  have he:a.put ((some s.o).bind (·.dst)) undef={tmps:=(a.put s.o.dst undef).tmps,defers:=a.defers}:=Aw a s.o.dst undef
  rw[he] at qm
  refine⟨c,μ,w,_,cs,.one qm,h.AV bu af dW cI hs (λv cw h9=>?_) (by rw[aC];exact⟨[],rfl,rfl⟩) h.rel (cb.refl _ _ _) h.vm h.qr (.inl ⟨rfl,by rw[aq];simp⟩)⟩
  have:=h9.2.2.1
  rw[hw] at this;cases this
 |alloc aq hw aT=>
  rename_i v cw
  have aC:=bu.AQ af (v:=v) (by rw[hf])
  obtain⟨aX,w',cA,ab,ad⟩:=h.Sg bu af dW cI hs ⟨af,aq,hw,by rw[<-hU];rw[<-hU] at aT;exact aT⟩ aC rest k
  exact⟨c,aX,w',cA,cs,ab,ad⟩
 |pure aq he=>
  rename_i v bd bk an
  have aC:=bu.AQ af (v:=v) (by rw[hf])
  have kD:=h.looks bu aN af dW cI hs aq
  have fJ:=h.one bu hle dW cI hs rest k
  have gz:gV X.P X.need X.ops X.r X.N (X.f X.N).env s=gV X.P X.need X.ops X.r s.i (X.f i).env s:=by
   unfold gV jH
   cases D3:s.o.guard with
   |none=>rfl
   |some p=>
    obtain⟨j,fl⟩:=p
    simp only
    cases adp:(X.ops[j]?).bind (·.dst) with
    |none=>rfl
    |some t=>
     simp only
     rw[hU,bu.Js hle (by rw[(bu.lr hs).2.2.2.1];exact Az (D2 bu hle) _)]
  have e4:∀x,dx X.N (X.f X.N).env X.r (cJ X.P X.need s.loc x)=l1 X.P X.need X.r s (X.f i).env x:=λx=>by
   unfold l1
   rw[hU,bu.Js hle (by rw[(bu.lr hs).2.2.2.1];exact Az (D2 bu hle) _)]
  unfold lP at kD
  rw[gz] at kD
  have rQ:(λx=>dx X.N (X.f X.N).env X.r (cJ X.P X.need s.loc x))=l1 X.P X.need X.r s (X.f i).env:=funext e4
  rw[rQ] at kD
  have AY:∀v cw,¬rW X i s v cw:=λv cw h9=>by have:=h9.2.1;rw[aq] at this;cases this
  have cS:kindOf X.P s.o.op≠ .ek:=by rw[aq];simp
  unfold dO at fJ he
  cases JH:ew (gV X.P X.need X.ops X.r s.i (X.f i).env s) with
  |none=>rw[JH] at kD;cases kD
  |some fl=>
   rw[JH] at kD fJ he
   cases fl with
   |false=>
    simp only at fJ he
    cases he
    obtain⟨aX,w',u,tk,bO,s1,s2,bK,bN,ch,c3⟩:=fJ
    exact⟨c,aX,w',_,bO,s1,h.AV bu af dW cI hs AY (by rw[aC];exact s2) bK bN ch c3 (.inl ⟨rfl,cS⟩)⟩
   |true=>
    simp only at kD fJ
    split at kD
    · rename_i v' D4 fm
      rw[fm] at fJ
      simp only at fJ
      have Si:=beq_eq _ _ kD
      have Sj:=R6 aq fm
      rw[Sj] at fJ
      obtain⟨aX,w',u,tk,bO,s1,s2,bK,bN,ch,c3⟩:=fJ
      exact⟨c,aX,w',_,bO,s1,h.AV bu af dW cI hs AY (by rw[<-Si];exact s2) bK bN ch c3 (.inl ⟨rfl,cS⟩)⟩
    · cases kD
 |ek aq a4 he=>
  rename_i v bd bk an
  have aC:=bu.AQ af (v:=v) (by rw[hf])
  have qG:=h.JF bu aN hle dW cI hs aq a4
  have fJ:=h.one bu hle dW cI hs rest k
  have AY:∀v cw,¬rW X i s v cw:=λv cw h9=>by have:=h9.2.1;rw[aq] at this;cases this
  rw[<-qG,he] at fJ
  obtain⟨aX,w',u,tk,bO,s1,s2,bK,bN,ch,c3⟩:=fJ
  have aA:(X.f (c+1)).h=an:=by rw[<-qG,hf]
  have ay:(X.f (c+1)).d=bd:=by rw[<-qG,hf]
  have bw:(X.f (c+1)).q=bk:=by rw[<-qG,hf]
  exact⟨c+1,aX,w',_,bO,s1,h.AV bu af dW cI hs AY (by rw[aC];exact s2) (by rw[aA];exact bK) (by rw[aA,<-qG];exact bN) (by rw[ay];exact ch) (by rw[bw];exact c3) (.inr ⟨rfl,qG⟩)⟩
end
end aP
namespace aP
open Go
section
variable {X:hE}
def hE.ends(X:hE)(k:List Item)(fe:Machine)(res:mA):Prop:=oo X.P X.need X.bP X.mO X.r X.H X.gX X.b k X.cs0 fe (iS X.ops.toList 0 []) res
theorem hE.D5{k:List Item}{fe aZ:Machine}{res:mA}(h:Steps X.P fe aZ)(an:X.ends k aZ res):X.ends k fe res:=by
 unfold hE.ends at*
 cases res with
 |ok env d q aW=>obtain⟨aX,w',cA,bO,s1,s2⟩:=an;exact⟨aX,w',cA,bO,h.trans s1,s2⟩
 |b6 v d q aW=>obtain⟨aX,w',cA,bO,u,bh,s1,s2⟩:=an;exact⟨aX,w',cA,bO,u,bh,h.trans s1,s2⟩
 |fail s=>trivial
structure D6(X:hE)(res:mA):Prop where
 ok:X.N=X.ops.size->res=.ok (X.f X.N).env (X.f X.N).d (X.f X.N).q (X.f X.N).h
 b6:X.N<X.ops.size->∀s,X.steps[X.N]? =some s->∃v bd bk an,dO X.P X.inR X.call (gV X.P X.need X.ops X.r s.i (X.f X.N).env s) s.o (l1 X.P X.need X.r s (X.f X.N).env) (X.f X.N).d (X.f X.N).q (X.f X.N).h=.b6 v bd bk an/\res=.b6 v bd bk an
theorem Inv.order(bu:fK X){res:mA}(fu:D6 X res)(k:List Item):∀(L:List Nat) (S:List Nat) (c:Nat) (μ:bq) (w:World) (a:Act) (cs:List Frame),tq X.ops S L->Inv X S c μ w a cs->X.ends k (lone (X.b.atR a (.inRegion X.ops L::k)) cs w) res
 |[],S,c,μ,w,a,cs,a4,h=>by
  have en:∀i,i<X.ops.size->i∈S:=a4
  have gP:X.N=X.ops.size:=by
   have:=bu.gP
   rcases Nat.lt_or_ge X.N X.ops.size with cd|vq
   · have:=h.sub _ (en _ cd);omega
   · omega
  obtain⟨c,aN,h⟩:=h.norm bu _ _ rfl
  have JC:c=X.N:=by
   rcases aN with e|⟨s,a8,a6⟩
   · exact e
   · have:=h.ag
     rcases Nat.lt_or_ge c X.N with cd|vq
     · have:=(h.ek c s a8 cd a6).1 (en c (by omega));omega
     · omega
  subst JC
  rw[fu.ok gP]
  have hlen:=bu.AP X.N (Nat.le_refl _)
  have qH:X.ops.toList.take X.N=X.ops.toList:=by rw[gP];exact List.take_of_length_le (by simp)
  have mP:=D2 bu (Nat.le_refl X.N)
  rw[qH] at mP
  refine⟨μ,w,a,cs,.one stepR_region_end,⟨by rw[hlen];exact mP,λt=>?_⟩,h.sz,h.rel,h.pC,h.vm,h.qr⟩
  rw[hlen]
  obtain⟨f1,f2⟩:=x7 X.ops.toList t X.N (by simp;omega)
  rw[qH] at f1 f2
  simp only[cJ]
  cases hf:h5 t (iS X.ops.toList 0 []) with
  |some ac=>
   obtain⟨j,o,aJ,rfl,mE,ao,rr⟩:=f1 ac hf
   have:=(h.my t).1 j o (en j (by omega)) (by simpa using mE) ao λk o' aq iq mJ=>by
    rcases Nat.lt_or_ge j k with cd|vq
    · exact absurd mJ (rr k o' cd (h.sub k aq) (by simpa using iq))
    · exact vq
   exact this
  |none=>
   simp only[]
   cases ae:Nat.testBit X.need t with
   |false=>trivial
   |true=>
    exact(h.my t).2 (λj o aJ iq ao=>f2 hf j o (h.sub j aJ) (by simpa using iq) ao) ae
 |i::L,S,c,μ,w,a,cs,a4,h=>by
  obtain⟨af,dW,cI,nt⟩:=a4
  rcases Nat.lt_trichotomy i X.N with cd|heq|tz
  · obtain⟨c',aX,w',cA,bO,ab,ad⟩:=h.step bu cd dW cI L k
    exact hE.D5 ab (Inv.order bu fu k L (i::S) c' aX w' cA bO nt ad)
  ·
   obtain⟨s,hs,hU,eB,_⟩:=bu.l2 af
   obtain⟨c,aN,h⟩:=h.norm bu _ _ rfl
   rw[heq] at hs
   obtain⟨bz,bR,cU⟩:=bu.last s hs
   rw[<-heq] at hs bR
   have qG:=h.JF bu aN (Nat.le_of_eq heq) dW cI hs bz bR
   have fJ:=h.one bu (Nat.le_of_eq heq) dW cI hs L k
   obtain⟨v,bd,bk,an,aA,ay⟩:=fu.b6 (by omega) s (by rw[<-heq];exact hs)
   rw[<-heq] at aA
   rw[<-qG,aA] at fJ
   rw[ay]
   obtain⟨aX,w',u,s1,s2,bK,bN,ch,c3⟩:=fJ
   rw[qG] at bN
   refine⟨aX,w',a,cs,u,_,s1,trivial,s2,λt ba ae=>?_,h.sz,bK,cb.trans bu.AO h.rel h.pC bN,ch,c3⟩
   obtain⟨f1,f2⟩:=x7 X.ops.toList t X.ops.toList.length (Nat.le_refl _)
   rw[List.take_length] at f2
   have:=(h.my t).2 (λj o aJ iq ao=>f2 ba j o (by have:=h.sub j aJ;have:=bu.gP;simp;omega) (by simpa using iq) ao) ae
   exact this.mono bN.le
  · exfalso
    obtain⟨s,hs,_⟩:=bu.l2 (i:=X.N) (by omega)
    obtain⟨bc,dv,_,_,_,l3⟩:=bu.l2 af
    have:=(bu.last s hs).2.2 i bc tz dv
    rw[(bu.lr hs).2.1] at this
    have:=h.sub _ (l3 S h.closed cI _ this)
    omega
end
section
variable {P:Program}
theorem JI{need:Nat}{ops:Array Oper}{r:aY}{n:Nat}{env:List I}{last:Option Nat}{h:J}{bf:List (Nat×Nat×J)}:∀{l:List DStep},lo P need ops r n env last h bf l=true->∀s∈l,s.i<n->kindOf P s.o.op=.pure->kX P need ops r n env s ((nth (n-1-s.i) env).getD .bad) last h bf=true
 |[],_,s,hs,_,_=>by cases hs
 |x::l,aw,s,hs,af,aq=>by
  simp only[lo,Bool.and_eq_true] at aw
  rcases List.mem_cons.1 hs with rfl|hs
  · have ab:=aw.1
    have ae:Nat.blt s.i n=true:=by simpa using af
    rw[ae,aq] at ab
    exact ab
  · exact JI aw.2 s hs af aq
theorem JJ(hm:P.follows .mixedOrders=true){call:aI->List I->J->av}(ag:jq P call)(need bP:Nat):mL P need bP call:=by
 intro ops id kz hdr b inR r d q H μ w a k cs0 cs fj aj bx ak al ao aM
 unfold sY
 simp only
 obtain⟨pz,kE⟩:∃pz:tr,pz=⟨[],d,q,⟨H.t,H.n+ops.size⟩,[]⟩:=⟨_,rfl⟩
 obtain⟨res,iV⟩:∃res,gn P need inR call ops r H.n (e7 ops.toList 0 [] []) [] d q ⟨H.t,H.n+ops.size⟩ []=res:=⟨_,rfl⟩
 rw[iV]
 by_cases JK:∃jY,res=.fail jY
 · obtain⟨jY,e⟩:=JK;subst e;trivial
 have D7:∀jY,res≠ .fail jY:=λjY e=>JK ⟨jY,e⟩
 have Sk:gn P need inR call ops r H.n (e7 ops.toList 0 [] []) pz.env pz.d pz.q pz.h pz.bf=res:=by rw[kE];exact iV
 obtain⟨f,N,f0,gP,JL,vo⟩:=Jo _ _ _ Sk D7
 have hlen:(e7 ops.toList 0 [] []).length=ops.size:=by rw[DR];simp
 rw[hlen] at gP
 have JM:∀m,m<=N->(f m).env.length=m:=λm=>by
  induction m with
  |zero=>intro _;rw[f0,kE];rfl
  |succ m a7=>
   intro qo
   have hs:(e7 ops.toList 0 [] [])[m]? =some (e7 ops.toList 0 [] [])[m]:=List.getElem?_eq_getElem (by omega)
   have ba:=JL m _ (by omega) hs
   have D8:=a7 (by omega)
   generalize f (m+1)=st at ba
   cases ba<;>simp[D8]
 let X:hE:={P:=P,need:=need,bP:=bP,inR:=inR,call:=call,ops:=ops,r:=r,b:=b,mO:=μ,H:=H,gX:=w,cs0:=cs0,N:=N,f:=f}
 let cN:World:={w with drawn:=w.drawn+1}
 have rT:∀o i,ops[i]? =some o->oa o i=true:=λo i a4=>by
  have af:i<ops.size:=(Array.getElem?_eq_some_iff.1 a4).1
  have iq:ops.toList[i]? =some o:=by simpa using a4
  obtain⟨s,ab,ad,ar,_⟩:=x6 (ops:=ops) ops.toList 0 [] [] (λk=>by simp) (vi hdr) (λj aJ=>by omega) i o iq
  have:=vi hdr s (List.mem_of_getElem? ab)
  rw[ar] at this
  have yc:s.i=i:=by omega
  rw[yc] at this;exact this
 have lu:=R5 rT (w.tape w.drawn (.order b.fn id))
 have eX:Steps P (lone (b.atR a (.code (.region id ops true)::k)) cs w) (lone (b.atR a (.inRegion ops (Region.schedule true ops (w.tape w.drawn (.order b.fn id)))::k)) cs cN):=by
  have:=stepR_region_draw (P:=P) (b:=b) (a:=a) (k:=k) (cs:=cs) (w:=w) (ops:=ops) (id:=id)
  rw[hm] at this
  exact .one this
 have hinv:Inv X [] 0 μ cN a cs:=by
  refine⟨Nat.zero_le _,(λj aJ=>by cases aJ),(λj aJ=>by cases aJ),(λi s ab ad ar=>⟨λaJ=>(by cases aJ),λaJ=>(by omega)⟩),?_,?_,?_,?_,λi af _=>?_,(λi s v cw ab ad ar aG=>by omega),λi af ad=>?_,?_,(λi s v cw ab ad ar aG=>by cases ar),?_,bx⟩
  · show bt μ (f 0).h cN
    rw[f0,kE]
    exact⟨λfl o i ae af=>(ak.rel fl o i ae af).mono (e8.refl μ) rfl,ak.inj,λfl i af=>⟨Nat.lt_of_lt_of_le (ak.lt fl i af).1 (Nat.le_add_right _ _),(ak.lt fl i af).2⟩,λfl ae=>ak.bound fl (Nat.le_trans (Nat.le_add_right _ _) ae)⟩
  · show cb μ H w μ (f 0).h cN
    rw[f0,kE]
    exact⟨e8.refl μ,Nat.le_refl _,Nat.le_add_right _ _,λ_ _ aw=>aw,λ_ _ _=>rfl,λ_ _ _=>rfl,(λfl i ab ad=>by rw[ab] at ad;cases ad),λ_ _ _ ae _ _=>⟨ae,rfl⟩,rfl,rfl,rfl,Nat.le_succ _⟩
  · show gq μ (f 0).d a.defers
    rw[f0,kE];exact ao
  · show hD μ b.kind cs0 (f 0).q cs
    rw[f0,kE];exact aM
  · show μ (H.n+i)=none
    cases e:μ (H.n+i) with
    |none=>rfl
    |some eo=>have:=(ak.lt _ eo e).1;omega
  · show(f 0).h.get (H.n+i)=none
    rw[f0,kE]
    exact ak.bound (H.n+i) (Nat.le_add_right _ _)
  · show H.n+ops.size<=(f 0).h.n
    rw[f0,kE];exact Nat.le_refl _
  · intro t
    exact⟨λj o aJ=>(by cases aJ),λ_ ae=>aj t ae⟩
 have JN:∀(dV:Option Nat) (kD:lo P need ops r (f N).env.length (f N).env dV (f N).h (f N).bf (e7 ops.toList 0 [] [])=true) (AX:∀e,dV=some e->e=N/\N<ops.size)
   (rr:∀s,(e7 ops.toList 0 [] [])[N]? =some s->kindOf P s.o.op=.ek/\(∀e m h0 l,(f N).bf=(e,m,h0)::l->Nat.testBit s.e2 e=true)/\∀k bc,N<k->(e7 ops.toList 0 [] [])[k]? =some bc->Nat.testBit bc.e2 s.i=true),fK X:=by
  intro dV kD AX rr
  refine⟨ag,fj,kz,hdr,gP,JL,by show(f 0).env=[];rw[f0,kE],by show(f 0).bf=[];rw[f0,kE],λi s af hs aq=>?_,rr,al,ak⟩
  have hU:s.i=i:=by
   have D9:i<ops.size:=Nat.lt_of_lt_of_le af gP
   obtain⟨bc,ab,ad,_⟩:=x6 (ops:=ops) ops.toList 0 [] [] (λk=>by simp) (vi hdr) (λj aJ=>by omega) i _ (show ops.toList[i]? =some ops[i] by simp[D9])
   have ke:(e7 ops.toList 0 [] [])[i]? =some s:=hs
   rw[ab] at ke;cases ke;omega
  have:=JI kD s (List.mem_of_getElem? hs) (by rw[JM N (Nat.le_refl _),hU];exact af) aq
  rw[JM N (Nat.le_refl _),hU] at this
  exact⟨dV,this,AX⟩
 rcases vo with⟨adq,aa⟩|⟨s,hs,aq,a4,Sl,v,bd,bk,an,he,aa⟩
 · subst aa
   simp only
   cases kD:lo P need ops r (f N).env.length (f N).env none (f N).h (f N).bf (e7 ops.toList 0 [] []) with
   |false=>trivial
   |true=>
    simp only
    have bu:=JN none kD (λe he=>by cases he) (λs hs=>by rw[List.getElem?_eq_none (by omega)] at hs;cases hs)
    have fu:D6 X (.ok (f N).env (f N).d (f N).q (f N).h):=⟨λ_=>rfl,λcd=>by
     have xx:N<ops.size:=cd
     omega⟩
    exact hE.D5 (X:=X) eX (Inv.order bu fu k _ [] 0 μ cN a cs lu hinv)
 · subst aa
   simp only
   have hU:s.i=N:=by
    have D9:N<ops.size:=by have:=(List.getElem?_eq_some_iff.1 hs).1;omega
    obtain⟨bc,ab,ad,_⟩:=x6 (ops:=ops) ops.toList 0 [] [] (λk=>by simp) (vi hdr) (λj aJ=>by omega) N _ (show ops.toList[N]? =some ops[N] by simp[D9])
    rw[ab] at hs;cases hs;omega
   have Sm:N<ops.size:=by have:=(List.getElem?_eq_some_iff.1 hs).1;omega
   cases kD:lo P need ops r (f N).env.length (f N).env (some s.i) (f N).h (f N).bf (e7 ops.toList 0 [] []) with
   |false=>trivial
   |true=>
    simp only
    have bu:=JN (some s.i) kD (λe he=>by cases he;exact⟨hU,Sm⟩) (λbc dv=>by rw[hs] at dv;cases dv;exact⟨aq,a4,Sl⟩)
    have fu:D6 X (.b6 v bd bk an):=⟨λe=>by
     have cF:N=ops.size:=e
     omega,λ_ bc dv=>by
     have ke:(e7 ops.toList 0 [] [])[N]? =some bc:=dv
     rw[hs] at ke;cases ke
     exact⟨v,bd,bk,an,he,rfl⟩⟩
    exact hE.D5 (X:=X) eX (Inv.order bu fu k _ [] 0 μ cN a cs lu hinv)
structure Fit(P:Program):Prop where
 mixed:P.follows .mixedOrders=true
 code:vd P
 ext:AK P
theorem D_(hf:Fit P){intr:Nat->List I->J->Option (I×J)}(af:nG P intr)(n:Nat):jq P (fa P intr n):=
 Ji af (λcall ag need bP=>JJ hf.mixed ag need bP) hf.code hf.ext n
end
end aP
namespace aP
open Go Go.RowKit Go.ChangeShapes Go.WideShapes
section
variable {P:Program}
def Sn(P:Program):Bool:=P.funcs.toList.all λfn=>match fn.body with
 |some c=>hA fn.ntmps c&&!(fn.name== "runtime.NumGoroutine")
 |none=>true
def So(P:Program):Bool:=P.funcs.toList.all λfn=>match fn.body with
 |some _=>true
 |none=>!rR.contains fn.name||(Extern.findNext fn).isNone
theorem JO{g:FuncId}{hz:Func}(h:P.funcs[g]? =some hz):hz∈P.funcs.toList:=by
 rw[<-Array.getElem?_toList] at h;exact List.mem_of_getElem? h
theorem yd(hm:P.follows .mixedOrders=true)(ag:Sn P=true)(he:So P=true):Fit P where
 mixed:=hm
 code:=λg hz gc al ae=>by
  have:=List.all_eq_true.1 ag hz (JO al)
  rw[ae] at this
  simp only[Bool.and_eq_true,Bool.not_eq_true'] at this
  exact this
 ext:=λg hz al ae aN=>by
  have:=List.all_eq_true.1 he hz (JO al)
  rw[ae] at this
  simp only[Bool.or_eq_true,Bool.not_eq_true',List.contains_eq_mem,decide_eq_false_iff_not] at this
  rcases this with h|h
  · exact absurd aN h
  · simpa using h
def ye(H:J):Prop:=∀b o,H.get b=some o->o.pj=true
theorem cb.below{μ aX:bq}{H aW:J}{W ir:World}(aj:ye H)(ak:bt μ H W)(h:cb μ H W aX aW ir):Below W.heap.size W ir:=by
 refine⟨h.os,h.tape,h.out,h.size,λr cd=>?_⟩
 by_cases he:∃b i,H.get b≠none/\μ b=some i/\i.bl=r
 · obtain⟨b,i,ab,ad,rfl⟩:=he
   cases al:H.get b with
   |none=>exact absurd al ab
   |some o=>exact(h.ro b o i al (aj b o al) ad).2
 · exact h.old r cd λb i ab ad ar=>he ⟨b,i,ab,ad,ar⟩
def yf(G:Nat):bq:=λb=>if b<G then some ⟨b,0,0⟩ else none
theorem Sp{W:World}(js:P.globals.size<=W.heap.size):bt (yf P.globals.size) (ri P.globals.size) W/\hn P (yf P.globals.size)/\ye (ri P.globals.size):=by
 have aN:∀b,(ri P.globals.size).get b=none:=λb=>rfl
 refine⟨⟨λb o i h=>(by rw[aN] at h;cases h),λb c i j h=>absurd (aN b) h,λb i h=>?_,λb _=>aN b⟩,λg al=>⟨⟨g,0,0⟩,by simp[yf,al],rfl,rfl⟩,λb o h=>(by rw[aN] at h;cases h)⟩
 unfold yf at h
 split at h
 · rename_i ae;cases h;exact⟨ae,Nat.lt_of_lt_of_le ae js⟩
 · cases h
theorem Sq(hf:Fit P){intr:Nat->List I->J->Option (I×J)}(af:nG P intr){n:Nat}{f:Nat}{fn:Func}{c:Code}(nB:P.funcs[f]? =some fn)(ae:fn.body=some c){args:List I}{H:J}{v:I}{aW:J}
  (eX:fa P intr n (.fn f) args H=.ret v aW){μ:bq}{W:World}{vs:List Value}(ak:bt μ H W)(al:hn P μ)(aC:cf μ args vs):
  Calls P f ⟨vs⟩ W λe ir=>∃aX u,e=.returned u/\bm aX v u/\bt aX aW ir/\cb μ H W aX aW ir:=by
 have ab:=(D_ hf af n).fn f args H (by rw[eX];rfl) μ W vs ak al aC
 rw[eX] at ab
 obtain⟨_,DO⟩:=hf.code f fn c nB ae
 have he:=AH nB ae DO ⟨vs⟩ W
 rcases ab with⟨v',w',a8,_⟩|⟨_,a6⟩
 · rw[he] at a8;cases a8
 · exact a6.mono λe ir h=>h
def AZ:av->Bool
 |.ret (.bool true) _=>true
 |_=>false
theorem Sr{r:av}(h:AZ r=true):∃H,r=.ret (.bool true) H:=by
 unfold AZ at h
 split at h
 · exact⟨_,rfl⟩
 · cases h
theorem Ss(hf:Fit P){intr:Nat->List I->J->Option (I×J)}(af:nG P intr){n:Nat}{f:Nat}{fn:Func}{c:Code}(nB:P.funcs[f]? =some fn)(ae:fn.body=some c){args:List I}{H:J}
  (eX:AZ (fa P intr n (.fn f) args H)=true){μ:bq}{W:World}{vs:List Value}(ak:bt μ H W)(aj:ye H)(al:hn P μ)(aC:cf μ args vs):
  Calls P f ⟨vs⟩ W λe ir=>e=.returned (.bool true)/\Below W.heap.size W ir:=by
 obtain⟨aW,e⟩:=Sr eX
 exact(Sq hf af nB ae e ak al aC).mono λe ir ⟨aX,u,ab,ad,ar,aG⟩=>⟨by cases ad;exact ab,aG.below aj ak⟩
def Ea(P:Program):Bool:=match P.globals.size with
 |0=>true
 |g+1=>(((begin P (λ_ _=>0) default).world.heap[g]?).bind Obj.row?).isSome
theorem St{W:World}(hs:W.ShapedOpen P)(ae:Ea P=true):P.globals.size<=W.heap.size:=by
 unfold Ea at ae
 cases al:P.globals.size with
 |zero=>exact Nat.zero_le _
 |succ g=>
  rw[al] at ae
  simp only at ae
  obtain⟨⟨zero,t⟩,aa⟩:=Option.isSome_iff_exists.1 ae
  obtain⟨cs,ab,_⟩:=hs.1 g zero t (by omega) aa
  have:=(Array.getElem?_eq_some_iff.1 ab).1
  omega
variable {H:Type} {enc:TypeId×Value->H}
theorem JP(aw:laidOutB P=true){W ir:World}(ae:Below W.heap.size W ir){sp:Nat->Bool}:∀{ck:List TypeId} {vs:List Value} {ds:List (DataW H)} {ps:List MemPlace},(∀t∈ck,P.readableRec t=true/\t<P.types.size)->
  DataW.TrodAll enc P W 0 (λ_=>true) true ck vs ds ps->(∀x∈ps,x.block<W.heap.size/\sp x.block=true)->DataW.TrodAll enc P ir 0 sp true ck vs ds ps
 |[],[],[],_,_,h,_=>h
 |_::_,_::_,_::_,_,oz,⟨p,q,ab,ad,e⟩,hs=>
  ⟨p,q,WideElems.Trod_stays aw (oz _ (by simp)).1 (oz _ (by simp)).2 ab (λx aa=>ae.same (hs x (by rw[e];simp[aa])).1) (λx aa=>(hs x (by rw[e];simp[aa])).2),
    JP aw ae (λt ba=>oz t (by simp[ba])) ad (λx aa=>hs x (by rw[e];simp[aa])),e⟩
theorem Su{f:Func}{s:ChangeSpec}{apart fresh handsOn again:Bool}{W ir:World}{args:Array Value}{ds gs:List (DataW H)}{before:List MemPlace}{l4:TypeId}
  (aw:laidOutB P=true)(oz:∀t∈f.params.toList,P.readableRec t=true/\t<P.types.size)(iV:f.resultTypes=#[l4])(vr:P.underlying l4=some .bool)(Eb:s.vars=[])
  (js:DataW.Whole enc P f.params.toList s.vars apart W args.toList ds gs before)(nB:s.fn H ds={results:=[.lit (.bool true)],args:=ds})(ae:Below W.heap.size W ir):
  s.post enc P f apart fresh handsOn again W args (.bool true) ir:=by
 have cd:∀p∈before,p.block<W.heap.size:=λp aK=>js.lt p aK
 have Sv:=js
 obtain⟨rY,Ds,jZ,Ec,rfl,a2,aN⟩:=js
 rw[Eb] at Ec
 obtain⟨rfl,rfl⟩:=trodVars_none Ec
 have e:s.fn H (ds++[])={results:=[.lit (.bool true)],args:=ds}:=by rw[List.append_nil];exact nB
 have hF:∀sp:Nat->Bool,(∀p∈rY++[],sp p.block=true)->DataW.TrodAll enc P ir 0 sp true f.params.toList args.toList ds rY:=λsp Sw=>
  JP aw ae oz jZ (λx aa=>⟨cd x (by simp[aa]),Sw x (by simp[aa])⟩)
 have fJ:∀(b:Nat) (sp:Nat->Bool) (ao:Bool),DataW.TrodAll enc P ir b sp ao f.resultTypes.toList ((Value.bool true).resultList f.resultTypes.size) [.lit (.bool true)] []:=λb sp ao=>by
  rw[iV];exact trodAll_mk1 (shut_bool vr true)
 refine⟨ds,[],rY++[],[],rY,[],Sv,?_,?_,?_,World.keptBut_mono (λp aK=>⟨aK,?_⟩) (ae.frame (· ∈rY++[])),λ_=>?_⟩
 · rw[e];exact fJ _ _ _
 · rw[e];exact hF _ λp aK=>by simpa using cd p aK
 · rw[e,Eb];rfl
 · exact Or.inr (by simpa using aK)
 · refine⟨ok_one iV rfl (okWide_bool_mk vr true),_,_,([]++rY)++[],⟨[]++rY,[],trodAll_append (hF _ (λ_ _=>rfl)) (fJ _ _ _),show DataW.TrodVars enc P ir (λ_=>true) s.vars [] [] from by rw[Eb];rfl,rfl,?_,?_⟩,?_⟩
   · intro b off aK
     have fj:MemPlace.cell b off∈rY++[]:=by simpa using aK
     rw[ae.frozen (cd _ fj)]
     exact a2 b off fj
   · intro aT
     simpa using aN aT
   · intro p aK _
     simpa using aK
theorem Sx{a:Assume}{C:Checked}{os:Os}{f:FuncId}{fn:Func}{s:ChangeSpec}{conds:List PathCond}{apart fresh handsOn again:Bool}{X:World->Array Value->Prop}
  (bu:∀(w w':World) (args:Array Value),w.heap=w'.heap->X w args->X w' args)
  (own:ownKnob C.prog.godebug=none)(started:os.Started)(Sy:C.prog.inits.idxOf? f=none)(nB:C.prog.funcs[f]? =some fn)
  (witness:∃(w:World) (tape:Tape) (i:Input),w.os=os/\(w.forCall tape i).Shaped C.prog/\i.vars=[]/\Input.okWide C.prog (w.forCall tape i) .any w.heap.size f i/\
   ((s.pre enc C.prog fn conds apart (w.forCall tape i).memory i.args/\X (w.forCall tape i).memory i.args)/\sizedMet enc C.prog fn (OpenSpec.ofChange s) apart (w.forCall tape i).memory i.args)/\a.holds C.prog (lone (Frame.enter C.prog f i.args .normal) [] (w.forCall tape i)))
  (Sz:∀(W:World) (base:Nat) (args:Array Value) (ds gs:List (DataW H)) (before:List MemPlace),
   (∀(j:Nat) t v,fn.params[j]? =some t->args[j]? =some v->Value.okWide C.prog W .any base t v)->
   DataW.Whole enc C.prog fn.params.toList s.vars apart W args.toList ds gs before->
   (DataW.weightsEach C.prog (fn.params.toList++s.plain.varTypes C.prog) (ds++gs)).all (· <=reachBytes)=true->X W args->W.ShapedOpen C.prog->
   Calls C.prog f args W λe ir=>∃v,e=.returned v/\s.post enc C.prog fn apart fresh handsOn again W args v ir):
  ReturnsInHanded a C os f .any (λw args=>(s.pre enc C.prog fn conds apart w args/\X w args)/\sizedMet enc C.prog fn (OpenSpec.ofChange s) apart w args) (s.post enc C.prog fn apart fresh handsOn again):=by
 refine returnsInHanded_of_calls own started Sy witness ?_
 intro w tape i _ kF _ de SA adr
 obtain⟨_,_,_,CW,SB,_,_,_,_,l0⟩:=de
 have e:CW=fn:=Option.some.inj (SB.symm.trans nB)
 subst e
 obtain⟨⟨⟨ds,gs,before,hw,ag⟩,aa⟩,a2⟩:=SA
 have SC:=DataW.Whole.of_heap (w':=w.forCall tape i) (by rfl) hw
 refine(Sz (w.forCall tape i) w.heap.size i.args ds gs before l0 SC (a2.weights hw) (bu _ _ _ (by rfl) aa) kF).mono λe ir ⟨v,he,aK⟩=>?_
 subst he
 exact ChangeSpec.post_blind aK
end
end aP
namespace aP
open Go Go.RowKit
mutual
def mQ:I->Bool
 |.bool _=>true
 |.int _ _=>true
 |.str _=>true
 |.bb=>true
 |.a0=>true
 |.h4=>true
 |.fR=>true
 |.e1=>true
 |.fn _ a b=>rZ a&&rZ b
 |.iface _ v=>mQ v
 |.agg cs=>rZ cs
 |.aQ vs=>rZ vs
 |_=>false
def rZ:List I->Bool
 |[]=>true
 |v::vs=>mQ v&&rZ vs
end
mutual
theorem Ed{μ aX:bq}:∀(a:I) (v:Value),mQ a=true->bm μ a v->bm aX a v
 |.bool _,v,_,h=>h
 |.int _ _,v,_,h=>h
 |.str _,v,_,h=>h
 |.bb,v,_,h=>h
 |.a0,v,_,h=>h
 |.h4,v,_,h=>h
 |.fR,v,_,h=>h
 |.e1,v,_,h=>h
 |.fn f a b,v,aj,h=>by
  simp only[mQ,Bool.and_eq_true] at aj
  obtain⟨bV,cs,e,ab,ad⟩:=h
  exact⟨bV,cs,e,vt _ _ aj.1 ab,vt _ _ aj.2 ad⟩
 |.iface t x,v,aj,h=>by
  simp only[mQ] at aj
  obtain⟨y,e,ab⟩:=h
  exact⟨y,e,Ed _ _ aj ab⟩
 |.agg cs,v,aj,h=>by
  simp only[mQ] at aj
  obtain⟨l,e,ab⟩:=h
  exact⟨l,e,vt _ _ aj ab⟩
 |.aQ cs,v,aj,h=>by
  simp only[mQ] at aj
  obtain⟨l,e,ab⟩:=h
  exact⟨l,e,vt _ _ aj ab⟩
 |.bad,v,aj,h=>by simp[mQ] at aj
 |.ptr _ _,v,aj,h=>by simp[mQ] at aj
 |.slice _ _ _ _,v,aj,h=>by simp[mQ] at aj
 |.map _,v,aj,h=>by simp[mQ] at aj
 |.dh _,v,aj,h=>by simp[mQ] at aj
theorem vt{μ aX:bq}:∀(as:List I) (vs:List Value),rZ as=true->cf μ as vs->cf aX as vs
 |[],vs,_,h=>h
 |a::as,vs,aj,h=>by
  simp only[rZ,Bool.and_eq_true] at aj
  obtain⟨v,vc,e,ab,ad⟩:=h
  exact⟨v,vc,e,Ed a v aj.1 ab,vt as vc aj.2 ad⟩
end
structure qI where
 f:Nat
 args:List I
 v:I
def qJ:List qI->Nat->List I->J->Option (I×J)
 |[],_,_,_=>none
 |e::T,f,args,h=>match Nat.beq f e.f with
  |true=>match I.nk args e.args with
   |true=>some (e.v,h)
   |false=>qJ T f args h
  |false=>qJ T f args h
theorem JQ:∀(T:List qI) (f:Nat) (args:List I) (h:J) (v:I) (an:J),qJ T f args h=some (v,an)->an=h/\∃e∈T,e.f=f/\e.args=args/\e.v=v
 |[],f,args,h,v,an,aa=>by cases aa
 |e::T,f,args,h,v,an,aa=>by
  simp only[qJ] at aa
  have rest:qJ T f args h=some (v,an)->an=h/\∃cF∈e::T,cF.f=f/\cF.args=args/\cF.v=v:=λaa=>by
   obtain⟨ab,cF,ad,ar⟩:=JQ T f args h v an aa
   exact⟨ab,cF,List.mem_cons_of_mem _ ad,ar⟩
  split at aa
  · rename_i hf
    split at aa
    · rename_i aT
      cases aa
      exact⟨rfl,e,by simp,(Nat.eq_of_beq_eq_true hf).symm,(vl _ _ aT).symm,rfl⟩
    · exact rest aa
  · exact rest aa
section
variable {P:Program}
def Ee(P:Program)(intr:Nat->List I->J->Option (I×J))(n:Nat)(e:qI):Bool:=
 match fa P intr n (.fn e.f) e.args (ri P.globals.size) with
 |.ret v _=>I.beq v e.v&&mQ e.v&&rZ e.args
 |_=>false
def tA(P:Program)(e:qI):Prop:=∃(intr:Nat->List I->J->Option (I×J)) (n:Nat),nG P intr/\Ee P intr n e=true
theorem tj.mono{f:FuncId}{vs:List Value}{w:World}{R JR:Ending->World->Prop}(h:∀e w',R e w'->JR e w')(al:tj P f vs w R):tj P f vs w JR:=by
 rcases al with⟨v,w',ab,ad⟩|⟨ab,ad⟩
 · exact .inl ⟨v,w',ab,h _ _ ad⟩
 · exact .inr ⟨ab,ad.mono λe w' he=>h e w' he⟩
theorem JS(hf:Fit P){T:List qI}(oz:∀e∈T,tA P e):nG P (qJ T):=by
 intro f args H v aW aa μ w vs ak al aC
 obtain⟨rfl,e,he,rfl,rfl,rfl⟩:=JQ T f args H v aW aa
 obtain⟨intr,n,af,ae⟩:=oz e he
 unfold Ee at ae
 split at ae
 · rename_i v1 H1 eX
   simp only[Bool.and_eq_true] at ae
   obtain⟨⟨iW,fB⟩,SD⟩:=ae
   have SE:=beq_eq _ _ iW
   subst SE
   have iL:P.globals.size<=w.heap.size:=by
    cases bx:P.globals.size with
    |zero=>exact Nat.zero_le _
    |succ g=>
     obtain⟨i,ab,ad,ar⟩:=al g (by omega)
     have:=(ak.lt _ i ab).2
     omega
   obtain⟨s1,s2,bK⟩:=Sp (P:=P) iL
   have iI:=(D_ hf af n).fn e.f e.args (ri P.globals.size) (by rw[eX];rfl) (yf P.globals.size) w vs s1 s2 (vt _ _ SD aC)
   rw[eX] at iI
   refine iI.mono λnA w' pw=>?_
   obtain⟨aX,u,rfl,a8,a6,b4⟩:=pw
   have hold:∀r,r<w.heap.size->w'.heap[r]? =w.heap[r]? :=λr aj=>b4.old r aj λb i aw=>absurd rfl aw
   refine⟨μ,u,rfl,Ed _ _ fB a8,⟨λb o i ae af=>(ak.rel b o i ae af).mono (e8.refl μ) (hold _ (ak.lt b i af).2),ak.inj,λb i af=>⟨(ak.lt b i af).1,Nat.lt_of_lt_of_le (ak.lt b i af).2 b4.size⟩,ak.bound⟩,?_⟩
   exact⟨e8.refl μ,b4.size,Nat.le_refl _,λ_ _ aw=>aw,λ_ _ _=>rfl,λr aj _=>hold r aj,(λb i ab ad=>by rw[ab] at ad;cases ad),λb o i ae _ af=>⟨ae,hold _ (ak.lt b i af).2⟩,b4.os,b4.out,b4.tape,b4.drawn⟩
 · cases ae
def yg(P:Program):List qI->Prop
 |[]=>True
 |e::T=>tA P e/\yg P T
theorem yg.ok:∀{T:List qI},yg P T->∀e∈T,tA P e
 |[],_,e,he=>by cases he
 |x::T,h,e,he=>by
  rcases List.mem_cons.1 he with rfl|he
  · exact h.1
  · exact yg.ok h.2 e he
theorem JT(hf:Fit P){T:List qI}(oz:yg P T){n:Nat}{e:qI}(h:Ee P (qJ T) n e=true):tA P e:=⟨qJ T,n,JS hf oz.ok,h⟩
end
end aP
namespace aP
open Go
def qK(G:Nat)(is:List eV):bq:=λb=>if b<G then some ⟨b,0,0⟩ else is[b-G]?
def vu(h:J)(r:List I×Nat):J:=h.push (.cells r.1 r.2 .ro 0 0)
def tB(G:Nat)(rows:List (List I×Nat)):J:=rows.foldl vu (ri G)
theorem Ef:∀(rows:List (List I×Nat)) (h:J),(∀b,h.n<=b->h.get b=none)->(rows.foldl vu h).n=h.n+rows.length/\∀b,(rows.foldl vu h).get b=if b<h.n then h.get b else(rows[b-h.n]?).map λr=>.cells r.1 r.2 .ro 0 0
 |[],h,ae=>⟨rfl,λb=>by
  split
  · rfl
  · rename_i aN;simpa using ae b (by omega)⟩
 |r::rows,h,ae=>by
  have aN:(vu h r).n=h.n+1:=rfl
  have al:∀b,(vu h r).get b=if b=h.n then some (.cells r.1 r.2 .ro 0 0) else h.get b:=λb=>J.gp _ _ _
  obtain⟨a8,a6⟩:=Ef rows (vu h r) λb ab=>by rw[al,if_neg (by omega)];exact ae b (by omega)
  refine⟨by rw[List.foldl_cons,a8,aN,List.length_cons];omega,λb=>?_⟩
  rw[List.foldl_cons,a6,aN,al]
  by_cases ab:b<h.n
  · rw[if_pos (by omega),if_neg (by omega),if_pos ab]
  · rw[if_neg ab]
    by_cases ad:b=h.n
    · subst ad;rw[if_pos (by omega),if_pos rfl,Nat.sub_self];rfl
    · rw[if_neg (by omega)]
      obtain⟨k,rfl⟩:∃k,b=h.n+(k+1):=⟨b-h.n-1,by omega⟩
      have aA:h.n+(k+1)-(h.n+1)=k:=by omega
      have ay:h.n+(k+1)-h.n=k+1:=by omega
      rw[aA,ay];rfl
theorem Eg(G:Nat)(rows:List (List I×Nat)):(tB G rows).n=G+rows.length:=(Ef rows (ri G) λ_ _=>rfl).1
theorem Eh(G:Nat)(rows:List (List I×Nat))(b:Nat):(tB G rows).get b=if b<G then none else(rows[b-G]?).map λr=>.cells r.1 r.2 .ro 0 0:=(Ef rows (ri G) λ_ _=>rfl).2 b
def Ei(W:World)(i:eV)(cs:List I)(el:Nat):Prop:=∃c fz,W.heap[i.bl]? =some (.cells c el fz)/\(∀μ,z8 μ cs c i.base)/\i.base+i.size=c.size
theorem SF{P:Program}{l:List (eV×List I×Nat)}{k:Nat}{x:eV×List I×Nat}(h:l[k]? =some x):qK P.globals.size (l.map (·.1)) (P.globals.size+k)=some x.1:=by
 unfold qK
 rw[if_neg (by omega),Nat.add_sub_cancel_left,List.getElem?_map,h];rfl
theorem SG{P:Program}{l:List (eV×List I×Nat)}{k:Nat}{x:eV×List I×Nat}(h:l[k]? =some x):(tB P.globals.size (l.map (·.2))).get (P.globals.size+k)=some (.cells x.2.1 x.2.2 .ro 0 0):=by
 rw[Eh,if_neg (by omega),Nat.add_sub_cancel_left,List.getElem?_map,h];rfl
end aP
namespace aP
open Go
end aP
