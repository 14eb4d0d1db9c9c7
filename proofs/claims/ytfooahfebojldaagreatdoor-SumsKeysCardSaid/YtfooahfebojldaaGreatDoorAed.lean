/-
  THE ABSTRACT EVALUATOR (drawn regions; a run of the evaluator is a run of the program): a deterministic semantics of loaded code, and the proof that its runs are runs of the program in the model, whatever the tape draws. No condition.
-/
import Derived.Test.YtfooahfebojldaaGreatDoorAec
import Derived.Handed
import Derived.ProofKit
import Derived.Below
import Derived.ChangeSame
import Derived.SliceStrings
import Derived.WideShapes
set_option linter.unusedVariables false
set_option linter.unusedSimpArgs false
namespace aB
open Go
structure gY where
 P:Program
 need:Nat
 cd:Nat
 inR:Bool
 call:aF->List I->J->ao
 ops:Array Oper
 r:aR
 b:Frame
 lZ:bg
 H:J
 iS:World
 cs0:List Frame
 N:Nat
 f:Nat->r6
def gY.steps(X:gY):List DStep:=eN X.ops.toList 0 [] []
def gY.val(X:gY)(j:Nat):I:=(nth (X.N-1-j) (X.f X.N).env).getD .bad
structure fu(X:gY):Prop where
 ag:lh X.P X.call
 cY:X.inR=X.b.roundOf.isSome
 oh:∀o∈X.ops.toList,∀t,o.dst=some t->t<X.cd
 hdr:oZ X.ops X.steps=true
 gn:X.N<=X.ops.size
 r8:∀k s,k<X.N->X.steps[k]? =some s->r7 X.P X.need X.inR X.call X.ops X.r X.H.n s (X.f k) (X.f (k+1))
 OF:(X.f 0).env=[]
 qF:(X.f 0).a1=[]
 looks:∀i s,i<X.N->X.steps[i]? =some s->kindOf X.P s.o.op=.pure->∃dI,kd X.P X.need X.ops X.r X.N (X.f X.N).env s (X.val i) dI (X.f X.N).h (X.f X.N).a1=true/\(∀e,dI=some e->e=X.N/\X.N<X.ops.size)
 last:∀s,X.steps[X.N]? =some s->kindOf X.P s.o.op=.dS/\(∀e m h0 l,(X.f X.N).a1=(e,m,h0)::l->Nat.testBit s.eE e=true)/\∀k bC,X.N<k->X.steps[k]? =some bC->Nat.testBit bC.eE s.i=true
 oc:ha X.P X.lZ
 yU:bn X.lZ X.H X.iS
section
variable {X:gY}
theorem fu.ll(bo:fu X){i:Nat}(ae:i<X.ops.size):∃s,X.steps[i]? =some s/\s.i=i/\X.ops[i]? =some s.o/\s.loc=hX (X.ops.toList.take i) 0 []/\Sound X.ops i s.eE:=by
 have a7:X.ops.toList[i]? =some X.ops[i]:=by simp[ae]
 obtain⟨s,aa,ad,aw,aQ,bS⟩:=wi (ops:=X.ops) X.ops.toList 0 [] [] (λk=>by simp) (tM bo.hdr) (λj aG=>by omega) i _ a7
 refine⟨s,aa,by omega,by rw[aw];exact Array.getElem?_eq_getElem ae,aQ,by simpa using bS⟩
theorem fu.kI(bo:fu X){i:Nat}{s:DStep}(h:X.steps[i]? =some s):i<X.ops.size/\s.i=i/\X.ops[i]? =some s.o/\s.loc=hX (X.ops.toList.take i) 0 []/\Sound X.ops i s.eE:=by
 have ae:i<X.ops.size:=by
  have aa:=(List.getElem?_eq_some_iff.1 h).1
  rw[gY.steps,BK] at aa
  simpa using aa
 obtain⟨bC,aa,ad⟩:=bo.ll ae
 rw[h] at aa;cases aa
 exact⟨ae,ad⟩
theorem fu.apart(bo:fu X){i j:Nat}{s bC:DStep}(qE:i<j)(aa:X.steps[i]? =some s)(ad:X.steps[j]? =some bC)(h:(∃t,s.o.dst=some t/\t∈k5 X.ops bC.o)\/(∃t,bC.o.dst=some t/\t∈k5 X.ops s.o)):Nat.testBit bC.eE i=true:=by
 have:=GP bo.hdr i j s bC qE aa ad h
 rw[(bo.kI aa).2.1] at this;exact this
theorem fu.yV(bo:fu X):∀k,k<=X.N->(X.f k).env.length=k
 |0,_=>by rw[bo.OF];rfl
 |k+1,av=>by
  obtain⟨s,aa,_⟩:=bo.ll (i:=k) (by have:=bo.gn;omega)
  have bd:=bo.yV k (by omega)
  have aU:=bo.r8 k s (by omega) aa
  generalize X.f (k+1)=st at aU
  cases aU<;>simp[bd]
theorem fu.GR(bo:fu X)(k:Nat):∀m,k<=m->m<=X.N->∃l,(X.f m).env=l++(X.f k).env
 |0,aa,ad=>⟨[],by obtain rfl:k=0:=by omega
                  rfl⟩
 |m+1,aa,ad=>by
  by_cases e:k=m+1
  · exact⟨[],by rw[e];rfl⟩
  · obtain⟨l,aq⟩:=bo.GR k m (by omega) (by omega)
    obtain⟨s,hs,_⟩:=bo.ll (i:=m) (by have:=bo.gn;omega)
    have aU:=bo.r8 m s (by omega) hs
    have:∃v,(X.f (m+1)).env=v::(X.f m).env:=by
     generalize X.f (m+1)=st at aU
     cases aU<;>exact⟨_,rfl⟩
    obtain⟨v,aC⟩:=this
    exact⟨v::l,by rw[aC,aq];rfl⟩
theorem GS{α:Type}:∀(l m:List α) (k:Nat),nth (l.length+k) (l++m)=nth k m
 |[],m,k=>by simp
 |a::l,m,k=>by
  have:(a::l).length+k=(l.length+k)+1:=by simp;omega
  rw[this];exact GS l m k
theorem fu.BM(bo:fu X){k j:Nat}(av:k<=X.N)(aG:j<k):nth (k-1-j) (X.f k).env=nth (X.N-1-j) (X.f X.N).env:=by
 obtain⟨l,aq⟩:=bo.GR k X.N av (Nat.le_refl _)
 have aa:=bo.yV k av
 have ad:=bo.yV X.N (Nat.le_refl _)
 rw[aq] at ad⊢
 simp only[List.length_append,aa] at ad
 have:X.N-1-j=l.length+(k-1-j):=by omega
 rw[this,GS]
theorem fu.yW(bo:fu X){k:Nat}(av:k<X.N){v:I}(h:(X.f (k+1)).env=v::(X.f k).env):X.val k=v:=by
 have aa:=bo.BM (k:=k+1) (j:=k) av (Nat.lt_succ_self k)
 unfold gY.val
 rw[<-aa,h]
 simp[nth]
theorem fu.GU(bo:fu X){k:Nat}(av:k<=X.N){a:Acc}(ba:a.below k):dF k (X.f k).env X.r a=dF X.N (X.f X.N).env X.r a:=by
 cases a with
 |env j=>simp only[dF];rw[bo.BM av ba]
 |reg p=>rfl
 |val v=>rfl
theorem wj(l:List Oper)(t:Nat):∀k,k<=l.length->
  (∀a,hO t (hX (l.take k) 0 [])=some a->∃j o,j<k/\a=.env j/\l[j]? =some o/\o.dst=some t/\∀iP o',j<iP->iP<k->l[iP]? =some o'->o'.dst≠some t)/\
  (hO t (hX (l.take k) 0 [])=none->∀j o,j<k->l[j]? =some o->o.dst≠some t)
 |0,_=>⟨λa h=>by simp[hX,hO] at h,λ_ j o aG=>by omega⟩
 |k+1,av=>by
  obtain⟨yX,yY⟩:=wj l t k (by omega)
  have a7:l[k]? =some l[k]:=List.getElem?_eq_getElem (by omega)
  rw[GN l 0 [] k l[k] a7,Nat.zero_add]
  unfold k3
  cases aA:(l[k]).dst with
  |none=>
   refine⟨λa h=>?_,λh j o aG lQ=>?_⟩
   · obtain⟨j,o,aa,ad,aw,aQ,bS⟩:=yX a h
     refine⟨j,o,by omega,ad,aw,aQ,λiP o' aV aY cw=>?_⟩
     by_cases e:iP=k
     · subst e;rw[a7] at cw;cases cw;rw[aA];simp
     · exact bS iP o' aV (by omega) cw
   · by_cases e:j=k
     · subst e;rw[a7] at lQ;cases lQ;rw[aA];simp
     · exact yY h j o (by omega) lQ
  |some d=>
   simp only[nt]
   by_cases e:t=d
   · subst e
     refine⟨λa h=>?_,λh=>by simp at h⟩
     simp at h;subst h
     exact⟨k,_,by omega,rfl,a7,aA,λiP o' aV aY=>by omega⟩
   · simp only[e,if_false]
     refine⟨λa h=>?_,λh j o aG lQ=>?_⟩
     · obtain⟨j,o,aa,ad,aw,aQ,bS⟩:=yX a h
       refine⟨j,o,by omega,ad,aw,aQ,λiP o' aV aY cw=>?_⟩
       by_cases ay:iP=k
       · subst ay;rw[a7] at cw;cases cw;rw[aA];simp;exactλcR=>e cR.symm
       · exact bS iP o' aV (by omega) cw
     · by_cases ay:j=k
       · subst ay;rw[a7] at lQ;cases lQ;rw[aA];simp;exactλcR=>e cR.symm
       · exact yY h j o (by omega) lQ
def gY.r9(X:gY)(S:List Nat)(μ:bg)(b9:Array Value):Prop:=∀t,
 (∀j o,j∈S->X.ops[j]? =some o->o.dst=some t->(∀k o',k∈S->X.ops[k]? =some o'->o'.dst=some t->k<=j)->a9 μ (X.val j) (b9.getD t undef))/\
 ((∀j o,j∈S->X.ops[j]? =some o->o.dst≠some t)->Nat.testBit X.need t=true->a9 μ (X.r.get (gw t)) (b9.getD t undef))
theorem gY.r9.mono{S:List Nat}{μ aM:bg}{b9:Array Value}(hle:eF μ aM)(h:X.r9 S μ b9):X.r9 S aM b9:=λt=>⟨λj o aa ad aw aQ=>((h t).1 j o aa ad aw aQ).mono hle,λaa ad=>((h t).2 aa ad).mono hle⟩
theorem fu.GV(bo:fu X){S:List Nat}(ft:yT X.ops S){μ:bg}{b9:Array Value}(ai:X.r9 S μ b9){i:Nat}(ae:i<=X.N)(dK:i∉S)(cZ:kf X.ops S i){s:DStep}(hs:X.steps[i]? =some s){t:Nat}(aU:t∈k5 X.ops s.o):
  a9 μ (dF i (X.f i).env X.r (cL X.P X.need s.loc (.tmp t))) (b9.getD t undef):=by
 obtain⟨cY,hc,eU,l0,ln⟩:=bo.kI hs
 obtain⟨f1,f2⟩:=wj X.ops.toList t i (by simp;omega)
 have GW:∀k o',k∈S->X.ops[k]? =some o'->o'.dst=some t->k<i:=λk o' av hB aA=>by
  have om:k<X.ops.size:=(Array.getElem?_eq_some_iff.1 hB).1
  rcases Nat.lt_trichotomy k i with h|h|h
  · exact h
  · subst h;exact absurd av dK
  · obtain⟨bC,aV,aY,cw,jQ,jR⟩:=bo.ll om
    rw[hB] at cw;cases cw
    have:=bo.apart h hs aV (.inr ⟨t,aA,aU⟩)
    exact absurd (jR S ft (ft k av) i this) dK
 simp only[cL,l0]
 cases hf:hO t (hX (X.ops.toList.take i) 0 []) with
 |some a=>
  obtain⟨j,o,aG,rfl,lQ,aA,p_⟩:=f1 a hf
  have GX:X.ops[j]? =some o:=by simpa using lQ
  obtain⟨bC,aV,aY,cw,jQ,jR⟩:=bo.ll (i:=j) (by omega)
  rw[GX] at cw;cases cw
  have BN:j∈S:=ln S ft cZ j (bo.apart aG aV hs (.inl ⟨t,aA,aU⟩))
  have:=(ai t).1 j _ BN GX aA λk o' av hB lW=>by
   have OG:=GW k o' av hB lW
   rcases Nat.lt_or_ge j k with h|h
   · exact absurd lW (p_ k o' h OG (by simpa using hB))
   · exact h
  have aC:dF i (X.f i).env X.r (.env j)=X.val j:=by
   simp only[dF,gY.val]
   rw[bo.BM ae aG]
  simp only[aC];exact this
 |none=>
  simp only[]
  cases af:Nat.testBit X.need t with
  |false=>trivial
  |true=>
   exact(ai t).2 (λj o aG a7 aA=>f2 hf j o (GW j o aG a7 aA) (by simpa using a7) aA) af
theorem fu.GY(bo:fu X){S:List Nat}(ft:yT X.ops S){μ:bg}{a:Act}(bH:a.tmps.size=X.cd)(ai:X.r9 S μ a.tmps){i:Nat}(dK:i∉S)(cZ:kf X.ops S i){s:DStep}(hs:X.steps[i]? =some s){u:Value}(hu:a9 μ (X.val i) u):
  X.r9 (i::S) μ (a.put s.o.dst u).tmps:=by
 obtain⟨cY,hc,eU,l0,ln⟩:=bo.kI hs
 have cu:∀t,s.o.dst=some t->t<a.tmps.size:=λt h=>by
  rw[bH];exact bo.oh s.o (by rw[<-Array.getElem?_toList] at eU;exact List.mem_of_getElem? eU) t h
 intro t
 by_cases aA:s.o.dst=some t
 · have fi:(a.put s.o.dst u).tmps.getD t undef=u:=by
     rw[aA];simp only[Act.put];rw[vY (cu t aA),if_pos rfl]
   have OH:∀k o',k∈S->X.ops[k]? =some o'->o'.dst=some t->k<i:=λk o' av hB lW=>by
    have om:k<X.ops.size:=(Array.getElem?_eq_some_iff.1 hB).1
    rcases Nat.lt_trichotomy k i with h|h|h
    · exact h
    · subst h;exact absurd av dK
    · obtain⟨bC,aV,aY,cw,jQ,jR⟩:=bo.ll om
      rw[hB] at cw;cases cw
      have:=bo.apart h hs aV (.inr ⟨t,lW,by simp[k5,aA]⟩)
      exact absurd (jR S ft (ft k av) i this) dK
   refine⟨λj o aG a7 yZ vR=>?_,λr_=>absurd aA (r_ i s.o (by simp) eU)⟩
   have qE:=vR i s.o (by simp) eU aA
   rcases List.mem_cons.1 aG with rfl|aG
   · rw[fi];exact hu
   · have:=OH j o aG a7 yZ;omega
 · have fi:(a.put s.o.dst u).tmps.getD t undef=a.tmps.getD t undef:=by
     cases GZ:s.o.dst with
     |none=>rfl
     |some d=>
      simp only[Act.put]
      rw[vY (cu d GZ),if_neg (λe=>aA (by rw[GZ,e]))]
   rw[fi]
   refine⟨λj o aG a7 yZ vR=>?_,λr_ af=>(ai t).2 (λj o aG a7=>r_ j o (by simp[aG]) a7) af⟩
   rcases List.mem_cons.1 aG with rfl|aG
   · rw[eU] at a7;cases a7;exact absurd yZ aA
   · exact(ai t).1 j o aG a7 yZ λk o' av hB lW=>vR k o' (by simp[av]) hB lW
def pa(μ:bg)(w:World)(b:Nat)(cN:cp):Prop:=∃i O,μ b=some i/\w.heap[i.bb]? =some O/\(∀aM w',eF μ aM->w'.heap[i.bb]? =some O->mC aM cN i w')/\(∀c j,c≠b->μ c=some j->j.bb≠i.bb)
theorem bn.BO{μ:bg}{H:J}{w:World}(h:bn μ H w){b:Nat}{cN:cp}(af:b<H.n)(a_:μ b=none\/pa μ w b cN):bn μ (H.set b (some cN)) w:=by
 refine⟨λc o i ag ae=>?_,λc d i j ag aA ae aG e=>?_,λc i ae=>h.lt c i ae,λc ag=>?_⟩
 · rw[J.b2] at ag
   by_cases e:c=b
   · subst e
     rw[if_pos rfl] at ag;cases ag
     rcases a_ with a_|⟨mS,O,aa,ad,aw,aQ⟩
     · rw[a_] at ae;cases ae
     · rw[aa] at ae;cases ae
       exact aw μ w (eF.refl μ) ad
   · rw[if_neg e] at ag;exact h.rel c o i ag ae
 · rw[J.b2] at ag aA
   by_cases ax:c=b
   · by_cases ay:d=b
     · rw[ax,ay]
     · subst ax
       rcases a_ with a_|⟨mS,O,aa,ad,aw,aQ⟩
       · rw[a_] at ae;cases ae
       · rw[aa] at ae;cases ae
         exact absurd e.symm (aQ d j ay aG)
   · by_cases ay:d=b
     · subst ay
       rcases a_ with a_|⟨mS,O,aa,ad,aw,aQ⟩
       · rw[a_] at aG;cases aG
       · rw[aa] at aG;cases aG
         exact absurd e (aQ c i ax ae)
     · rw[if_neg ax] at ag;rw[if_neg ay] at aA
       exact h.inj c d i j ag aA ae aG e
 · rw[J.b2,if_neg (by simp at ag;omega)];exact h.bound c (by simpa using ag)
theorem b5.BO{lZ μ:bg}{H wk:J}{iS w:World}(aj:bn lZ H iS)(h:b5 lZ H iS μ wk w){b:Nat}(cN:cp)(af:H.n<=b):b5 lZ H iS μ (wk.set b (some cN)) w where
 le:=h.le
 size:=h.size
 n:=by simpa using h.n
 live:=λc ag aq=>h.live c ag (by rw[J.b2,if_neg (by omega)] at aq;exact aq)
 idle:=λc ag hm=>by rw[J.b2,if_neg (by omega)];exact h.idle c ag hm
 old:=h.old
 new:=h.new
 ro:=λc o i ag ai ae=>by
  have:=(aj.lt c i ae).1
  rw[J.b2,if_neg (by omega)];exact h.ro c o i ag ai ae
 os:=h.os
 out:=h.out
 tape:=h.tape
 drawn:=h.drawn
theorem bn.early{μ:bg}{H:J}{w:World}(h:bn μ H w){b:Nat}{cN:cp}{O:Obj}{sz:Nat}(af:b<H.n)(hm:μ b=none)(a7:∀o,H.get b=some o->o=cN)
  (OI:∀aM w',eF μ aM->w'.heap[w.heap.size]? =some O->mC aM cN ⟨w.heap.size,0,sz⟩ w'):eF μ (fH μ b ⟨w.heap.size,0,sz⟩)/\bn (fH μ b ⟨w.heap.size,0,sz⟩) H (w.alloc O):=by
 have hle:eF μ (fH μ b ⟨w.heap.size,0,sz⟩):=λc i ae=>by
  rw[gK];exact ae
  intro e;subst e;rw[hm] at ae;cases ae
 have hold:∀r,r<w.heap.size->(w.alloc O).heap[r]? =w.heap[r]? :=λr ai=>by
  simp only[World.alloc,Array.getElem?_push];rw[if_neg (by omega)]
 refine⟨hle,λc o i ag ae=>?_,λc d i j ag aA ae aG e=>?_,λc i ae=>?_,h.bound⟩
 · by_cases e:c=b
   · subst e
     rw[fI] at ae;cases ae
     rw[a7 o ag]
     exact OI _ _ hle (World.heap_alloc_new _ _)
   · rw[gK _ _ e] at ae
     exact(h.rel c o i ag ae).mono hle (hold _ (h.lt c i ae).2)
 · by_cases ax:c=b
   · by_cases ay:d=b
     · rw[ax,ay]
     · subst ax;rw[fI] at ae;cases ae
       rw[gK _ _ ay] at aG
       have:=(h.lt d j aG).2
       simp only at e;omega
   · by_cases ay:d=b
     · subst ay;rw[fI] at aG;cases aG
       rw[gK _ _ ax] at ae
       have:=(h.lt c i ae).2
       simp only at e;omega
     · rw[gK _ _ ax] at ae;rw[gK _ _ ay] at aG
       exact h.inj c d i j ag aA ae aG e
 · by_cases e:c=b
   · subst e;rw[fI] at ae;cases ae
     exact⟨af,by simp⟩
   · rw[gK _ _ e] at ae
     have:=h.lt c i ae
     simp only[World.size_alloc];omega
theorem b5.early{lZ μ:bg}{H wk:J}{iS w:World}(aj:bn lZ H iS)(h:b5 lZ H iS μ wk w){b:Nat}(af:H.n<=b)(hm:μ b=none){O:Obj}{sz:Nat}:b5 lZ H iS (fH μ b ⟨w.heap.size,0,sz⟩) wk (w.alloc O):=by
 have hold:∀r,r<w.heap.size->(w.alloc O).heap[r]? =w.heap[r]? :=λr ai=>by
  simp only[World.alloc,Array.getElem?_push];rw[if_neg (by omega)]
 exact{
  le:=λc i ae=>by
   have aa:=h.le c i ae
   rw[gK];exact aa
   intro e;subst e;rw[hm] at aa;cases aa
  size:=by have:=h.size;simp only[World.size_alloc];omega
  n:=h.n
  live:=h.live
  idle:=h.idle
  old:=λr ai aI=>(hold r (Nat.lt_of_lt_of_le ai h.size)).trans (h.old r ai aI)
  new:=λc i aa ad=>by
   by_cases e:c=b
   · subst e;rw[fI] at ad;cases ad;exact⟨af,.inl h.size⟩
   · rw[gK _ _ e] at ad;exact h.new c i aa ad
  ro:=λc o i ag ai ae=>by
   obtain⟨aa,ad⟩:=h.ro c o i ag ai ae
   exact⟨aa,(hold _ (Nat.lt_of_lt_of_le (aj.lt c i ae).2 h.size)).trans ad⟩
  os:=h.os
  out:=h.out
  tape:=h.tape
  drawn:=h.drawn}
theorem pa.early{μ:bg}{H:J}{w:World}(h:bn μ H w){b c:Nat}{cN:cp}{O:Obj}{sz:Nat}(hm:μ b=none)(a_:pa μ w c cN):pa (fH μ b ⟨w.heap.size,0,sz⟩) (w.alloc O) c cN:=by
 obtain⟨i,BP,aa,ad,aw,aQ⟩:=a_
 have dk:c≠b:=by intro e;subst e;rw[hm] at aa;cases aa
 have cu:=(h.lt c i aa).2
 have hle:eF μ (fH μ b ⟨w.heap.size,0,sz⟩):=λc i ae=>by
  rw[gK];exact ae
  intro e;subst e;rw[hm] at ae;cases ae
 refine⟨i,BP,by rw[gK _ _ dk];exact aa,?_,λaM w' aq pb=>aw aM w' (hle.trans aq) pb,λd j aA aG=>?_⟩
 · simp only[World.alloc,Array.getElem?_push];rw[if_neg (by omega)];exact ad
 · by_cases e:d=b
   · subst e;rw[fI] at aG;cases aG;simp only;omega
   · rw[gK _ _ e] at aG;exact aQ d j aA aG
theorem pa.oo{μ aM:bg}{H aT:J}{w w':World}(aj:bn μ H w)(ba:b5 μ H w aM aT w'){c:Nat}{cN:cp}(ak:H.get c=none)(a_:pa μ w c cN):pa aM w' c cN:=by
 obtain⟨i,BP,aa,ad,aw,aQ⟩:=a_
 have cu:=(aj.lt c i aa).2
 refine⟨i,BP,ba.le _ _ aa,?_,λye cT aq pb=>aw ye cT (ba.le.trans aq) pb,λd j aA aG=>?_⟩
 · rw[ba.old i.bb cu]
   · exact ad
   · intro d j aq aG
     exact aQ d j (λe=>by subst e;exact aq ak) aG
 · cases o7:μ d with
   |some OJ=>
    have:=ba.le d OJ o7
    rw[aG] at this;cases this
    exact aQ d j aA o7
   |none=>
    obtain⟨_,aI|⟨e,o,k,he,_,av,BQ⟩⟩:=ba.new d j o7 aG
    · omega
    · rw[<-BQ]
      exact aQ e k (λcR=>by subst cR;rw[ak] at he;cases he) av
end
end aB
namespace aB
open Go
section
variable {X:gY}
def qG(X:gY)(i:Nat)(s:DStep)(v:I)(cN:cp):Prop:=
 i<X.N/\kindOf X.P s.o.op=.alloc/\eb (gi X.P X.need X.ops X.r s.i (X.f i).env s)=some true/\ju X.P s.o.op (lk X.P X.need X.r s (X.f i).env) (X.H.n+i)=some (v,cN)
structure Inv(X:gY)(S:List Nat)(c:Nat)(μ:bg)(w:World)(a:Act)(cs:List Frame):Prop where
 ag:c<=X.N
 closed:yT X.ops S
 sub:∀i∈S,i<X.N
 dS:∀i s,X.steps[i]? =some s->i<X.N->kindOf X.P s.o.op=.dS->(i∈S<->i<c)
 rel:bn μ (X.f c).h w
 oo:b5 X.lZ X.H X.iS μ (X.f c).h w
 tP:fW μ (X.f c).d a.defers
 qr:hA μ X.b.kind X.cs0 (X.f c).q cs
 dW:∀i,i<X.ops.size->i∉S->μ (X.H.n+i)=none
 lay:∀i s v cN,X.steps[i]? =some s->qG X i s v cN->i∉S->i<c->(X.f c).h.get (X.H.n+i)=some cN
 nx:∀i,c<=i->i<X.ops.size->(X.f c).h.get (X.H.n+i)=none
 sa:X.H.n+X.ops.size<=(X.f c).h.n
 fw:∀i s v cN,X.steps[i]? =some s->qG X i s v cN->i∈S->c<=i->pa μ w (X.H.n+i) cN
 lK:X.r9 S μ a.tmps
 sz:a.tmps.size=X.cd
theorem Inv.pass(bo:fu X){S:List Nat}{c:Nat}{μ:bg}{w:World}{a:Act}{cs:List Frame}(h:Inv X S c μ w a cs)(cu:c<X.N){s:DStep}(hs:X.steps[c]? =some s)(av:kindOf X.P s.o.op≠ .dS):Inv X S (c+1) μ w a cs:=by
 obtain⟨cY,hc,eU,l0,ln⟩:=bo.kI hs
 have aU:=bo.r8 c s cu hs
 have G0:∀i bC,X.steps[i]? =some bC->i<X.N->kindOf X.P bC.o.op=.dS->(i∈S<->i<c+1):=λi bC aa ad aw=>by
  rw[h.dS i bC aa ad aw]
  have:i≠c:=by intro e;subst e;rw[hs] at aa;cases aa;exact av aw
  omega
 have same:(X.f (c+1)).h=(X.f c).h->(X.f (c+1)).d=(X.f c).d->(X.f (c+1)).q=(X.f c).q->(∀v cN,¬qG X c s v cN)->Inv X S (c+1) μ w a cs:=λax ay bF OK=>by
  refine⟨cu,h.closed,h.sub,G0,by rw[ax];exact h.rel,by rw[ax];exact h.oo,by rw[ay];exact h.tP,by rw[bF];exact h.qr,h.dW,λi bC v cN aa ad aw aQ=>?_,λi aa ad=>(by rw[ax];exact h.nx i (by omega) ad),by rw[ax];exact h.sa,λi bC v cN aa ad aw aQ=>h.fw i bC v cN aa ad aw (by omega),h.lK,h.sz⟩
  by_cases e:i=c
  · subst e;rw[hs] at aa;cases aa;exact absurd ad (OK v cN)
  · rw[ax];exact h.lay i bC v cN aa ad aw (by omega)
 generalize hf:X.f (c+1)=st at aU
 cases aU with
 |tO e8 hw=>
  refine same (by rw[hf]) (by rw[hf]) (by rw[hf]) λv cN iA=>?_
  have:=iA.2.2.1
  rw[hw] at this;cases this
 |pure e8 he=>
  refine same (by rw[hf]) (by rw[hf]) (by rw[hf]) λv cN iA=>?_
  have:=iA.2.1
  rw[e8] at this;cases this
 |dS e8 a7 he=>exact absurd e8 av
 |alloc e8 hw ba=>
  rename_i v cN
  have ax:(X.f (c+1)).h=(X.f c).h.set (X.H.n+c) (some cN):=by rw[hf,hc]
  have ay:(X.f (c+1)).d=(X.f c).d:=by rw[hf]
  have bF:(X.f (c+1)).q=(X.f c).q:=by rw[hf]
  have iA:qG X c s v cN:=⟨cu,e8,hw,by rw[<-hc];rw[<-hc] at ba;exact ba⟩
  have af:X.H.n+c<(X.f c).h.n:=by have:=h.sa;omega
  have a_:μ (X.H.n+c)=none\/pa μ w (X.H.n+c) cN:=by
   by_cases G1:c∈S
   · exact .inr (h.fw c s v cN hs iA G1 (Nat.le_refl _))
   · exact .inl (h.dW c cY G1)
  refine⟨cu,h.closed,h.sub,G0,by rw[ax];exact h.rel.BO af a_,by rw[ax];exact h.oo.BO bo.yU cN (by omega),by rw[ay];exact h.tP,by rw[bF];exact h.qr,h.dW,λi bC v' BR aa ad aw aQ=>?_,λi aa ad=>?_,by rw[ax];simpa using h.sa,λi bC v cN aa ad aw aQ=>h.fw i bC v cN aa ad aw (by omega),h.lK,h.sz⟩
  · rw[ax,J.b2]
    by_cases e:i=c
    · subst e
      rw[hs] at aa;cases aa
      have:=ad.2.2.2.symm.trans iA.2.2.2
      cases this
      rw[if_pos rfl]
    · rw[if_neg (by omega)];exact h.lay i bC v' BR aa ad aw (by omega)
  · rw[ax,J.b2,if_neg (by omega)]
    exact h.nx i (by omega) ad
def Norm(X:gY)(c:Nat):Prop:=c=X.N\/∃s,X.steps[c]? =some s/\kindOf X.P s.o.op=.dS
theorem Inv.norm(bo:fu X){S:List Nat}{μ:bg}{w:World}{a:Act}{cs:List Frame}:∀(k c:Nat),X.N-c=k->Inv X S c μ w a cs->∃c',Norm X c'/\Inv X S c' μ w a cs
 |0,c,av,h=>⟨c,.inl (by have:=h.ag;omega),h⟩
 |k+1,c,av,h=>by
  obtain⟨s,hs,_⟩:=bo.ll (i:=c) (by have:=bo.gn;omega)
  by_cases he:kindOf X.P s.o.op=.dS
  · exact⟨c,.inr ⟨s,hs,he⟩,h⟩
  · exact Inv.norm bo k (c+1) (by omega) (h.pass bo (by omega) hs he)
def qH(ops:Array Oper)(o:Oper)(g:Operand->I):Operand->I
 |.tmp t=>if(k5 ops o).contains t then g (.tmp t) else .bad
 |x=>g x
theorem y0{ops:Array Oper}{o:Oper}{g:Operand->I}:∀x∈o.op.operands,g x=qH ops o g x:=by
 intro x ab
 cases x with
 |tmp t=>
  have:(k5 ops o).contains t=true:=by
   have aa:t∈o.op.operands.toList.filterMap λ|.tmp t=>some t|_=>none:=List.mem_filterMap.2 ⟨.tmp t,by simpa using ab,rfl⟩
   simp only[k5,List.contains_iff_mem,List.mem_append]
   exact .inl (.inr aa)
  simp only[qH,this,if_true]
 |_=>rfl
theorem G2(bo:fu X){S:List Nat}{c:Nat}{μ:bg}{w:World}{a:Act}{cs:List Frame}(h:Inv X S c μ w a cs){i:Nat}(ae:i<=X.N)(dK:i∉S)(cZ:kf X.ops S i){s:DStep}(hs:X.steps[i]? =some s):
  ∀x,a9 μ (qH X.ops s.o (lk X.P X.need X.r s (X.f i).env) x) (a.eval x):=by
 obtain⟨cY,hc,eU,l0,ln⟩:=bo.kI hs
 intro x
 cases x with
 |tmp t=>
  simp only[qH]
  split
  · rename_i aU
    have:=bo.GV h.closed h.lK ae dK cZ hs (t:=t) (by simpa using aU)
    unfold lk;rw[hc];exact this
  · trivial
 |const v=>exact jw μ v
 |global g=>
  simp only[qH,lk,cL,Act.eval]
  cases af:Nat.blt g X.P.globals.size with
  |false=>exact trivial
  |true=>
   obtain⟨i,aa,ad,aw⟩:=bo.oc.mono h.oo.le g (by simpa using af)
   obtain⟨iw,i0,yx⟩:=i
   simp only at ad aw
   subst ad;subst aw
   exact⟨_,aa,rfl⟩
 |func f=>exact⟨[],[],rfl,rfl,rfl⟩
theorem BS(bo:fu X){S:List Nat}{c:Nat}{μ:bg}{w:World}{a:Act}{cs:List Frame}(h:Inv X S c μ w a cs){i:Nat}(ae:i<=X.N)(dK:i∉S)(cZ:kf X.ops S i){s:DStep}(hs:X.steps[i]? =some s):
  ∀od,eb (gi X.P X.need X.ops X.r s.i (X.f i).env s)=some od->Region.wanted s.o (yielded X.ops a.tmps)=od:=by
 obtain⟨cY,hc,eU,l0,ln⟩:=bo.kI hs
 intro od hw
 unfold gi jr at hw
 unfold Region.wanted
 cases ak:s.o.guard with
 |none=>rw[ak] at hw;simp only[eb] at hw;cases hw;rfl
 |some p=>
  obtain⟨j,dT⟩:=p
  rw[ak] at hw
  simp only at hw⊢
  cases aU:(X.ops[j]?).bind (·.dst) with
  |none=>rw[aU] at hw;simp only[dF,eb] at hw;cases hw
  |some t=>
   rw[aU] at hw
   simp only at hw
   have ai:=bo.GV h.closed h.lK ae dK cZ hs (t:=t) (by
    simp only[k5,List.mem_append]
    refine .inr ?_
    rw[ak];simp only[aU];simp)
   rw[Gi aU]
   rw[hc] at hw
   generalize dF i (X.f i).env X.r (cL X.P X.need s.loc (.tmp t))=v at hw ai
   unfold eb at hw
   split at hw
   · rename_i he;cases he
   · rename_i he;cases he;cases hw
     have Bt:a.tmps.getD t undef=_:=ai
     rw[Bt];rfl
   · rename_i he;cases he;cases hw
     obtain⟨l,aq,qx⟩:=ai
     cases qx
     rw[aq];rfl
   · cases hw
theorem sb{P:Program}{inR:Bool}{call:aF->List I->J->ao}{gd:Option (I×Bool)}{o:Oper}{g gD:Operand->I}{d:List bP}{q:bE}{H:J}(h:∀x∈o.op.operands,g x=gD x):dG P inR call gd o g d q H=dG P inR call gd o gD d q H:=by
 unfold dG;rw[we o H h]
theorem Inv.one(bo:fu X){S:List Nat}{c:Nat}{μ:bg}{w:World}{a:Act}{cs:List Frame}(h:Inv X S c μ w a cs){i:Nat}(ae:i<=X.N)(dK:i∉S)(cZ:kf X.ops S i){s:DStep}(hs:X.steps[i]? =some s)(rest:List Nat)(k:List Item):
  Bn X.P μ (X.f c).h w X.b a X.ops s.o i rest k X.cs0 cs (dG X.P X.inR X.call (gi X.P X.need X.ops X.r s.i (X.f i).env s) s.o (lk X.P X.need X.r s (X.f i).env) (X.f c).d (X.f c).q (X.f c).h):=by
 obtain⟨cY,hc,eU,l0,ln⟩:=bo.kI hs
 rw[sb (y0 (ops:=X.ops))]
 exact Ge bo.ag h.rel (bo.oc.mono h.oo.le) eU (BS bo h ae dK cZ hs) (G2 bo h ae dK cZ hs) h.tP h.qr bo.cY
theorem Inv.y1(bo:fu X){S:List Nat}{c c':Nat}{μ aM:bg}{w w':World}{a:Act}{cs bX:List Frame}(h:Inv X S c μ w a cs){i:Nat}(ae:i<X.N)(dK:i∉S)(cZ:kf X.ops S i){s:DStep}(hs:X.steps[i]? =some s)(av:∀v cN,¬qG X i s v cN)
  {u:Value}{aW:List Deferred}(aC:a9 aM (X.val i) u)(kD:bn aM (X.f c').h w')(nv:b5 μ (X.f c).h w aM (X.f c').h w')(aA:fW aM (X.f c').d aW)(bp:hA aM X.b.kind X.cs0 (X.f c').q bX)
  (tQ:(c'=c/\kindOf X.P s.o.op≠ .dS)\/(c'=c+1/\i=c)):Inv X (i::S) c' aM w' {tmps:=(a.put s.o.dst u).tmps,defers:=aW} bX:=by
 obtain⟨cY,hc,eU,l0,ln⟩:=bo.kI hs
 have hle:=nv.le
 have wm:c<=c':=by rcases tQ with⟨e,_⟩|⟨e,_⟩<;>omega
 have tR:=h.sa
 refine⟨?_,λj aG=>?_,λj aG=>?_,λj bC aa ad aw=>?_,kD,b5.trans bo.yU h.rel h.oo nv,aA,bp,λj aa ad=>?_,λj bC v cN aa ad aw aQ=>?_,λj aa ad=>?_,?_,λj bC v cN aa ad aw aQ=>?_,?_,?_⟩
 · rcases tQ with⟨e,_⟩|⟨e,ay⟩
   · rw[e];exact h.ag
   · omega
 · have hm:kf X.ops S j->kf X.ops (i::S) j:=λaj o a7 e he af=>List.mem_cons_of_mem _ (aj o a7 e he af)
   rcases List.mem_cons.1 aG with rfl|aG
   · exact hm cZ
   · exact hm (h.closed j aG)
 · rcases List.mem_cons.1 aG with rfl|aG
   · exact ae
   · exact h.sub j aG
 · have:=h.dS j bC aa ad aw
   rw[List.mem_cons,this]
   rcases tQ with⟨e,ay⟩|⟨e,ay⟩
   · subst e
     have:j≠i:=by intro e;subst e;rw[hs] at aa;cases aa;exact ay aw
     simp[this]
   · omega
 · have y2:j∉S:=λaj=>ad (List.mem_cons_of_mem _ aj)
   cases hm:aM (X.H.n+j) with
   |none=>rfl
   |some dW=>
    have:=(nv.new _ dW (h.dW j aa y2) hm).1
    omega
 · have y2:j∉S:=λaj=>aw (List.mem_cons_of_mem _ aj)
   have jP:j≠i:=λe=>aw (by simp[e])
   have Yk:=ad.1
   have Fp:j<c:=by rcases tQ with⟨e,_⟩|⟨e,ay⟩<;>omega
   rw[nv.idle _ (by have:=bo.gn;omega) (h.dW j (by have:=bo.gn;omega) y2)]
   exact h.lay j bC v cN aa ad y2 Fp
 · have h0:=h.nx j (by omega) ad
   cases ak:(X.f c').h.get (X.H.n+j) with
   |none=>rfl
   |some o=>exact absurd h0 (nv.live _ (by omega) (by rw[ak];simp))
 · exact Nat.le_trans tR nv.n
 · have jP:j≠i:=by
     intro e;subst e;rw[hs] at aa;cases aa;exact av v cN ad
   have BN:j∈S:=by
    rcases List.mem_cons.1 aw with e|aj
    · exact absurd e jP
    · exact aj
   have Yl:=ad.1
   exact(h.fw j bC v cN aa ad BN (by omega)).oo h.rel nv (h.nx j (by omega) (by have:=bo.gn;omega))
 · exact bo.GY (a:=a) h.closed h.sz (h.lK.mono hle) dK cZ hs aC
 · simpa using(yG a s.o.dst u).trans h.sz
theorem wo{s:DStep}{v:I}(bo:fu X):∀(m:Nat),m<=X.N->∀(dI:Option Nat) (tS:J),kd X.P X.need X.ops X.r X.N (X.f X.N).env s v dI tS (X.f m).a1=true->
  ∀c bC,c<m->X.steps[c]? =some bC->kindOf X.P bC.o.op=.dS->∃a1,a1=(X.f c).a1/\kd X.P X.need X.ops X.r X.N (X.f X.N).env s v (some c) (X.f c).h a1=true
 |0,_,dI,tS,h,c,bC,ag,_,_=>by omega
 |m+1,hm,dI,tS,h,c,bC,ag,dD,av=>by
  obtain⟨f_,aV,aY,_⟩:=bo.ll (i:=m) (by have:=bo.gn;omega)
  have aU:=bo.r8 m f_ (by omega) aV
  by_cases e:c=m
  · subst e
    rw[aV] at dD;cases dD
    generalize hf:X.f (c+1)=st at aU h
    cases aU with
    |tO e8=>rw[av] at e8;cases e8
    |alloc e8=>rw[av] at e8;cases e8
    |pure e8=>rw[av] at e8;cases e8
    |dS e8 a7 he=>
     unfold kd at h
     rw[Bool.and_eq_true] at h
     have ad:=h.2
     simp only[aY] at ad
     exact⟨_,rfl,ad⟩
  · have cu:c<m:=by omega
    generalize hf:X.f (m+1)=st at aU h
    cases aU with
    |tO e8=>exact wo bo m (by omega) dI tS h c bC cu dD av
    |alloc e8=>exact wo bo m (by omega) dI tS h c bC cu dD av
    |pure e8=>exact wo bo m (by omega) dI tS h c bC cu dD av
    |dS e8 a7 he=>
     unfold kd at h
     rw[Bool.and_eq_true] at h
     have ad:=h.2
     simp only at ad
     exact wo bo m (by omega) _ _ ad c bC cu dD av
theorem BT(bo:fu X):∀(m:Nat),m<=X.N->∀e mk h0 l,(X.f m).a1=(e,mk,h0)::l->e<m/\∃bC,X.steps[e]? =some bC/\kindOf X.P bC.o.op=.dS/\mk=bC.eE
 |0,_,e,mk,h0,l,h=>by rw[bo.qF] at h;cases h
 |m+1,hm,e,mk,h0,l,h=>by
  obtain⟨f_,aV,aY,_⟩:=bo.ll (i:=m) (by have:=bo.gn;omega)
  have aU:=bo.r8 m f_ (by omega) aV
  generalize hf:X.f (m+1)=st at aU h
  cases aU with
  |dS e8 a7 he=>
   simp only[List.cons.injEq,Prod.mk.injEq] at h
   obtain⟨⟨rfl,rfl,rfl⟩,rfl⟩:=h
   exact⟨by omega,f_,by rw[aY];exact aV,e8,rfl⟩
  |_=>obtain⟨aa,ad⟩:=BT bo m (by omega) e mk h0 l h;exact⟨by omega,ad⟩
theorem Inv.looks(bo:fu X){S:List Nat}{c:Nat}{μ:bg}{w:World}{a:Act}{cs:List Frame}(h:Inv X S c μ w a cs)(aI:Norm X c){i:Nat}(ae:i<X.N)(dK:i∉S)(cZ:kf X.ops S i){s:DStep}(hs:X.steps[i]? =some s)(av:kindOf X.P s.o.op=.pure):
  k4 X.P X.need X.ops X.r X.N (X.f X.N).env s (X.val i) (X.f c).h=true:=by
 obtain⟨cY,hc,eU,l0,ln⟩:=bo.kI hs
 obtain⟨dI,aa,ad⟩:=bo.looks i s ae hs av
 have off:∀(dI:Option Nat),(∀e,dI=some e->e=c/\c∉S)->kd X.P X.need X.ops X.r X.N (X.f X.N).env s (X.val i) dI (X.f c).h (X.f c).a1=true->k4 X.P X.need X.ops X.r X.N (X.f X.N).env s (X.val i) (X.f c).h=true:=by
  intro dI sc cf
  unfold kd at cf
  rw[Bool.and_eq_true] at cf
  have aw:=cf.1
  split at aw
  · rename_i af
    exfalso
    rw[Bool.or_eq_true] at af
    rcases af with af|af
    · cases dI with
      |none=>cases af
      |some e=>
       obtain⟨rfl,q⟩:=sc e rfl
       exact q (ln S h.closed cZ _ af)
    · cases qI:(X.f c).a1 with
      |nil=>rw[qI] at af;cases af
      |cons p l=>
       obtain⟨e,mk,h0⟩:=p
       rw[qI] at af
       obtain⟨aV,bC,aY,cw,rfl⟩:=BT bo c h.ag e mk h0 l qI
       have BU:=(h.dS e bC aY (by have:=h.ag;omega) cw).2 aV
       exact dK ((bo.kI aY).2.2.2.2 S h.closed (h.closed e BU) i (by rw[hc] at af;exact af))
  · exact aw
 have G3:∀e bC,X.steps[e]? =some bC->e=X.N->e∉S:=λe bC _ he aj=>by have:=h.sub e aj;omega
 by_cases wm:c=X.N
 · subst wm
   exact off dI (λe he=>⟨(ad e he).1,λaj=>by have:=h.sub _ aj;omega⟩) aa
 · have G4:c<X.N:=by have:=h.ag;omega
   rcases aI with e|⟨bC,aV,aY⟩
   · exact absurd e wm
   · obtain⟨a1,rfl,aQ⟩:=wo bo X.N (Nat.le_refl _) dI _ aa c bC G4 aV aY
     refine off (some c) (λe he=>⟨by cases he;rfl,λaj=>?_⟩) aQ
     have:=(h.dS c bC aV G4 aY).1 aj
     omega
end
end aB
namespace aB
open Go
section
variable {X:gY}
theorem G5(bo:fu X):∀(m:Nat),m<=X.N->
  (∀e mk h0 l,(X.f m).a1=(e,mk,h0)::l->∀j bC,e<j->j<m->X.steps[j]? =some bC->kindOf X.P bC.o.op≠ .dS)/\
  ((X.f m).a1=[]->∀j bC,j<m->X.steps[j]? =some bC->kindOf X.P bC.o.op≠ .dS)
 |0,_=>⟨λe mk h0 l h=>(by rw[bo.qF] at h;cases h),λ_ j bC aG=>(by omega)⟩
 |m+1,hm=>by
  obtain⟨yX,yY⟩:=G5 bo m (by omega)
  obtain⟨f_,aV,aY,_⟩:=bo.ll (i:=m) (by have:=bo.gn;omega)
  have aU:=bo.r8 m f_ (by omega) aV
  have same:kindOf X.P f_.o.op≠ .dS->(X.f (m+1)).a1=(X.f m).a1->_:=λav he=>(⟨λe mk h0 l h j bC aa ad aw=>by
    by_cases cR:j=m
    · subst cR;rw[aV] at aw;cases aw;exact av
    · exact yX e mk h0 l (he▸h) j bC aa (by omega) aw,λh j bC ad aw=>by
    by_cases cR:j=m
    · subst cR;rw[aV] at aw;cases aw;exact av
    · exact yY (he▸h) j bC (by omega) aw⟩:
   (∀e mk h0 l,(X.f (m+1)).a1=(e,mk,h0)::l->∀j bC,e<j->j<m+1->X.steps[j]? =some bC->kindOf X.P bC.o.op≠ .dS)/\((X.f (m+1)).a1=[]->∀j bC,j<m+1->X.steps[j]? =some bC->kindOf X.P bC.o.op≠ .dS))
  generalize hf:X.f (m+1)=st at aU same⊢
  clear hf
  cases aU with
  |tO e8=>exact same (by rw[e8];simp) rfl
  |alloc e8=>exact same (by rw[e8];simp) rfl
  |pure e8=>exact same (by rw[e8];simp) rfl
  |dS e8 a7 he=>
   refine⟨λe mk h0 l h j bC aa ad aw=>?_,λh=>by cases h⟩
   simp only[List.cons.injEq,Prod.mk.injEq] at h
   obtain⟨⟨rfl,_,_⟩,_⟩:=h
   omega
theorem Inv.G6(bo:fu X){S:List Nat}{c:Nat}{μ:bg}{w:World}{a:Act}{cs:List Frame}(h:Inv X S c μ w a cs)(aI:Norm X c){i:Nat}(ae:i<=X.N)(dK:i∉S)(cZ:kf X.ops S i){s:DStep}(hs:X.steps[i]? =some s)
  (av:kindOf X.P s.o.op=.dS)(a7:∀e m h0 l,(X.f i).a1=(e,m,h0)::l->Nat.testBit s.eE e=true):i=c:=by
 obtain⟨cY,hc,eU,l0,ln⟩:=bo.kI hs
 have F2:c<=i:=by
  rcases Nat.lt_or_ge i X.N with aa|aa
  · have:=h.dS i s hs aa av
    rcases Nat.lt_or_ge i c with ad|ad
    · exact absurd (this.2 ad) dK
    · exact ad
  · have:=h.ag;omega
 rcases Nat.lt_or_ge c i with cu|tT
 · exfalso
   rcases aI with e|⟨bC,aV,aY⟩
   · omega
   · obtain⟨r1,r2⟩:=G5 bo i ae
     cases qI:(X.f i).a1 with
     |nil=>exact r2 qI c bC cu aV aY
     |cons p l=>
      obtain⟨e,mk,h0⟩:=p
      obtain⟨eO,s2,fY,k8,_⟩:=BT bo i ae e mk h0 l qI
      have BU:=ln S h.closed cZ e (a7 e mk h0 l qI)
      have OL:=(h.dS e s2 fY (by omega) k8).1 BU
      exact r1 e mk h0 l qI c bC OL cu aV aY
 · omega
theorem Inv.OM(bo:fu X){S:List Nat}{c:Nat}{μ:bg}{w:World}{a:Act}{cs:List Frame}(h:Inv X S c μ w a cs){i:Nat}(ae:i<X.N)(dK:i∉S)(cZ:kf X.ops S i){s:DStep}(hs:X.steps[i]? =some s){v:I}{cN:cp}(iA:qG X i s v cN)(aC:X.val i=v)(rest:List Nat)(k:List Item):
  ∃aM w' db,Steps X.P (lone (X.b.atR a (.inRegion X.ops (i::rest)::k)) cs w) (lone (X.b.atR db (.inRegion X.ops rest::k)) cs w')/\Inv X (i::S) c aM w' db cs:=by
 obtain⟨cY,hc,eU,l0,ln⟩:=bo.kI hs
 obtain⟨_,av,hw,ba⟩:=iA
 have Bq:=BS bo h (Nat.le_of_lt ae) dK cZ hs _ hw
 rw[wg _ _ (y0 (ops:=X.ops))] at ba
 obtain⟨u,O,sz,aq⟩:=NG (P:=X.P) (w:=w) s.o (G2 bo h (Nat.le_of_lt ae) dK cZ hs) ba
 have cf:=stepGR_op (P:=X.P) (b:=X.b) (a:=a) (k:=k) (cs:=cs) (w:=w) (rest:=rest) eU Bq
 have vV:s.o.semAt X.b.roundOf a.eval=execOp a.eval s.o:=Oper.semAt_eq _ _ _ λYm e=>by rw[e] at av;cases av
 rw[vV] at cf
 obtain⟨al,_⟩:=Bm cf
 have hd:=al _ _ aq.run
 have ns:(X.b.atR a (.inRegion X.ops (i::rest)::k)).finish u=X.b.atR (a.put s.o.dst u) (.inRegion X.ops rest::k):=by
  rw[Frame.finish_atR,eU];rfl
 rw[ns] at hd
 have h2:=h.dW i cY dK
 have tR:=h.sa
 have gN:∀o,(X.f c).h.get (X.H.n+i)=some o->o=cN:=λo ak=>by
  rcases Nat.lt_or_ge i c with cu|tT
  · have:=h.lay i s v cN hs ⟨ae,av,hw,by rw[wg _ _ (y0 (ops:=X.ops))];exact ba⟩ dK cu
    rw[ak] at this;cases this;rfl
  · rw[h.nx i tT cY] at ak;cases ak
 obtain⟨hle,kD⟩:=h.rel.early (b:=X.H.n+i) (by omega) h2 gN aq.obj
 have nv:=h.oo.early bo.yU (b:=X.H.n+i) (by omega) h2 (O:=O) (sz:=sz)
 have ON:a9 (fH μ (X.H.n+i) ⟨w.heap.size,0,sz⟩) (X.val i) u:=by rw[aC];exact aq.val _ hle (fI _ _ _)
 refine⟨fH μ (X.H.n+i) ⟨w.heap.size,0,sz⟩,_,_,hd,?_⟩
 have hm:∀{j},kf X.ops S j->kf X.ops (i::S) j:=λaj o a7 e he af=>List.mem_cons_of_mem _ (aj o a7 e he af)
 refine⟨h.ag,λj aG=>?_,λj aG=>?_,λj bC aa ad aw=>?_,kD,nv,?_,h.qr.mono hle,λj aa ad=>?_,λj bC v cN aa ad aw aQ=>h.lay j bC v cN aa ad (λaj=>aw (List.mem_cons_of_mem _ aj)) aQ,h.nx,h.sa,λj bC v' BR aa ad aw aQ=>?_,bo.GY h.closed h.sz (h.lK.mono hle) dK cZ hs ON,(yG _ _ _).trans h.sz⟩
 · rcases List.mem_cons.1 aG with rfl|aG
   · exact hm cZ
   · exact hm (h.closed j aG)
 · rcases List.mem_cons.1 aG with rfl|aG
   · exact ae
   · exact h.sub j aG
 · have jP:j≠i:=by intro e;subst e;rw[hs] at aa;cases aa;rw[av] at aw;cases aw
   rw[List.mem_cons]
   simp only[jP,false_or]
   exact h.dS j bC aa ad aw
 · rw[put_defers];exact h.tP.mono hle
 · have jP:j≠i:=λe=>ad (by simp[e])
   rw[gK _ _ (by omega)]
   exact h.dW j aa (λaj=>ad (List.mem_cons_of_mem _ aj))
 · rcases List.mem_cons.1 aw with e|aw
   · subst e
     rw[hs] at aa;cases aa
     have:=ad.2.2.2
     rw[wg _ _ (y0 (ops:=X.ops)),ba] at this
     cases this
     refine⟨⟨w.heap.size,0,sz⟩,O,fI _ _ _,World.heap_alloc_new _ _,λaM w' yl pb=>aq.obj aM w' (hle.trans yl) pb,λd iP aA aG=>?_⟩
     rw[gK _ _ aA] at aG
     have:=(h.rel.lt d iP aG).2
     simp only;omega
   · exact(h.fw j bC v' BR aa ad aw aQ).early h.rel h2
theorem BV(bo:fu X){i:Nat}(ae:i<=X.N):Bs i (hX (X.ops.toList.take i) 0 []):=λt a ba=>by
 obtain⟨j,o,aa,rfl,_⟩:=(wj X.ops.toList t i (by have:=bo.gn;simp;omega)).1 a ba
 exact aa
theorem Inv.step(bo:fu X){S:List Nat}{c:Nat}{μ:bg}{w:World}{a:Act}{cs:List Frame}(h:Inv X S c μ w a cs){i:Nat}(ae:i<X.N)(dK:i∉S)(cZ:kf X.ops S i)(rest:List Nat)(k:List Item):
  ∃c' aM w' db bX,Steps X.P (lone (X.b.atR a (.inRegion X.ops (i::rest)::k)) cs w) (lone (X.b.atR db (.inRegion X.ops rest::k)) bX w')/\Inv X (i::S) c' aM w' db bX:=by
 obtain⟨c,aI,h⟩:=h.norm bo _ _ rfl
 obtain⟨s,hs,hc,eU,_⟩:=bo.ll (i:=i) (by have:=bo.gn;omega)
 have aU:=bo.r8 i s ae hs
 have hle:=Nat.le_of_lt ae
 generalize hf:X.f (i+1)=st at aU
 cases aU with
 |tO av hw=>
  have aC:=bo.yW ae (v:=.aP []) (by rw[hf])
  have Bp:=BS bo h hle dK cZ hs _ hw
  have vz:=stepR_op_skip (P:=X.P) (b:=X.b) (a:=a) (k:=k) (cs:=cs) (w:=w) (ops:=X.ops) (i:=i) (rest:=rest) (by simp[eU,Bp])
  rw[eU] at vz
  have he:a.put ((some s.o).bind (·.dst)) undef={tmps:=(a.put s.o.dst undef).tmps,defers:=a.defers}:=yC a s.o.dst undef
  rw[he] at vz
  refine⟨c,μ,w,_,cs,.one vz,h.y1 bo ae dK cZ hs (λv cN iA=>?_) (by rw[aC];exact⟨[],rfl,rfl⟩) h.rel (b5.refl _ _ _) h.tP h.qr (.inl ⟨rfl,by rw[av];simp⟩)⟩
  have:=iA.2.2.1
  rw[hw] at this;cases this
 |alloc av hw ba=>
  rename_i v cN
  have aC:=bo.yW ae (v:=v) (by rw[hf])
  obtain⟨aM,w',db,aa,ad⟩:=h.OM bo ae dK cZ hs ⟨ae,av,hw,by rw[<-hc];rw[<-hc] at ba;exact ba⟩ aC rest k
  exact⟨c,aM,w',db,cs,aa,ad⟩
 |pure av he=>
  rename_i v bx bG an
  have aC:=bo.yW ae (v:=v) (by rw[hf])
  have jX:=h.looks bo aI ae dK cZ hs av
  have fT:=h.one bo hle dK cZ hs rest k
  have gC:gi X.P X.need X.ops X.r X.N (X.f X.N).env s=gi X.P X.need X.ops X.r s.i (X.f i).env s:=by
   unfold gi jr
   cases BW:s.o.guard with
   |none=>rfl
   |some p=>
    obtain⟨j,dT⟩:=p
    simp only
    cases Yn:(X.ops[j]?).bind (·.dst) with
    |none=>rfl
    |some t=>
     simp only
     rw[hc,bo.GU hle (by rw[(bo.kI hs).2.2.2.1];exact yF (BV bo hle) _)]
  have eI:∀x,dF X.N (X.f X.N).env X.r (cL X.P X.need s.loc x)=lk X.P X.need X.r s (X.f i).env x:=λx=>by
   unfold lk
   rw[hc,bo.GU hle (by rw[(bo.kI hs).2.2.2.1];exact yF (BV bo hle) _)]
  unfold k4 at jX
  rw[gC] at jX
  have qA:(λx=>dF X.N (X.f X.N).env X.r (cL X.P X.need s.loc x))=lk X.P X.need X.r s (X.f i).env:=funext eI
  rw[qA] at jX
  have y3:∀v cN,¬qG X i s v cN:=λv cN iA=>by have:=iA.2.1;rw[av] at this;cases this
  have dk:kindOf X.P s.o.op≠ .dS:=by rw[av];simp
  unfold dG at fT he
  cases y4:eb (gi X.P X.need X.ops X.r s.i (X.f i).env s) with
  |none=>rw[y4] at jX;cases jX
  |some dT=>
   rw[y4] at jX fT he
   cases dT with
   |false=>
    simp only at fT he
    cases he
    obtain⟨aM,w',u,rZ,bX,s1,s2,bq,bL,cB,dN⟩:=fT
    exact⟨c,aM,w',_,bX,s1,h.y1 bo ae dK cZ hs y3 (by rw[aC];exact s2) bq bL cB dN (.inl ⟨rfl,dk⟩)⟩
   |true=>
    simp only at jX fT
    split at jX
    · rename_i v' Yo fS
      rw[fS] at fT
      simp only at fT
      have OO:=beq_eq _ _ jX
      have OP:=Oz av fS
      rw[OP] at fT
      obtain⟨aM,w',u,rZ,bX,s1,s2,bq,bL,cB,dN⟩:=fT
      exact⟨c,aM,w',_,bX,s1,h.y1 bo ae dK cZ hs y3 (by rw[<-OO];exact s2) bq bL cB dN (.inl ⟨rfl,dk⟩)⟩
    · cases jX
 |dS av a7 he=>
  rename_i v bx bG an
  have aC:=bo.yW ae (v:=v) (by rw[hf])
  have pc:=h.G6 bo aI hle dK cZ hs av a7
  have fT:=h.one bo hle dK cZ hs rest k
  have y3:∀v cN,¬qG X i s v cN:=λv cN iA=>by have:=iA.2.1;rw[av] at this;cases this
  rw[<-pc,he] at fT
  obtain⟨aM,w',u,rZ,bX,s1,s2,bq,bL,cB,dN⟩:=fT
  have ax:(X.f (c+1)).h=an:=by rw[<-pc,hf]
  have ay:(X.f (c+1)).d=bx:=by rw[<-pc,hf]
  have bF:(X.f (c+1)).q=bG:=by rw[<-pc,hf]
  exact⟨c+1,aM,w',_,bX,s1,h.y1 bo ae dK cZ hs y3 (by rw[aC];exact s2) (by rw[ax];exact bq) (by rw[ax,<-pc];exact bL) (by rw[ay];exact cB) (by rw[bF];exact dN) (.inr ⟨rfl,pc⟩)⟩
end
end aB
namespace aB
open Go
section
variable {X:gY}
def gY.ends(X:gY)(k:List Item)(eV:Machine)(res:lL):Prop:=og X.P X.need X.cd X.lZ X.r X.H X.iS X.b k X.cs0 eV (hX X.ops.toList 0 []) res
theorem gY.BX{k:List Item}{eV cM:Machine}{res:lL}(h:Steps X.P eV cM)(an:X.ends k cM res):X.ends k eV res:=by
 unfold gY.ends at*
 cases res with
 |ok env d q aT=>obtain⟨aM,w',db,bX,s1,s2⟩:=an;exact⟨aM,w',db,bX,h.trans s1,s2⟩
 |b1 v d q aT=>obtain⟨aM,w',db,bX,u,bV,s1,s2⟩:=an;exact⟨aM,w',db,bX,u,bV,h.trans s1,s2⟩
 |fail s=>trivial
structure BY(X:gY)(res:lL):Prop where
 ok:X.N=X.ops.size->res=.ok (X.f X.N).env (X.f X.N).d (X.f X.N).q (X.f X.N).h
 b1:X.N<X.ops.size->∀s,X.steps[X.N]? =some s->∃v bx bG an,dG X.P X.inR X.call (gi X.P X.need X.ops X.r s.i (X.f X.N).env s) s.o (lk X.P X.need X.r s (X.f X.N).env) (X.f X.N).d (X.f X.N).q (X.f X.N).h=.b1 v bx bG an/\res=.b1 v bx bG an
theorem Inv.order(bo:fu X){res:lL}(fs:BY X res)(k:List Item):∀(L:List Nat) (S:List Nat) (c:Nat) (μ:bg) (w:World) (a:Act) (cs:List Frame),r4 X.ops S L->Inv X S c μ w a cs->X.ends k (lone (X.b.atR a (.inRegion X.ops L::k)) cs w) res
 |[],S,c,μ,w,a,cs,a7,h=>by
  have e7:∀i,i<X.ops.size->i∈S:=a7
  have gn:X.N=X.ops.size:=by
   have:=bo.gn
   rcases Nat.lt_or_ge X.N X.ops.size with cu|tT
   · have:=h.sub _ (e7 _ cu);omega
   · omega
  obtain⟨c,aI,h⟩:=h.norm bo _ _ rfl
  have G3:c=X.N:=by
   rcases aI with e|⟨s,aV,aY⟩
   · exact e
   · have:=h.ag
     rcases Nat.lt_or_ge c X.N with cu|tT
     · have:=(h.dS c s aV cu aY).1 (e7 c (by omega));omega
     · omega
  subst G3
  rw[fs.ok gn]
  have hlen:=bo.yV X.N (Nat.le_refl _)
  have G7:X.ops.toList.take X.N=X.ops.toList:=by rw[gn];exact List.take_of_length_le (by simp)
  have l0:=BV bo (Nat.le_refl X.N)
  rw[G7] at l0
  refine⟨μ,w,a,cs,.one stepR_region_end,⟨by rw[hlen];exact l0,λt=>?_⟩,h.sz,h.rel,h.oo,h.tP,h.qr⟩
  rw[hlen]
  obtain⟨f1,f2⟩:=wj X.ops.toList t X.N (by simp;omega)
  rw[G7] at f1 f2
  simp only[cL]
  cases hf:hO t (hX X.ops.toList 0 []) with
  |some ac=>
   obtain⟨j,o,aG,rfl,lQ,aA,p_⟩:=f1 ac hf
   have:=(h.lK t).1 j o (e7 j (by omega)) (by simpa using lQ) aA λk o' av hB lW=>by
    rcases Nat.lt_or_ge j k with cu|tT
    · exact absurd lW (p_ k o' cu (h.sub k av) (by simpa using hB))
    · exact tT
   exact this
  |none=>
   simp only[]
   cases af:Nat.testBit X.need t with
   |false=>trivial
   |true=>
    exact(h.lK t).2 (λj o aG hB aA=>f2 hf j o (h.sub j aG) (by simpa using hB) aA) af
 |i::L,S,c,μ,w,a,cs,a7,h=>by
  obtain⟨ae,dK,cZ,qa⟩:=a7
  rcases Nat.lt_trichotomy i X.N with cu|heq|sd
  · obtain⟨c',aM,w',db,bX,aa,ad⟩:=h.step bo cu dK cZ L k
    exact gY.BX aa (Inv.order bo fs k L (i::S) c' aM w' db bX qa ad)
  ·
   obtain⟨s,hs,hc,eU,_⟩:=bo.ll ae
   obtain⟨c,aI,h⟩:=h.norm bo _ _ rfl
   rw[heq] at hs
   obtain⟨bl,bB,de⟩:=bo.last s hs
   rw[<-heq] at hs bB
   have pc:=h.G6 bo aI (Nat.le_of_eq heq) dK cZ hs bl bB
   have fT:=h.one bo (Nat.le_of_eq heq) dK cZ hs L k
   obtain⟨v,bx,bG,an,ax,ay⟩:=fs.b1 (by omega) s (by rw[<-heq];exact hs)
   rw[<-heq] at ax
   rw[<-pc,ax] at fT
   rw[ay]
   obtain⟨aM,w',u,s1,s2,bq,bL,cB,dN⟩:=fT
   rw[pc] at bL
   refine⟨aM,w',a,cs,u,_,s1,trivial,s2,λt aU af=>?_,h.sz,bq,b5.trans bo.yU h.rel h.oo bL,cB,dN⟩
   obtain⟨f1,f2⟩:=wj X.ops.toList t X.ops.toList.length (Nat.le_refl _)
   rw[List.take_length] at f2
   have:=(h.lK t).2 (λj o aG hB aA=>f2 aU j o (by have:=h.sub j aG;have:=bo.gn;simp;omega) (by simpa using hB) aA) af
   exact this.mono bL.le
  · exfalso
    obtain⟨s,hs,_⟩:=bo.ll (i:=X.N) (by omega)
    obtain⟨bC,dD,_,_,_,ln⟩:=bo.ll ae
    have:=(bo.last s hs).2.2 i bC sd dD
    rw[(bo.kI hs).2.1] at this
    have:=h.sub _ (ln S h.closed cZ _ this)
    omega
end
section
variable {P:Program}
theorem G8{need:Nat}{ops:Array Oper}{r:aR}{n:Nat}{env:List I}{last:Option Nat}{h:J}{a1:List (Nat×Nat×J)}:∀{l:List DStep},kz P need ops r n env last h a1 l=true->∀s∈l,s.i<n->kindOf P s.o.op=.pure->kd P need ops r n env s ((nth (n-1-s.i) env).getD .bad) last h a1=true
 |[],_,s,hs,_,_=>by cases hs
 |x::l,aq,s,hs,ae,av=>by
  simp only[kz,Bool.and_eq_true] at aq
  rcases List.mem_cons.1 hs with rfl|hs
  · have aa:=aq.1
    have af:Nat.blt s.i n=true:=by simpa using ae
    rw[af,av] at aa
    exact aa
  · exact G8 aq.2 s hs ae av
theorem OQ(hm:P.follows .mixedOrders=true){call:aF->List I->J->ao}(ag:lh P call)(need cd:Nat):qz P need cd call:=by
 intro ops id oh hdr b inR r d q H μ w a k cs0 cs cY ai bH aj ak aA bp
 unfold rB
 simp only
 obtain⟨oj,jY⟩:∃oj:r6,oj=⟨[],d,q,⟨H.t,H.n+ops.size⟩,[]⟩:=⟨_,rfl⟩
 obtain⟨res,hR⟩:∃res,fG P need inR call ops r H.n (eN ops.toList 0 [] []) [] d q ⟨H.t,H.n+ops.size⟩ []=res:=⟨_,rfl⟩
 rw[hR]
 by_cases G9:∃tU,res=.fail tU
 · obtain⟨tU,e⟩:=G9;subst e;trivial
 have OR:∀tU,res≠ .fail tU:=λtU e=>G9 ⟨tU,e⟩
 have OS:fG P need inR call ops r H.n (eN ops.toList 0 [] []) oj.env oj.d oj.q oj.h oj.a1=res:=by rw[jY];exact hR
 obtain⟨f,N,f0,gn,G_,tQ⟩:=GQ _ _ _ OS OR
 have hlen:(eN ops.toList 0 [] []).length=ops.size:=by rw[BK];simp
 rw[hlen] at gn
 have Ha:∀m,m<=N->(f m).env.length=m:=λm=>by
  induction m with
  |zero=>intro _;rw[f0,jY];rfl
  |succ m bd=>
   intro AT
   have hs:(eN ops.toList 0 [] [])[m]? =some (eN ops.toList 0 [] [])[m]:=List.getElem?_eq_getElem (by omega)
   have aU:=G_ m _ (by omega) hs
   have OT:=bd (by omega)
   generalize f (m+1)=st at aU
   cases aU<;>simp[OT]
 let X:gY:={P:=P,need:=need,cd:=cd,inR:=inR,call:=call,ops:=ops,r:=r,b:=b,lZ:=μ,H:=H,iS:=w,cs0:=cs0,N:=N,f:=f}
 let dw:World:={w with drawn:=w.drawn+1}
 have qD:∀o i,ops[i]? =some o->nj o i=true:=λo i a7=>by
  have ae:i<ops.size:=(Array.getElem?_eq_some_iff.1 a7).1
  have hB:ops.toList[i]? =some o:=by simpa using a7
  obtain⟨s,aa,ad,aw,_⟩:=wi (ops:=ops) ops.toList 0 [] [] (λk=>by simp) (tM hdr) (λj aG=>by omega) i o hB
  have:=tM hdr s (List.mem_of_getElem? aa)
  rw[aw] at this
  have BZ:s.i=i:=by omega
  rw[BZ] at this;exact this
 have kJ:=Oy qD (w.tape w.drawn (.order b.fn id))
 have eH:Steps P (lone (b.atR a (.code (.region id ops true)::k)) cs w) (lone (b.atR a (.inRegion ops (Region.schedule true ops (w.tape w.drawn (.order b.fn id)))::k)) cs dw):=by
  have:=stepR_region_draw (P:=P) (b:=b) (a:=a) (k:=k) (cs:=cs) (w:=w) (ops:=ops) (id:=id)
  rw[hm] at this
  exact .one this
 have hinv:Inv X [] 0 μ dw a cs:=by
  refine⟨Nat.zero_le _,(λj aG=>by cases aG),(λj aG=>by cases aG),(λi s aa ad aw=>⟨λaG=>(by cases aG),λaG=>(by omega)⟩),?_,?_,?_,?_,λi ae _=>?_,(λi s v cN aa ad aw aQ=>by omega),λi ae ad=>?_,?_,(λi s v cN aa ad aw aQ=>by cases aw),?_,bH⟩
  · show bn μ (f 0).h dw
    rw[f0,jY]
    exact⟨λdT o i af ae=>(aj.rel dT o i af ae).mono (eF.refl μ) rfl,aj.inj,λdT i ae=>⟨Nat.lt_of_lt_of_le (aj.lt dT i ae).1 (Nat.le_add_right _ _),(aj.lt dT i ae).2⟩,λdT af=>aj.bound dT (Nat.le_trans (Nat.le_add_right _ _) af)⟩
  · show b5 μ H w μ (f 0).h dw
    rw[f0,jY]
    exact⟨eF.refl μ,Nat.le_refl _,Nat.le_add_right _ _,λ_ _ aq=>aq,λ_ _ _=>rfl,λ_ _ _=>rfl,(λdT i aa ad=>by rw[aa] at ad;cases ad),λ_ _ _ af _ _=>⟨af,rfl⟩,rfl,rfl,rfl,Nat.le_succ _⟩
  · show fW μ (f 0).d a.defers
    rw[f0,jY];exact aA
  · show hA μ b.kind cs0 (f 0).q cs
    rw[f0,jY];exact bp
  · show μ (H.n+i)=none
    cases e:μ (H.n+i) with
    |none=>rfl
    |some dW=>have:=(aj.lt _ dW e).1;omega
  · show(f 0).h.get (H.n+i)=none
    rw[f0,jY]
    exact aj.bound (H.n+i) (Nat.le_add_right _ _)
  · show H.n+ops.size<=(f 0).h.n
    rw[f0,jY];exact Nat.le_refl _
  · intro t
    exact⟨λj o aG=>(by cases aG),λ_ af=>ai t af⟩
 have Hb:∀(dI:Option Nat) (jX:kz P need ops r (f N).env.length (f N).env dI (f N).h (f N).a1 (eN ops.toList 0 [] [])=true) (sc:∀e,dI=some e->e=N/\N<ops.size)
   (p_:∀s,(eN ops.toList 0 [] [])[N]? =some s->kindOf P s.o.op=.dS/\(∀e m h0 l,(f N).a1=(e,m,h0)::l->Nat.testBit s.eE e=true)/\∀k bC,N<k->(eN ops.toList 0 [] [])[k]? =some bC->Nat.testBit bC.eE s.i=true),fu X:=by
  intro dI jX sc p_
  refine⟨ag,cY,oh,hdr,gn,G_,by show(f 0).env=[];rw[f0,jY],by show(f 0).a1=[];rw[f0,jY],λi s ae hs av=>?_,p_,ak,aj⟩
  have hc:s.i=i:=by
   have B0:i<ops.size:=Nat.lt_of_lt_of_le ae gn
   obtain⟨bC,aa,ad,_⟩:=wi (ops:=ops) ops.toList 0 [] [] (λk=>by simp) (tM hdr) (λj aG=>by omega) i _ (show ops.toList[i]? =some ops[i] by simp[B0])
   have jy:(eN ops.toList 0 [] [])[i]? =some s:=hs
   rw[aa] at jy;cases jy;omega
  have:=G8 jX s (List.mem_of_getElem? hs) (by rw[Ha N (Nat.le_refl _),hc];exact ae) av
  rw[Ha N (Nat.le_refl _),hc] at this
  exact⟨dI,this,sc⟩
 rcases tQ with⟨Yp,ab⟩|⟨s,hs,av,a7,OU,v,bx,bG,an,he,ab⟩
 · subst ab
   simp only
   cases jX:kz P need ops r (f N).env.length (f N).env none (f N).h (f N).a1 (eN ops.toList 0 [] []) with
   |false=>trivial
   |true=>
    simp only
    have bo:=Hb none jX (λe he=>by cases he) (λs hs=>by rw[List.getElem?_eq_none (by omega)] at hs;cases hs)
    have fs:BY X (.ok (f N).env (f N).d (f N).q (f N).h):=⟨λ_=>rfl,λcu=>by
     have AX:N<ops.size:=cu
     omega⟩
    exact gY.BX (X:=X) eH (Inv.order bo fs k _ [] 0 μ dw a cs kJ hinv)
 · subst ab
   simp only
   have hc:s.i=N:=by
    have B0:N<ops.size:=by have:=(List.getElem?_eq_some_iff.1 hs).1;omega
    obtain⟨bC,aa,ad,_⟩:=wi (ops:=ops) ops.toList 0 [] [] (λk=>by simp) (tM hdr) (λj aG=>by omega) N _ (show ops.toList[N]? =some ops[N] by simp[B0])
    rw[aa] at hs;cases hs;omega
   have OV:N<ops.size:=by have:=(List.getElem?_eq_some_iff.1 hs).1;omega
   cases jX:kz P need ops r (f N).env.length (f N).env (some s.i) (f N).h (f N).a1 (eN ops.toList 0 [] []) with
   |false=>trivial
   |true=>
    simp only
    have bo:=Hb (some s.i) jX (λe he=>by cases he;exact⟨hc,OV⟩) (λbC dD=>by rw[hs] at dD;cases dD;exact⟨av,a7,OU⟩)
    have fs:BY X (.b1 v bx bG an):=⟨λe=>by
     have cR:N=ops.size:=e
     omega,λ_ bC dD=>by
     have jy:(eN ops.toList 0 [] [])[N]? =some bC:=dD
     rw[hs] at jy;cases jy
     exact⟨v,bx,bG,an,he,rfl⟩⟩
    exact gY.BX (X:=X) eH (Inv.order bo fs k _ [] 0 μ dw a cs kJ hinv)
structure Fit(P:Program):Prop where
 mixed:P.follows .mixedOrders=true
 code:v3 P
 ext:yP P
theorem B1(hf:Fit P){intr:Nat->List I->J->Option (I×J)}(ae:lj P intr)(n:Nat):lh P (fq P intr n):=
 GK ae (λcall ag need cd=>OQ hf.mixed ag need cd) hf.code hf.ext n
end
end aB
namespace aB
open Go Go.RowKit Go.ChangeShapes Go.WideShapes
section
variable {P:Program}
def OW(P:Program):Bool:=P.funcs.toList.all λfn=>match fn.body with
 |some c=>hY fn.ntmps c&&!(fn.name== "runtime.NumGoroutine")
 |none=>true
def OX(P:Program):Bool:=P.funcs.toList.all λfn=>match fn.body with
 |some _=>true
 |none=>!qB.contains fn.name||(Extern.findNext fn).isNone
theorem Hc{g:FuncId}{fV:Func}(h:P.funcs[g]? =some fV):fV∈P.funcs.toList:=by
 rw[<-Array.getElem?_toList] at h;exact List.mem_of_getElem? h
theorem OY(hm:P.follows .mixedOrders=true)(ag:OW P=true)(he:OX P=true):Fit P where
 mixed:=hm
 code:=λg fV gc ak af=>by
  have:=List.all_eq_true.1 ag fV (Hc ak)
  rw[af] at this
  simp only[Bool.and_eq_true,Bool.not_eq_true'] at this
  exact this
 ext:=λg fV ak af aI=>by
  have:=List.all_eq_true.1 he fV (Hc ak)
  rw[af] at this
  simp only[Bool.or_eq_true,Bool.not_eq_true',List.contains_eq_mem,decide_eq_false_iff_not] at this
  rcases this with h|h
  · exact absurd aI h
  · simpa using h
def tV(H:J):Prop:=∀b o,H.get b=some o->o.mD=true
theorem b5.below{μ aM:bg}{H aT:J}{W hC:World}(ai:tV H)(aj:bn μ H W)(h:b5 μ H W aM aT hC):Below W.heap.size W hC:=by
 refine⟨h.os,h.tape,h.out,h.size,λr cu=>?_⟩
 by_cases he:∃b i,H.get b≠none/\μ b=some i/\i.bb=r
 · obtain⟨b,i,aa,ad,rfl⟩:=he
   cases ak:H.get b with
   |none=>exact absurd ak aa
   |some o=>exact(h.ro b o i ak (ai b o ak) ad).2
 · exact h.old r cu λb i aa ad aw=>he ⟨b,i,aa,ad,aw⟩
def wq(G:Nat):bg:=λb=>if b<G then some ⟨b,0,0⟩ else none
theorem OZ{W:World}(hq:P.globals.size<=W.heap.size):bn (wq P.globals.size) (iv P.globals.size) W/\ha P (wq P.globals.size)/\tV (iv P.globals.size):=by
 have aI:∀b,(iv P.globals.size).get b=none:=λb=>rfl
 refine⟨⟨λb o i h=>(by rw[aI] at h;cases h),λb c i j h=>absurd (aI b) h,λb i h=>?_,λb _=>aI b⟩,λg ak=>⟨⟨g,0,0⟩,by simp[wq,ak],rfl,rfl⟩,λb o h=>(by rw[aI] at h;cases h)⟩
 unfold wq at h
 split at h
 · rename_i af;cases h;exact⟨af,Nat.lt_of_lt_of_le af hq⟩
 · cases h
theorem O0(hf:Fit P){intr:Nat->List I->J->Option (I×J)}(ae:lj P intr){n:Nat}{f:Nat}{fn:Func}{c:Code}(mL:P.funcs[f]? =some fn)(af:fn.body=some c){args:List I}{H:J}{v:I}{aT:J}
  (eH:fq P intr n (.fn f) args H=.ret v aT){μ:bg}{W:World}{vs:List Value}(aj:bn μ H W)(ak:ha P μ)(aC:b4 μ args vs):
  Calls P f ⟨vs⟩ W λe hC=>∃aM u,e=.returned u/\a9 aM v u/\bn aM aT hC/\b5 μ H W aM aT hC:=by
 have aa:=(B1 hf ae n).fn f args H (by rw[eH];rfl) μ W vs aj ak aC
 rw[eH] at aa
 obtain⟨_,wc⟩:=hf.code f fn c mL af
 have he:=BB mL af wc ⟨vs⟩ W
 rcases aa with⟨v',w',aV,_⟩|⟨_,aY⟩
 · rw[he] at aV;cases aV
 · exact aY.mono λe hC h=>h
def y5:ao->Bool
 |.ret (.bool true) _=>true
 |_=>false
theorem O1{r:ao}(h:y5 r=true):∃H,r=.ret (.bool true) H:=by
 unfold y5 at h
 split at h
 · exact⟨_,rfl⟩
 · cases h
theorem O2(hf:Fit P){intr:Nat->List I->J->Option (I×J)}(ae:lj P intr){n:Nat}{f:Nat}{fn:Func}{c:Code}(mL:P.funcs[f]? =some fn)(af:fn.body=some c){args:List I}{H:J}
  (eH:y5 (fq P intr n (.fn f) args H)=true){μ:bg}{W:World}{vs:List Value}(aj:bn μ H W)(ai:tV H)(ak:ha P μ)(aC:b4 μ args vs):
  Calls P f ⟨vs⟩ W λe hC=>e=.returned (.bool true)/\Below W.heap.size W hC:=by
 obtain⟨aT,e⟩:=O1 eH
 exact(O0 hf ae mL af e aj ak aC).mono λe hC ⟨aM,u,aa,ad,aw,aQ⟩=>⟨by cases ad;exact aa,aQ.below ai aj⟩
def B2(P:Program):Bool:=match P.globals.size with
 |0=>true
 |g+1=>(((begin P (λ_ _=>0) default).world.heap[g]?).bind Obj.row?).isSome
theorem O3{W:World}(hs:W.ShapedOpen P)(af:B2 P=true):P.globals.size<=W.heap.size:=by
 unfold B2 at af
 cases ak:P.globals.size with
 |zero=>exact Nat.zero_le _
 |succ g=>
  rw[ak] at af
  simp only at af
  obtain⟨⟨zero,t⟩,ab⟩:=Option.isSome_iff_exists.1 af
  obtain⟨cs,aa,_⟩:=hs.1 g zero t (by omega) ab
  have:=(Array.getElem?_eq_some_iff.1 aa).1
  omega
variable {H:Type} {enc:TypeId×Value->H}
theorem Hd(aq:laidOutB P=true){W hC:World}(af:Below W.heap.size W hC){sp:Nat->Bool}:∀{bJ:List TypeId} {vs:List Value} {aW:List (DataW H)} {ps:List MemPlace},(∀t∈bJ,P.readableRec t=true/\t<P.types.size)->
  DataW.TrodAll enc P W 0 (λ_=>true) true bJ vs aW ps->(∀x∈ps,x.block<W.heap.size/\sp x.block=true)->DataW.TrodAll enc P hC 0 sp true bJ vs aW ps
 |[],[],[],_,_,h,_=>h
 |_::_,_::_,_::_,_,kK,⟨p,q,aa,ad,e⟩,hs=>
  ⟨p,q,WideElems.Trod_stays aq (kK _ (by simp)).1 (kK _ (by simp)).2 aa (λx ab=>af.same (hs x (by rw[e];simp[ab])).1) (λx ab=>(hs x (by rw[e];simp[ab])).2),
    Hd aq af (λt aU=>kK t (by simp[aU])) ad (λx ab=>hs x (by rw[e];simp[ab])),e⟩
theorem O4{f:Func}{s:ChangeSpec}{apart fresh handsOn again:Bool}{W hC:World}{args:Array Value}{aW gs:List (DataW H)}{before:List MemPlace}{He:TypeId}
  (aq:laidOutB P=true)(kK:∀t∈f.params.toList,P.readableRec t=true/\t<P.types.size)(hR:f.resultTypes=#[He])(Hf:P.underlying He=some .bool)(B3:s.vars=[])
  (hq:DataW.Whole enc P f.params.toList s.vars apart W args.toList aW gs before)(mL:s.fn H aW={results:=[.lit (.bool true)],args:=aW})(af:Below W.heap.size W hC):
  s.post enc P f apart fresh handsOn again W args (.bool true) hC:=by
 have cu:∀p∈before,p.block<W.heap.size:=λp a_=>hq.lt p a_
 have O5:=hq
 obtain⟨qJ,Bi,iB,B4,rfl,a4,aI⟩:=hq
 rw[B3] at B4
 obtain⟨rfl,rfl⟩:=trodVars_none B4
 have e:s.fn H (aW++[])={results:=[.lit (.bool true)],args:=aW}:=by rw[List.append_nil];exact mL
 have gZ:∀sp:Nat->Bool,(∀p∈qJ++[],sp p.block=true)->DataW.TrodAll enc P hC 0 sp true f.params.toList args.toList aW qJ:=λsp O6=>
  Hd aq af kK iB (λx ab=>⟨cu x (by simp[ab]),O6 x (by simp[ab])⟩)
 have fT:∀(b:Nat) (sp:Nat->Bool) (aA:Bool),DataW.TrodAll enc P hC b sp aA f.resultTypes.toList ((Value.bool true).resultList f.resultTypes.size) [.lit (.bool true)] []:=λb sp aA=>by
  rw[hR];exact trodAll_mk1 (shut_bool Hf true)
 refine⟨aW,[],qJ++[],[],qJ,[],O5,?_,?_,?_,World.keptBut_mono (λp a_=>⟨a_,?_⟩) (af.frame (· ∈qJ++[])),λ_=>?_⟩
 · rw[e];exact fT _ _ _
 · rw[e];exact gZ _ λp a_=>by simpa using cu p a_
 · rw[e,B3];rfl
 · exact Or.inr (by simpa using a_)
 · refine⟨ok_one hR rfl (okWide_bool_mk Hf true),_,_,([]++qJ)++[],⟨[]++qJ,[],trodAll_append (gZ _ (λ_ _=>rfl)) (fT _ _ _),show DataW.TrodVars enc P hC (λ_=>true) s.vars [] [] from by rw[B3];rfl,rfl,?_,?_⟩,?_⟩
   · intro b off a_
     have cY:MemPlace.cell b off∈qJ++[]:=by simpa using a_
     rw[af.frozen (cu _ cY)]
     exact a4 b off cY
   · intro ba
     simpa using aI ba
   · intro p a_ _
     simpa using a_
theorem O7{a:Assume}{C:Checked}{os:Os}{f:FuncId}{fn:Func}{s:ChangeSpec}{conds:List PathCond}{apart fresh handsOn again:Bool}{X:World->Array Value->Prop}
  (bo:∀(w w':World) (args:Array Value),w.heap=w'.heap->X w args->X w' args)
  (own:ownKnob C.prog.godebug=none)(started:os.Started)(O8:C.prog.inits.idxOf? f=none)(mL:C.prog.funcs[f]? =some fn)
  (witness:∃(w:World) (tape:Tape) (i:Input),w.os=os/\(w.forCall tape i).Shaped C.prog/\i.vars=[]/\Input.okWide C.prog (w.forCall tape i) .any w.heap.size f i/\
   ((s.pre enc C.prog fn conds apart (w.forCall tape i).memory i.args/\X (w.forCall tape i).memory i.args)/\sizedMet enc C.prog fn (OpenSpec.ofChange s) apart (w.forCall tape i).memory i.args)/\a.holds C.prog (lone (Frame.enter C.prog f i.args .normal) [] (w.forCall tape i)))
  (O9:∀(W:World) (base:Nat) (args:Array Value) (aW gs:List (DataW H)) (before:List MemPlace),
   (∀(j:Nat) t v,fn.params[j]? =some t->args[j]? =some v->Value.okWide C.prog W .any base t v)->
   DataW.Whole enc C.prog fn.params.toList s.vars apart W args.toList aW gs before->
   (DataW.weightsEach C.prog (fn.params.toList++s.plain.varTypes C.prog) (aW++gs)).all (· <=reachBytes)=true->X W args->W.ShapedOpen C.prog->
   Calls C.prog f args W λe hC=>∃v,e=.returned v/\s.post enc C.prog fn apart fresh handsOn again W args v hC):
  ReturnsInHanded a C os f .any (λw args=>(s.pre enc C.prog fn conds apart w args/\X w args)/\sizedMet enc C.prog fn (OpenSpec.ofChange s) apart w args) (s.post enc C.prog fn apart fresh handsOn again):=by
 refine returnsInHanded_of_calls own started O8 witness ?_
 intro w tape i _ ij _ di O_ Yq
 obtain⟨_,_,_,AN,Pa,_,_,_,_,mM⟩:=di
 have e:AN=fn:=Option.some.inj (Pa.symm.trans mL)
 subst e
 obtain⟨⟨⟨aW,gs,before,hw,ag⟩,ab⟩,a4⟩:=O_
 have Pb:=DataW.Whole.of_heap (w':=w.forCall tape i) (by rfl) hw
 refine(O9 (w.forCall tape i) w.heap.size i.args aW gs before mM Pb (a4.weights hw) (bo _ _ _ (by rfl) ab) ij).mono λe hC ⟨v,he,a_⟩=>?_
 subst he
 exact ChangeSpec.post_blind a_
end
end aB
namespace aB
open Go Go.RowKit
mutual
def l1:I->Bool
 |.bool _=>true
 |.int _ _=>true
 |.str _=>true
 |.bm=>true
 |.bf=>true
 |.gU=>true
 |.e4=>true
 |.ew=>true
 |.fn _ a b=>pd a&&pd b
 |.iface _ v=>l1 v
 |.agg cs=>pd cs
 |.aP vs=>pd vs
 |_=>false
def pd:List I->Bool
 |[]=>true
 |v::vs=>l1 v&&pd vs
end
mutual
theorem B5{μ aM:bg}:∀(a:I) (v:Value),l1 a=true->a9 μ a v->a9 aM a v
 |.bool _,v,_,h=>h
 |.int _ _,v,_,h=>h
 |.str _,v,_,h=>h
 |.bm,v,_,h=>h
 |.bf,v,_,h=>h
 |.gU,v,_,h=>h
 |.e4,v,_,h=>h
 |.ew,v,_,h=>h
 |.fn f a b,v,ai,h=>by
  simp only[l1,Bool.and_eq_true] at ai
  obtain⟨cc,cs,e,aa,ad⟩:=h
  exact⟨cc,cs,e,se _ _ ai.1 aa,se _ _ ai.2 ad⟩
 |.iface t x,v,ai,h=>by
  simp only[l1] at ai
  obtain⟨y,e,aa⟩:=h
  exact⟨y,e,B5 _ _ ai aa⟩
 |.agg cs,v,ai,h=>by
  simp only[l1] at ai
  obtain⟨l,e,aa⟩:=h
  exact⟨l,e,se _ _ ai aa⟩
 |.aP cs,v,ai,h=>by
  simp only[l1] at ai
  obtain⟨l,e,aa⟩:=h
  exact⟨l,e,se _ _ ai aa⟩
 |.bad,v,ai,h=>by simp[l1] at ai
 |.ptr _ _,v,ai,h=>by simp[l1] at ai
 |.slice _ _ _ _,v,ai,h=>by simp[l1] at ai
 |.map _,v,ai,h=>by simp[l1] at ai
 |.b8 _,v,ai,h=>by simp[l1] at ai
theorem se{μ aM:bg}:∀(as:List I) (vs:List Value),pd as=true->b4 μ as vs->b4 aM as vs
 |[],vs,_,h=>h
 |a::as,vs,ai,h=>by
  simp only[pd,Bool.and_eq_true] at ai
  obtain⟨v,yK,e,aa,ad⟩:=h
  exact⟨v,yK,e,B5 a v ai.1 aa,se as yK ai.2 ad⟩
end
structure pe where
 f:Nat
 args:List I
 v:I
def pf:List pe->Nat->List I->J->Option (I×J)
 |[],_,_,_=>none
 |e::T,f,args,h=>match Nat.beq f e.f with
  |true=>match I.jt args e.args with
   |true=>some (e.v,h)
   |false=>pf T f args h
  |false=>pf T f args h
theorem Hg:∀(T:List pe) (f:Nat) (args:List I) (h:J) (v:I) (an:J),pf T f args h=some (v,an)->an=h/\∃e∈T,e.f=f/\e.args=args/\e.v=v
 |[],f,args,h,v,an,ab=>by cases ab
 |e::T,f,args,h,v,an,ab=>by
  simp only[pf] at ab
  have rest:pf T f args h=some (v,an)->an=h/\∃cR∈e::T,cR.f=f/\cR.args=args/\cR.v=v:=λab=>by
   obtain⟨aa,cR,ad,aw⟩:=Hg T f args h v an ab
   exact⟨aa,cR,List.mem_cons_of_mem _ ad,aw⟩
  split at ab
  · rename_i hf
    split at ab
    · rename_i ba
      cases ab
      exact⟨rfl,e,by simp,(Nat.eq_of_beq_eq_true hf).symm,(o_ _ _ ba).symm,rfl⟩
    · exact rest ab
  · exact rest ab
section
variable {P:Program}
def B6(P:Program)(intr:Nat->List I->J->Option (I×J))(n:Nat)(e:pe):Bool:=
 match fq P intr n (.fn e.f) e.args (iv P.globals.size) with
 |.ret v _=>I.beq v e.v&&l1 e.v&&pd e.args
 |_=>false
def sf(P:Program)(e:pe):Prop:=∃(intr:Nat->List I->J->Option (I×J)) (n:Nat),lj P intr/\B6 P intr n e=true
theorem tI.mono{f:FuncId}{vs:List Value}{w:World}{R Hh:Ending->World->Prop}(h:∀e w',R e w'->Hh e w')(ak:tI P f vs w R):tI P f vs w Hh:=by
 rcases ak with⟨v,w',aa,ad⟩|⟨aa,ad⟩
 · exact .inl ⟨v,w',aa,h _ _ ad⟩
 · exact .inr ⟨aa,ad.mono λe w' he=>h e w' he⟩
theorem Hi(hf:Fit P){T:List pe}(kK:∀e∈T,sf P e):lj P (pf T):=by
 intro f args H v aT ab μ w vs aj ak aC
 obtain⟨rfl,e,he,rfl,rfl,rfl⟩:=Hg T f args H v aT ab
 obtain⟨intr,n,ae,af⟩:=kK e he
 unfold B6 at af
 split at af
 · rename_i v1 H1 eH
   simp only[Bool.and_eq_true] at af
   obtain⟨⟨hr,ek⟩,B7⟩:=af
   have B8:=beq_eq _ _ hr
   subst B8
   have B9:P.globals.size<=w.heap.size:=by
    cases bH:P.globals.size with
    |zero=>exact Nat.zero_le _
    |succ g=>
     obtain⟨i,aa,ad,aw⟩:=ak g (by omega)
     have:=(aj.lt _ i aa).2
     omega
   obtain⟨s1,s2,bq⟩:=OZ (P:=P) B9
   have gN:=(B1 hf ae n).fn e.f e.args (iv P.globals.size) (by rw[eH];rfl) (wq P.globals.size) w vs s1 s2 (se _ _ B7 aC)
   rw[eH] at gN
   refine gN.mono λlf w' o5=>?_
   obtain⟨aM,u,rfl,aV,aY,cw⟩:=o5
   have hold:∀r,r<w.heap.size->w'.heap[r]? =w.heap[r]? :=λr ai=>cw.old r ai λb i aq=>absurd rfl aq
   refine⟨μ,u,rfl,B5 _ _ ek aV,⟨λb o i af ae=>(aj.rel b o i af ae).mono (eF.refl μ) (hold _ (aj.lt b i ae).2),aj.inj,λb i ae=>⟨(aj.lt b i ae).1,Nat.lt_of_lt_of_le (aj.lt b i ae).2 cw.size⟩,aj.bound⟩,?_⟩
   exact⟨eF.refl μ,cw.size,Nat.le_refl _,λ_ _ aq=>aq,λ_ _ _=>rfl,λr ai _=>hold r ai,(λb i aa ad=>by rw[aa] at ad;cases ad),λb o i af _ ae=>⟨af,hold _ (aj.lt b i ae).2⟩,cw.os,cw.out,cw.tape,cw.drawn⟩
 · cases af
def wu(P:Program):List pe->Prop
 |[]=>True
 |e::T=>sf P e/\wu P T
theorem wu.ok:∀{T:List pe},wu P T->∀e∈T,sf P e
 |[],_,e,he=>by cases he
 |x::T,h,e,he=>by
  rcases List.mem_cons.1 he with rfl|he
  · exact h.1
  · exact wu.ok h.2 e he
theorem B_(hf:Fit P){T:List pe}(kK:wu P T){n:Nat}{e:pe}(h:B6 P (pf T) n e=true):sf P e:=⟨pf T,n,Hi hf kK.ok,h⟩
end
end aB
namespace aB
open Go
def oq(G:Nat)(is:List dY):bg:=λb=>if b<G then some ⟨b,0,0⟩ else is[b-G]?
def sg(h:J)(r:List I×Nat):J:=h.push (.cells r.1 r.2 .ro 0 0)
def qK(G:Nat)(rows:List (List I×Nat)):J:=rows.foldl sg (iv G)
theorem y6:∀(rows:List (List I×Nat)) (h:J),(∀b,h.n<=b->h.get b=none)->(rows.foldl sg h).n=h.n+rows.length/\∀b,(rows.foldl sg h).get b=if b<h.n then h.get b else(rows[b-h.n]?).map λr=>.cells r.1 r.2 .ro 0 0
 |[],h,af=>⟨rfl,λb=>by
  split
  · rfl
  · rename_i aI;simpa using af b (by omega)⟩
 |r::rows,h,af=>by
  have aI:(sg h r).n=h.n+1:=rfl
  have ak:∀b,(sg h r).get b=if b=h.n then some (.cells r.1 r.2 .ro 0 0) else h.get b:=λb=>J.eB _ _ _
  obtain⟨aV,aY⟩:=y6 rows (sg h r) λb aa=>by rw[ak,if_neg (by omega)];exact af b (by omega)
  refine⟨by rw[List.foldl_cons,aV,aI,List.length_cons];omega,λb=>?_⟩
  rw[List.foldl_cons,aY,aI,ak]
  by_cases aa:b<h.n
  · rw[if_pos (by omega),if_neg (by omega),if_pos aa]
  · rw[if_neg aa]
    by_cases ad:b=h.n
    · subst ad;rw[if_pos (by omega),if_pos rfl,Nat.sub_self];rfl
    · rw[if_neg (by omega)]
      obtain⟨k,rfl⟩:∃k,b=h.n+(k+1):=⟨b-h.n-1,by omega⟩
      have ax:h.n+(k+1)-(h.n+1)=k:=by omega
      have ay:h.n+(k+1)-h.n=k+1:=by omega
      rw[ax,ay];rfl
theorem Ca(G:Nat)(rows:List (List I×Nat)):(qK G rows).n=G+rows.length:=(y6 rows (iv G) λ_ _=>rfl).1
theorem Cb(G:Nat)(rows:List (List I×Nat))(b:Nat):(qK G rows).get b=if b<G then none else(rows[b-G]?).map λr=>.cells r.1 r.2 .ro 0 0:=(y6 rows (iv G) λ_ _=>rfl).2 b
def tW(W:World)(i:dY)(cs:List I)(el:Nat):Prop:=∃c fz,W.heap[i.bb]? =some (.cells c el fz)/\(∀μ,yd μ cs c i.base)/\i.base+i.size=c.size
theorem Pc{P:Program}{l:List (dY×List I×Nat)}{k:Nat}{x:dY×List I×Nat}(h:l[k]? =some x):oq P.globals.size (l.map (·.1)) (P.globals.size+k)=some x.1:=by
 unfold oq
 rw[if_neg (by omega),Nat.add_sub_cancel_left,List.getElem?_map,h];rfl
theorem Pd{P:Program}{l:List (dY×List I×Nat)}{k:Nat}{x:dY×List I×Nat}(h:l[k]? =some x):(qK P.globals.size (l.map (·.2))).get (P.globals.size+k)=some (.cells x.2.1 x.2.2 .ro 0 0):=by
 rw[Cb,if_neg (by omega),Nat.add_sub_cancel_left,List.getElem?_map,h];rfl
end aB
namespace aB
open Go
end aB
