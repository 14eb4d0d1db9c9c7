/-
  THE ABSTRACT EVALUATOR (drawn regions; a run of the evaluator is a run of the program): a deterministic semantics of loaded code, and the proof that its runs are runs of the program in the model, whatever the tape draws. No condition.
-/
import Derived.Test.YtjkomfonmcmgdaaDoorAec
import Derived.Handed
import Derived.ProofKit
import Derived.Below
import Derived.ChangeSame
import Derived.SliceStrings
import Derived.WideShapes
set_option linter.unusedVariables false
set_option linter.unusedSimpArgs false
namespace a8
open Go
structure gB where
 P:Program
 need:Nat
 bx:Nat
 inR:Bool
 call:dB->List I->ab->a7
 ops:Array Oper
 r:aN
 b:Frame
 lf:bb
 H:ab
 fO:World
 cs0:List Frame
 N:Nat
 f:Nat->ry
def gB.steps(X:gB):List DStep:=ei X.ops.toList 0 [] []
def gB.val(X:gB)(j:Nat):I:=(nth (X.N-1-j) (X.f X.N).env).getD .bad
structure eV(X:gB):Prop where
 af:h6 X.P X.call
 eT:X.inR=X.b.roundOf.isSome
 jn:∀o∈X.ops.toList,∀t,o.dst=some t->t<X.bx
 hdr:ou X.ops X.steps=true
 hU:X.N<=X.ops.size
 rA:∀k s,k<X.N->X.steps[k]? =some s->rz X.P X.need X.inR X.call X.ops X.r X.H.n s (X.f k) (X.f (k+1))
 O8:(X.f 0).env=[]
 p4:(X.f 0).aX=[]
 looks:∀i s,i<X.N->X.steps[i]? =some s->kindOf X.P s.o.op=.pure->∃df,jB X.P X.need X.ops X.r X.N (X.f X.N).env s (X.val i) df (X.f X.N).h (X.f X.N).aX=true/\(∀e,df=some e->e=X.N/\X.N<X.ops.size)
 last:∀s,X.steps[X.N]? =some s->kindOf X.P s.o.op=.du/\(∀e m h0 l,(X.f X.N).aX=(e,m,h0)::l->Nat.testBit s.ed e=true)/\∀k a6,X.N<k->X.steps[k]? =some a6->Nat.testBit a6.ed s.i=true
 jH:gm X.P X.lf
 yB:bc X.lf X.H X.fO
section
variable {X:gB}
theorem eV.kK(bg:eV X){i:Nat}(ag:i<X.ops.size):∃s,X.steps[i]? =some s/\s.i=i/\X.ops[i]? =some s.o/\s.loc=hQ (X.ops.toList.take i) 0 []/\Sound X.ops i s.ed:=by
 have aQ:X.ops.toList[i]? =some X.ops[i]:=by simp[ag]
 obtain⟨s,aa,ad,aq,aC,bC⟩:=vR (ops:=X.ops) X.ops.toList 0 [] [] (λk=>by simp) (tj bg.hdr) (λj aF=>by omega) i _ aQ
 refine⟨s,aa,by omega,by rw[aq];exact Array.getElem?_eq_getElem ag,aC,by simpa using bC⟩
theorem eV.j8(bg:eV X){i:Nat}{s:DStep}(h:X.steps[i]? =some s):i<X.ops.size/\s.i=i/\X.ops[i]? =some s.o/\s.loc=hQ (X.ops.toList.take i) 0 []/\Sound X.ops i s.ed:=by
 have ag:i<X.ops.size:=by
  have aa:=(List.getElem?_eq_some_iff.1 h).1
  rw[gB.steps,BV] at aa
  simpa using aa
 obtain⟨a6,aa,ad⟩:=bg.kK ag
 rw[h] at aa;cases aa
 exact⟨ag,ad⟩
theorem eV.apart(bg:eV X){i j:Nat}{s a6:DStep}(rv:i<j)(aa:X.steps[i]? =some s)(ad:X.steps[j]? =some a6)(h:(∃t,s.o.dst=some t/\t∈kB X.ops a6.o)\/(∃t,a6.o.dst=some t/\t∈kB X.ops s.o)):Nat.testBit a6.ed i=true:=by
 have:=GO bg.hdr i j s a6 rv aa ad h
 rw[(bg.j8 aa).2.1] at this;exact this
theorem eV.yC(bg:eV X):∀k,k<=X.N->(X.f k).env.length=k
 |0,_=>by rw[bg.O8];rfl
 |k+1,an=>by
  obtain⟨s,aa,_⟩:=bg.kK (i:=k) (by have:=bg.hU;omega)
  have a3:=bg.yC k (by omega)
  have bm:=bg.rA k s (by omega) aa
  generalize X.f (k+1)=st at bm
  cases bm<;>simp[a3]
theorem eV.GQ(bg:eV X)(k:Nat):∀m,k<=m->m<=X.N->∃l,(X.f m).env=l++(X.f k).env
 |0,aa,ad=>⟨[],by obtain rfl:k=0:=by omega
                  rfl⟩
 |m+1,aa,ad=>by
  by_cases e:k=m+1
  · exact⟨[],by rw[e];rfl⟩
  · obtain⟨l,ar⟩:=bg.GQ k m (by omega) (by omega)
    obtain⟨s,hs,_⟩:=bg.kK (i:=m) (by have:=bg.hU;omega)
    have bm:=bg.rA m s (by omega) hs
    have:∃v,(X.f (m+1)).env=v::(X.f m).env:=by
     generalize X.f (m+1)=st at bm
     cases bm<;>exact⟨_,rfl⟩
    obtain⟨v,aD⟩:=this
    exact⟨v::l,by rw[aD,ar];rfl⟩
theorem GR{α:Type}:∀(l m:List α) (k:Nat),nth (l.length+k) (l++m)=nth k m
 |[],m,k=>by simp
 |a::l,m,k=>by
  have:(a::l).length+k=(l.length+k)+1:=by simp;omega
  rw[this];exact GR l m k
theorem eV.BW(bg:eV X){k j:Nat}(an:k<=X.N)(aF:j<k):nth (k-1-j) (X.f k).env=nth (X.N-1-j) (X.f X.N).env:=by
 obtain⟨l,ar⟩:=bg.GQ k X.N an (Nat.le_refl _)
 have aa:=bg.yC k an
 have ad:=bg.yC X.N (Nat.le_refl _)
 rw[ar] at ad⊢
 simp only[List.length_append,aa] at ad
 have:X.N-1-j=l.length+(k-1-j):=by omega
 rw[this,GR]
theorem eV.yD(bg:eV X){k:Nat}(an:k<X.N){v:I}(h:(X.f (k+1)).env=v::(X.f k).env):X.val k=v:=by
 have aa:=bg.BW (k:=k+1) (j:=k) an (Nat.lt_succ_self k)
 unfold gB.val
 rw[<-aa,h]
 simp[nth]
theorem eV.GS(bg:eV X){k:Nat}(an:k<=X.N){a:Acc}(aw:a.below k):c1 k (X.f k).env X.r a=c1 X.N (X.f X.N).env X.r a:=by
 cases a with
 |env j=>simp only[c1];rw[bg.BW an aw]
 |j1 p=>rfl
 |val v=>rfl
theorem vS(l:List Oper)(t:Nat):∀k,k<=l.length->
  (∀a,g4 t (hQ (l.take k) 0 [])=some a->∃j o,j<k/\a=.env j/\l[j]? =some o/\o.dst=some t/\∀hB o',j<hB->hB<k->l[hB]? =some o'->o'.dst≠some t)/\
  (g4 t (hQ (l.take k) 0 [])=none->∀j o,j<k->l[j]? =some o->o.dst≠some t)
 |0,_=>⟨λa h=>by simp[hQ,g4] at h,λ_ j o aF=>by omega⟩
 |k+1,an=>by
  obtain⟨yE,yF⟩:=vS l t k (by omega)
  have aQ:l[k]? =some l[k]:=List.getElem?_eq_getElem (by omega)
  rw[GM l 0 [] k l[k] aQ,Nat.zero_add]
  unfold gg
  cases ak:(l[k]).dst with
  |none=>
   refine⟨λa h=>?_,λh j o aF k6=>?_⟩
   · obtain⟨j,o,aa,ad,aq,aC,bC⟩:=yE a h
     refine⟨j,o,by omega,ad,aq,aC,λhB o' aV ba b1=>?_⟩
     by_cases e:hB=k
     · subst e;rw[aQ] at b1;cases b1;rw[ak];simp
     · exact bC hB o' aV (by omega) b1
   · by_cases e:j=k
     · subst e;rw[aQ] at k6;cases k6;rw[ak];simp
     · exact yF h j o (by omega) k6
  |some d=>
   simp only[mK]
   by_cases e:t=d
   · subst e
     refine⟨λa h=>?_,λh=>by simp at h⟩
     simp at h;subst h
     exact⟨k,_,by omega,rfl,aQ,ak,λhB o' aV ba=>by omega⟩
   · simp only[e,if_false]
     refine⟨λa h=>?_,λh j o aF k6=>?_⟩
     · obtain⟨j,o,aa,ad,aq,aC,bC⟩:=yE a h
       refine⟨j,o,by omega,ad,aq,aC,λhB o' aV ba b1=>?_⟩
       by_cases av:hB=k
       · subst av;rw[aQ] at b1;cases b1;rw[ak];simp;exactλcn=>e cn.symm
       · exact bC hB o' aV (by omega) b1
     · by_cases av:j=k
       · subst av;rw[aQ] at k6;cases k6;rw[ak];simp;exactλcn=>e cn.symm
       · exact yF h j o (by omega) k6
def gB.rB(X:gB)(S:List Nat)(μ:bb)(bQ:Array Value):Prop:=∀t,
 (∀j o,j∈S->X.ops[j]? =some o->o.dst=some t->(∀k o',k∈S->X.ops[k]? =some o'->o'.dst=some t->k<=j)->a2 μ (X.val j) (bQ.getD t undef))/\
 ((∀j o,j∈S->X.ops[j]? =some o->o.dst≠some t)->Nat.testBit X.need t=true->a2 μ (X.r.get (fV t)) (bQ.getD t undef))
theorem gB.rB.mono{S:List Nat}{μ aK:bb}{bQ:Array Value}(hle:ej μ aK)(h:X.rB S μ bQ):X.rB S aK bQ:=λt=>⟨λj o aa ad aq aC=>((h t).1 j o aa ad aq aC).mono hle,λaa ad=>((h t).2 aa ad).mono hle⟩
theorem eV.GU(bg:eV X){S:List Nat}(gR:vP X.ops S){μ:bb}{bQ:Array Value}(ai:X.rB S μ bQ){i:Nat}(ag:i<=X.N)(dg:i∉S)(cf:jL X.ops S i){s:DStep}(hs:X.steps[i]? =some s){t:Nat}(bm:t∈kB X.ops s.o):
  a2 μ (c1 i (X.f i).env X.r (cl X.P X.need s.loc (.tmp t))) (bQ.getD t undef):=by
 obtain⟨eT,gV,ez,lg,kL⟩:=bg.j8 hs
 obtain⟨f1,f2⟩:=vS X.ops.toList t i (by simp;omega)
 have GV:∀k o',k∈S->X.ops[k]? =some o'->o'.dst=some t->k<i:=λk o' an hn ak=>by
  have tn:k<X.ops.size:=(Array.getElem?_eq_some_iff.1 hn).1
  rcases Nat.lt_trichotomy k i with h|h|h
  · exact h
  · subst h;exact absurd an dg
  · obtain⟨a6,aV,ba,b1,gy,iU⟩:=bg.kK tn
    rw[hn] at b1;cases b1
    have:=bg.apart h hs aV (.inr ⟨t,ak,bm⟩)
    exact absurd (iU S gR (gR k an) i this) dg
 simp only[cl,lg]
 cases hf:g4 t (hQ (X.ops.toList.take i) 0 []) with
 |some a=>
  obtain⟨j,o,aF,rfl,k6,ak,pG⟩:=f1 a hf
  have GW:X.ops[j]? =some o:=by simpa using k6
  obtain⟨a6,aV,ba,b1,gy,iU⟩:=bg.kK (i:=j) (by omega)
  rw[GW] at b1;cases b1
  have BX:j∈S:=kL S gR cf j (bg.apart aF aV hs (.inl ⟨t,ak,bm⟩))
  have:=(ai t).1 j _ BX GW ak λk o' an hn k8=>by
   have O9:=GV k o' an hn k8
   rcases Nat.lt_or_ge j k with h|h
   · exact absurd k8 (pG k o' h O9 (by simpa using hn))
   · exact h
  have aD:c1 i (X.f i).env X.r (.env j)=X.val j:=by
   simp only[c1,gB.val]
   rw[bg.BW ag aF]
  simp only[aD];exact this
 |none=>
  simp only[]
  cases ae:Nat.testBit X.need t with
  |false=>trivial
  |true=>
   exact(ai t).2 (λj o aF aQ ak=>f2 hf j o (GV j o aF aQ ak) (by simpa using aQ) ak) ae
theorem eV.GX(bg:eV X){S:List Nat}(gR:vP X.ops S){μ:bb}{a:Act}(bh:a.tmps.size=X.bx)(ai:X.rB S μ a.tmps){i:Nat}(dg:i∉S)(cf:jL X.ops S i){s:DStep}(hs:X.steps[i]? =some s){u:Value}(hu:a2 μ (X.val i) u):
  X.rB (i::S) μ (a.put s.o.dst u).tmps:=by
 obtain⟨eT,gV,ez,lg,kL⟩:=bg.j8 hs
 have bX:∀t,s.o.dst=some t->t<a.tmps.size:=λt h=>by
  rw[bh];exact bg.jn s.o (by rw[<-Array.getElem?_toList] at ez;exact List.mem_of_getElem? ez) t h
 intro t
 by_cases ak:s.o.dst=some t
 · have gQ:(a.put s.o.dst u).tmps.getD t undef=u:=by
     rw[ak];simp only[Act.put];rw[vF (bX t ak),if_pos rfl]
   have O_:∀k o',k∈S->X.ops[k]? =some o'->o'.dst=some t->k<i:=λk o' an hn k8=>by
    have tn:k<X.ops.size:=(Array.getElem?_eq_some_iff.1 hn).1
    rcases Nat.lt_trichotomy k i with h|h|h
    · exact h
    · subst h;exact absurd an dg
    · obtain⟨a6,aV,ba,b1,gy,iU⟩:=bg.kK tn
      rw[hn] at b1;cases b1
      have:=bg.apart h hs aV (.inr ⟨t,k8,by simp[kB,ak]⟩)
      exact absurd (iU S gR (gR k an) i this) dg
   refine⟨λj o aF aQ yG vw=>?_,λmS=>absurd ak (mS i s.o (by simp) ez)⟩
   have rv:=vw i s.o (by simp) ez ak
   rcases List.mem_cons.1 aF with rfl|aF
   · rw[gQ];exact hu
   · have:=O_ j o aF aQ yG;omega
 · have gQ:(a.put s.o.dst u).tmps.getD t undef=a.tmps.getD t undef:=by
     cases GY:s.o.dst with
     |none=>rfl
     |some d=>
      simp only[Act.put]
      rw[vF (bX d GY),if_neg (λe=>ak (by rw[GY,e]))]
   rw[gQ]
   refine⟨λj o aF aQ yG vw=>?_,λmS ae=>(ai t).2 (λj o aF aQ=>mS j o (by simp[aF]) aQ) ae⟩
   rcases List.mem_cons.1 aF with rfl|aF
   · rw[ez] at aQ;cases aQ;exact absurd yG ak
   · exact(ai t).1 j o aF aQ yG λk o' an hn k8=>vw k o' (by simp[an]) hn k8
def oL(μ:bb)(w:World)(b:Nat)(cE:cX):Prop:=∃i O,μ b=some i/\w.heap[i.a1]? =some O/\(∀aK w',ej μ aK->w'.heap[i.a1]? =some O->nA aK cE i w')/\(∀c j,c≠b->μ c=some j->j.a1≠i.a1)
theorem bc.BY{μ:bb}{H:ab}{w:World}(h:bc μ H w){b:Nat}{cE:cX}(ae:b<H.n)(aL:μ b=none\/oL μ w b cE):bc μ (H.set b (some cE)) w:=by
 refine⟨λc o i af ag=>?_,λc d i j af ak ag aF e=>?_,λc i ag=>h.lt c i ag,λc af=>?_⟩
 · rw[ab.cD] at af
   by_cases e:c=b
   · subst e
     rw[if_pos rfl] at af;cases af
     rcases aL with aL|⟨GZ,O,aa,ad,aq,aC⟩
     · rw[aL] at ag;cases ag
     · rw[aa] at ag;cases ag
       exact aq μ w (ej.refl μ) ad
   · rw[if_neg e] at af;exact h.rel c o i af ag
 · rw[ab.cD] at af ak
   by_cases ax:c=b
   · by_cases av:d=b
     · rw[ax,av]
     · subst ax
       rcases aL with aL|⟨GZ,O,aa,ad,aq,aC⟩
       · rw[aL] at ag;cases ag
       · rw[aa] at ag;cases ag
         exact absurd e.symm (aC d j av aF)
   · by_cases av:d=b
     · subst av
       rcases aL with aL|⟨GZ,O,aa,ad,aq,aC⟩
       · rw[aL] at aF;cases aF
       · rw[aa] at aF;cases aF
         exact absurd e (aC c i ax ag)
     · rw[if_neg ax] at af;rw[if_neg av] at ak
       exact h.inj c d i j af ak ag aF e
 · rw[ab.cD,if_neg (by simp at af;omega)];exact h.bound c (by simpa using af)
theorem bN.BY{lf μ:bb}{H vT:ab}{fO w:World}(ah:bc lf H fO)(h:bN lf H fO μ vT w){b:Nat}(cE:cX)(ae:H.n<=b):bN lf H fO μ (vT.set b (some cE)) w where
 le:=h.le
 size:=h.size
 n:=by simpa using h.n
 live:=λc af ar=>h.live c af (by rw[ab.cD,if_neg (by omega)] at ar;exact ar)
 idle:=λc af hm=>by rw[ab.cD,if_neg (by omega)];exact h.idle c af hm
 old:=h.old
 new:=h.new
 ro:=λc o i af ai ag=>by
  have:=(ah.lt c i ag).1
  rw[ab.cD,if_neg (by omega)];exact h.ro c o i af ai ag
 os:=h.os
 out:=h.out
 tape:=h.tape
 drawn:=h.drawn
theorem bc.early{μ:bb}{H:ab}{w:World}(h:bc μ H w){b:Nat}{cE:cX}{O:Obj}{sz:Nat}(ae:b<H.n)(hm:μ b=none)(aQ:∀o,H.get b=some o->o=cE)
  (Pa:∀aK w',ej μ aK->w'.heap[w.heap.size]? =some O->nA aK cE ⟨w.heap.size,0,sz⟩ w'):ej μ (eG μ b ⟨w.heap.size,0,sz⟩)/\bc (eG μ b ⟨w.heap.size,0,sz⟩) H (w.alloc O):=by
 have hle:ej μ (eG μ b ⟨w.heap.size,0,sz⟩):=λc i ag=>by
  rw[gh];exact ag
  intro e;subst e;rw[hm] at ag;cases ag
 have hold:∀r,r<w.heap.size->(w.alloc O).heap[r]? =w.heap[r]? :=λr ai=>by
  simp only[World.alloc,Array.getElem?_push];rw[if_neg (by omega)]
 refine⟨hle,λc o i af ag=>?_,λc d i j af ak ag aF e=>?_,λc i ag=>?_,h.bound⟩
 · by_cases e:c=b
   · subst e
     rw[fl] at ag;cases ag
     rw[aQ o af]
     exact Pa _ _ hle (World.heap_alloc_new _ _)
   · rw[gh _ _ e] at ag
     exact(h.rel c o i af ag).mono hle (hold _ (h.lt c i ag).2)
 · by_cases ax:c=b
   · by_cases av:d=b
     · rw[ax,av]
     · subst ax;rw[fl] at ag;cases ag
       rw[gh _ _ av] at aF
       have:=(h.lt d j aF).2
       simp only at e;omega
   · by_cases av:d=b
     · subst av;rw[fl] at aF;cases aF
       rw[gh _ _ ax] at ag
       have:=(h.lt c i ag).2
       simp only at e;omega
     · rw[gh _ _ ax] at ag;rw[gh _ _ av] at aF
       exact h.inj c d i j af ak ag aF e
 · by_cases e:c=b
   · subst e;rw[fl] at ag;cases ag
     exact⟨ae,by simp⟩
   · rw[gh _ _ e] at ag
     have:=h.lt c i ag
     simp only[World.size_alloc];omega
theorem bN.early{lf μ:bb}{H vT:ab}{fO w:World}(ah:bc lf H fO)(h:bN lf H fO μ vT w){b:Nat}(ae:H.n<=b)(hm:μ b=none){O:Obj}{sz:Nat}:bN lf H fO (eG μ b ⟨w.heap.size,0,sz⟩) vT (w.alloc O):=by
 have hold:∀r,r<w.heap.size->(w.alloc O).heap[r]? =w.heap[r]? :=λr ai=>by
  simp only[World.alloc,Array.getElem?_push];rw[if_neg (by omega)]
 exact{
  le:=λc i ag=>by
   have aa:=h.le c i ag
   rw[gh];exact aa
   intro e;subst e;rw[hm] at aa;cases aa
  size:=by have:=h.size;simp only[World.size_alloc];omega
  n:=h.n
  live:=h.live
  idle:=h.idle
  old:=λr ai aH=>(hold r (Nat.lt_of_lt_of_le ai h.size)).trans (h.old r ai aH)
  new:=λc i aa ad=>by
   by_cases e:c=b
   · subst e;rw[fl] at ad;cases ad;exact⟨ae,.inl h.size⟩
   · rw[gh _ _ e] at ad;exact h.new c i aa ad
  ro:=λc o i af ai ag=>by
   obtain⟨aa,ad⟩:=h.ro c o i af ai ag
   exact⟨aa,(hold _ (Nat.lt_of_lt_of_le (ah.lt c i ag).2 h.size)).trans ad⟩
  os:=h.os
  out:=h.out
  tape:=h.tape
  drawn:=h.drawn}
theorem oL.early{μ:bb}{H:ab}{w:World}(h:bc μ H w){b c:Nat}{cE:cX}{O:Obj}{sz:Nat}(hm:μ b=none)(aL:oL μ w c cE):oL (eG μ b ⟨w.heap.size,0,sz⟩) (w.alloc O) c cE:=by
 obtain⟨i,BZ,aa,ad,aq,aC⟩:=aL
 have cF:c≠b:=by intro e;subst e;rw[hm] at aa;cases aa
 have bX:=(h.lt c i aa).2
 have hle:ej μ (eG μ b ⟨w.heap.size,0,sz⟩):=λc i ag=>by
  rw[gh];exact ag
  intro e;subst e;rw[hm] at ag;cases ag
 refine⟨i,BZ,by rw[gh _ _ cF];exact aa,?_,λaK w' ar jM=>aq aK w' (hle.trans ar) jM,λd j ak aF=>?_⟩
 · simp only[World.alloc,Array.getElem?_push];rw[if_neg (by omega)];exact ad
 · by_cases e:d=b
   · subst e;rw[fl] at aF;cases aF;simp only;omega
   · rw[gh _ _ e] at aF;exact aC d j ak aF
theorem oL.nO{μ aK:bb}{H aI:ab}{w w':World}(ah:bc μ H w)(aw:bN μ H w aK aI w'){c:Nat}{cE:cX}(aj:H.get c=none)(aL:oL μ w c cE):oL aK w' c cE:=by
 obtain⟨i,BZ,aa,ad,aq,aC⟩:=aL
 have bX:=(ah.lt c i aa).2
 refine⟨i,BZ,aw.le _ _ aa,?_,λsX cA ar jM=>aq sX cA (aw.le.trans ar) jM,λd j ak aF=>?_⟩
 · rw[aw.old i.a1 bX]
   · exact ad
   · intro d j ar aF
     exact aC d j (λe=>by subst e;exact ar aj) aF
 · cases mO:μ d with
   |some Pb=>
    have:=aw.le d Pb mO
    rw[aF] at this;cases this
    exact aC d j ak mO
   |none=>
    obtain⟨_,aH|⟨e,o,k,he,_,an,B0⟩⟩:=aw.new d j mO aF
    · omega
    · rw[<-B0]
      exact aC e k (λcn=>by subst cn;rw[aj] at he;cases he) an
end
end a8
namespace a8
open Go
section
variable {X:gB}
def p5(X:gB)(i:Nat)(s:DStep)(v:I)(cE:cX):Prop:=
 i<X.N/\kindOf X.P s.o.op=.alloc/\dC (fN X.P X.need X.ops X.r s.i (X.f i).env s)=some true/\iO X.P s.o.op (kJ X.P X.need X.r s (X.f i).env) (X.H.n+i)=some (v,cE)
structure Inv(X:gB)(S:List Nat)(c:Nat)(μ:bb)(w:World)(a:Act)(cs:List Frame):Prop where
 af:c<=X.N
 closed:vP X.ops S
 sub:∀i∈S,i<X.N
 du:∀i s,X.steps[i]? =some s->i<X.N->kindOf X.P s.o.op=.du->(i∈S<->i<c)
 rel:bc μ (X.f c).h w
 nO:bN X.lf X.H X.fO μ (X.f c).h w
 tp:fh μ (X.f c).d a.defers
 qr:gA μ X.b.kind X.cs0 (X.f c).q cs
 dy:∀i,i<X.ops.size->i∉S->μ (X.H.n+i)=none
 lay:∀i s v cE,X.steps[i]? =some s->p5 X i s v cE->i∉S->i<c->(X.f c).h.get (X.H.n+i)=some cE
 mT:∀i,c<=i->i<X.ops.size->(X.f c).h.get (X.H.n+i)=none
 tq:X.H.n+X.ops.size<=(X.f c).h.n
 eZ:∀i s v cE,X.steps[i]? =some s->p5 X i s v cE->i∈S->c<=i->oL μ w (X.H.n+i) cE
 k2:X.rB S μ a.tmps
 sz:a.tmps.size=X.bx
theorem Inv.pass(bg:eV X){S:List Nat}{c:Nat}{μ:bb}{w:World}{a:Act}{cs:List Frame}(h:Inv X S c μ w a cs)(bX:c<X.N){s:DStep}(hs:X.steps[c]? =some s)(an:kindOf X.P s.o.op≠ .du):Inv X S (c+1) μ w a cs:=by
 obtain⟨eT,gV,ez,lg,kL⟩:=bg.j8 hs
 have bm:=bg.rA c s bX hs
 have G0:∀i a6,X.steps[i]? =some a6->i<X.N->kindOf X.P a6.o.op=.du->(i∈S<->i<c+1):=λi a6 aa ad aq=>by
  rw[h.du i a6 aa ad aq]
  have:i≠c:=by intro e;subst e;rw[hs] at aa;cases aa;exact an aq
  omega
 have same:(X.f (c+1)).h=(X.f c).h->(X.f (c+1)).d=(X.f c).d->(X.f (c+1)).q=(X.f c).q->(∀v cE,¬p5 X c s v cE)->Inv X S (c+1) μ w a cs:=λax av bq B1=>by
  refine⟨bX,h.closed,h.sub,G0,by rw[ax];exact h.rel,by rw[ax];exact h.nO,by rw[av];exact h.tp,by rw[bq];exact h.qr,h.dy,λi a6 v cE aa ad aq aC=>?_,λi aa ad=>(by rw[ax];exact h.mT i (by omega) ad),by rw[ax];exact h.tq,λi a6 v cE aa ad aq aC=>h.eZ i a6 v cE aa ad aq (by omega),h.k2,h.sz⟩
  by_cases e:i=c
  · subst e;rw[hs] at aa;cases aa;exact absurd ad (B1 v cE)
  · rw[ax];exact h.lay i a6 v cE aa ad aq (by omega)
 generalize hf:X.f (c+1)=st at bm
 cases bm with
 |tl ek hw=>
  refine same (by rw[hf]) (by rw[hf]) (by rw[hf]) λv cE gC=>?_
  have:=gC.2.2.1
  rw[hw] at this;cases this
 |pure ek he=>
  refine same (by rw[hf]) (by rw[hf]) (by rw[hf]) λv cE gC=>?_
  have:=gC.2.1
  rw[ek] at this;cases this
 |du ek aQ he=>exact absurd ek an
 |alloc ek hw aw=>
  rename_i v cE
  have ax:(X.f (c+1)).h=(X.f c).h.set (X.H.n+c) (some cE):=by rw[hf,gV]
  have av:(X.f (c+1)).d=(X.f c).d:=by rw[hf]
  have bq:(X.f (c+1)).q=(X.f c).q:=by rw[hf]
  have gC:p5 X c s v cE:=⟨bX,ek,hw,by rw[<-gV];rw[<-gV] at aw;exact aw⟩
  have ae:X.H.n+c<(X.f c).h.n:=by have:=h.tq;omega
  have aL:μ (X.H.n+c)=none\/oL μ w (X.H.n+c) cE:=by
   by_cases G1:c∈S
   · exact .inr (h.eZ c s v cE hs gC G1 (Nat.le_refl _))
   · exact .inl (h.dy c eT G1)
  refine⟨bX,h.closed,h.sub,G0,by rw[ax];exact h.rel.BY ae aL,by rw[ax];exact h.nO.BY bg.yB cE (by omega),by rw[av];exact h.tp,by rw[bq];exact h.qr,h.dy,λi a6 v' B2 aa ad aq aC=>?_,λi aa ad=>?_,by rw[ax];simpa using h.tq,λi a6 v cE aa ad aq aC=>h.eZ i a6 v cE aa ad aq (by omega),h.k2,h.sz⟩
  · rw[ax,ab.cD]
    by_cases e:i=c
    · subst e
      rw[hs] at aa;cases aa
      have:=ad.2.2.2.symm.trans gC.2.2.2
      cases this
      rw[if_pos rfl]
    · rw[if_neg (by omega)];exact h.lay i a6 v' B2 aa ad aq (by omega)
  · rw[ax,ab.cD,if_neg (by omega)]
    exact h.mT i (by omega) ad
def Norm(X:gB)(c:Nat):Prop:=c=X.N\/∃s,X.steps[c]? =some s/\kindOf X.P s.o.op=.du
theorem Inv.norm(bg:eV X){S:List Nat}{μ:bb}{w:World}{a:Act}{cs:List Frame}:∀(k c:Nat),X.N-c=k->Inv X S c μ w a cs->∃c',Norm X c'/\Inv X S c' μ w a cs
 |0,c,an,h=>⟨c,.inl (by have:=h.af;omega),h⟩
 |k+1,c,an,h=>by
  obtain⟨s,hs,_⟩:=bg.kK (i:=c) (by have:=bg.hU;omega)
  by_cases he:kindOf X.P s.o.op=.du
  · exact⟨c,.inr ⟨s,hs,he⟩,h⟩
  · exact Inv.norm bg k (c+1) (by omega) (h.pass bg (by omega) hs he)
def vU(ops:Array Oper)(o:Oper)(g:Operand->I):Operand->I
 |.tmp t=>if(kB ops o).contains t then g (.tmp t) else .bad
 |x=>g x
theorem yH{ops:Array Oper}{o:Oper}{g:Operand->I}:∀x∈o.op.operands,g x=vU ops o g x:=by
 intro x J
 cases x with
 |tmp t=>
  have:(kB ops o).contains t=true:=by
   have aa:t∈o.op.operands.toList.filterMap λ|.tmp t=>some t|_=>none:=List.mem_filterMap.2 ⟨.tmp t,by simpa using J,rfl⟩
   simp only[kB,List.contains_iff_mem,List.mem_append]
   exact .inl (.inr aa)
  simp only[vU,this,if_true]
 |_=>rfl
theorem G2(bg:eV X){S:List Nat}{c:Nat}{μ:bb}{w:World}{a:Act}{cs:List Frame}(h:Inv X S c μ w a cs){i:Nat}(ag:i<=X.N)(dg:i∉S)(cf:jL X.ops S i){s:DStep}(hs:X.steps[i]? =some s):
  ∀x,a2 μ (vU X.ops s.o (kJ X.P X.need X.r s (X.f i).env) x) (a.eval x):=by
 obtain⟨eT,gV,ez,lg,kL⟩:=bg.j8 hs
 intro x
 cases x with
 |tmp t=>
  simp only[vU]
  split
  · rename_i bm
    have:=bg.GU h.closed h.k2 ag dg cf hs (t:=t) (by simpa using bm)
    unfold kJ;rw[gV];exact this
  · trivial
 |const v=>exact iP μ v
 |global g=>
  simp only[vU,kJ,cl,Act.eval]
  cases ae:Nat.blt g X.P.globals.size with
  |false=>exact trivial
  |true=>
   obtain⟨i,aa,ad,aq⟩:=bg.jH.mono h.nO.le g (by simpa using ae)
   obtain⟨gk,i0,vq⟩:=i
   simp only at ad aq
   subst ad;subst aq
   exact⟨_,aa,rfl⟩
 |func f=>exact⟨[],[],rfl,rfl,rfl⟩
theorem B3(bg:eV X){S:List Nat}{c:Nat}{μ:bb}{w:World}{a:Act}{cs:List Frame}(h:Inv X S c μ w a cs){i:Nat}(ag:i<=X.N)(dg:i∉S)(cf:jL X.ops S i){s:DStep}(hs:X.steps[i]? =some s):
  ∀nL,dC (fN X.P X.need X.ops X.r s.i (X.f i).env s)=some nL->Region.wanted s.o (yielded X.ops a.tmps)=nL:=by
 obtain⟨eT,gV,ez,lg,kL⟩:=bg.j8 hs
 intro nL hw
 unfold fN il at hw
 unfold Region.wanted
 cases aj:s.o.guard with
 |none=>rw[aj] at hw;simp only[dC] at hw;cases hw;rfl
 |some p=>
  obtain⟨j,eC⟩:=p
  rw[aj] at hw
  simp only at hw⊢
  cases bm:(X.ops[j]?).bind (·.dst) with
  |none=>rw[bm] at hw;simp only[c1,dC] at hw;cases hw
  |some t=>
   rw[bm] at hw
   simp only at hw
   have ai:=bg.GU h.closed h.k2 ag dg cf hs (t:=t) (by
    simp only[kB,List.mem_append]
    refine .inr ?_
    rw[aj];simp only[bm];simp)
   rw[Gk bm]
   rw[gV] at hw
   generalize c1 i (X.f i).env X.r (cl X.P X.need s.loc (.tmp t))=v at hw ai
   unfold dC at hw
   split at hw
   · rename_i he;cases he
   · rename_i he;cases he;cases hw
     have BD:a.tmps.getD t undef=_:=ai
     rw[BD];rfl
   · rename_i he;cases he;cases hw
     obtain⟨l,ar,vG⟩:=ai
     cases vG
     rw[ar];rfl
   · cases hw
theorem rC{P:Program}{inR:Bool}{call:dB->List I->ab->a7}{gd:Option (I×Bool)}{o:Oper}{g fr:Operand->I}{d:List bz}{q:bu}{H:ab}(h:∀x∈o.op.operands,g x=fr x):dc P inR call gd o g d q H=dc P inR call gd o fr d q H:=by
 unfold dc;rw[vN o H h]
theorem Inv.one(bg:eV X){S:List Nat}{c:Nat}{μ:bb}{w:World}{a:Act}{cs:List Frame}(h:Inv X S c μ w a cs){i:Nat}(ag:i<=X.N)(dg:i∉S)(cf:jL X.ops S i){s:DStep}(hs:X.steps[i]? =some s)(rest:List Nat)(k:List Item):
  Bx X.P μ (X.f c).h w X.b a X.ops s.o i rest k X.cs0 cs (dc X.P X.inR X.call (fN X.P X.need X.ops X.r s.i (X.f i).env s) s.o (kJ X.P X.need X.r s (X.f i).env) (X.f c).d (X.f c).q (X.f c).h):=by
 obtain⟨eT,gV,ez,lg,kL⟩:=bg.j8 hs
 rw[rC (yH (ops:=X.ops))]
 exact Gh bg.af h.rel (bg.jH.mono h.nO.le) ez (B3 bg h ag dg cf hs) (G2 bg h ag dg cf hs) h.tp h.qr bg.eT
theorem Inv.yI(bg:eV X){S:List Nat}{c c':Nat}{μ aK:bb}{w w':World}{a:Act}{cs bw:List Frame}(h:Inv X S c μ w a cs){i:Nat}(ag:i<X.N)(dg:i∉S)(cf:jL X.ops S i){s:DStep}(hs:X.steps[i]? =some s)(an:∀v cE,¬p5 X i s v cE)
  {u:Value}{ds:List Deferred}(aD:a2 aK (X.val i) u)(gz:bc aK (X.f c').h w')(jq:bN μ (X.f c).h w aK (X.f c').h w')(ak:fh aK (X.f c').d ds)(aE:gA aK X.b.kind X.cs0 (X.f c').q bw)
  (tr:(c'=c/\kindOf X.P s.o.op≠ .du)\/(c'=c+1/\i=c)):Inv X (i::S) c' aK w' {tmps:=(a.put s.o.dst u).tmps,defers:=ds} bw:=by
 obtain⟨eT,gV,ez,lg,kL⟩:=bg.j8 hs
 have hle:=jq.le
 have vV:c<=c':=by rcases tr with⟨e,_⟩|⟨e,_⟩<;>omega
 have G3:=h.tq
 refine⟨?_,λj aF=>?_,λj aF=>?_,λj a6 aa ad aq=>?_,gz,bN.trans bg.yB h.rel h.nO jq,ak,aE,λj aa ad=>?_,λj a6 v cE aa ad aq aC=>?_,λj aa ad=>?_,?_,λj a6 v cE aa ad aq aC=>?_,?_,?_⟩
 · rcases tr with⟨e,_⟩|⟨e,av⟩
   · rw[e];exact h.af
   · omega
 · have hm:jL X.ops S j->jL X.ops (i::S) j:=λah o aQ e he ae=>List.mem_cons_of_mem _ (ah o aQ e he ae)
   rcases List.mem_cons.1 aF with rfl|aF
   · exact hm cf
   · exact hm (h.closed j aF)
 · rcases List.mem_cons.1 aF with rfl|aF
   · exact ag
   · exact h.sub j aF
 · have:=h.du j a6 aa ad aq
   rw[List.mem_cons,this]
   rcases tr with⟨e,av⟩|⟨e,av⟩
   · subst e
     have:j≠i:=by intro e;subst e;rw[hs] at aa;cases aa;exact av aq
     simp[this]
   · omega
 · have yJ:j∉S:=λah=>ad (List.mem_cons_of_mem _ ah)
   cases hm:aK (X.H.n+j) with
   |none=>rfl
   |some dy=>
    have:=(jq.new _ dy (h.dy j aa yJ) hm).1
    omega
 · have yJ:j∉S:=λah=>aq (List.mem_cons_of_mem _ ah)
   have mA:j≠i:=λe=>aq (by simp[e])
   have Yd:=ad.1
   have Fz:j<c:=by rcases tr with⟨e,_⟩|⟨e,av⟩<;>omega
   rw[jq.idle _ (by have:=bg.hU;omega) (h.dy j (by have:=bg.hU;omega) yJ)]
   exact h.lay j a6 v cE aa ad yJ Fz
 · have h0:=h.mT j (by omega) ad
   cases aj:(X.f c').h.get (X.H.n+j) with
   |none=>rfl
   |some o=>exact absurd h0 (jq.live _ (by omega) (by rw[aj];simp))
 · exact Nat.le_trans G3 jq.n
 · have mA:j≠i:=by
     intro e;subst e;rw[hs] at aa;cases aa;exact an v cE ad
   have BX:j∈S:=by
    rcases List.mem_cons.1 aq with e|ah
    · exact absurd e mA
    · exact ah
   have Ye:=ad.1
   exact(h.eZ j a6 v cE aa ad BX (by omega)).nO h.rel jq (h.mT j (by omega) (by have:=bg.hU;omega))
 · exact bg.GX (a:=a) h.closed h.sz (h.k2.mono hle) dg cf hs aD
 · simpa using(vH a s.o.dst u).trans h.sz
theorem vW{s:DStep}{v:I}(bg:eV X):∀(m:Nat),m<=X.N->∀(df:Option Nat) (ts:ab),jB X.P X.need X.ops X.r X.N (X.f X.N).env s v df ts (X.f m).aX=true->
  ∀c a6,c<m->X.steps[c]? =some a6->kindOf X.P a6.o.op=.du->∃aX,aX=(X.f c).aX/\jB X.P X.need X.ops X.r X.N (X.f X.N).env s v (some c) (X.f c).h aX=true
 |0,_,df,ts,h,c,a6,af,_,_=>by omega
 |m+1,hm,df,ts,h,c,a6,af,c_,an=>by
  obtain⟨rD,aV,ba,_⟩:=bg.kK (i:=m) (by have:=bg.hU;omega)
  have bm:=bg.rA m rD (by omega) aV
  by_cases e:c=m
  · subst e
    rw[aV] at c_;cases c_
    generalize hf:X.f (c+1)=st at bm h
    cases bm with
    |tl ek=>rw[an] at ek;cases ek
    |alloc ek=>rw[an] at ek;cases ek
    |pure ek=>rw[an] at ek;cases ek
    |du ek aQ he=>
     unfold jB at h
     rw[Bool.and_eq_true] at h
     have ad:=h.2
     simp only[ba] at ad
     exact⟨_,rfl,ad⟩
  · have bX:c<m:=by omega
    generalize hf:X.f (m+1)=st at bm h
    cases bm with
    |tl ek=>exact vW bg m (by omega) df ts h c a6 bX c_ an
    |alloc ek=>exact vW bg m (by omega) df ts h c a6 bX c_ an
    |pure ek=>exact vW bg m (by omega) df ts h c a6 bX c_ an
    |du ek aQ he=>
     unfold jB at h
     rw[Bool.and_eq_true] at h
     have ad:=h.2
     simp only at ad
     exact vW bg m (by omega) _ _ ad c a6 bX c_ an
theorem B4(bg:eV X):∀(m:Nat),m<=X.N->∀e mk h0 l,(X.f m).aX=(e,mk,h0)::l->e<m/\∃a6,X.steps[e]? =some a6/\kindOf X.P a6.o.op=.du/\mk=a6.ed
 |0,_,e,mk,h0,l,h=>by rw[bg.p4] at h;cases h
 |m+1,hm,e,mk,h0,l,h=>by
  obtain⟨rD,aV,ba,_⟩:=bg.kK (i:=m) (by have:=bg.hU;omega)
  have bm:=bg.rA m rD (by omega) aV
  generalize hf:X.f (m+1)=st at bm h
  cases bm with
  |du ek aQ he=>
   simp only[List.cons.injEq,Prod.mk.injEq] at h
   obtain⟨⟨rfl,rfl,rfl⟩,rfl⟩:=h
   exact⟨by omega,rD,by rw[ba];exact aV,ek,rfl⟩
  |_=>obtain⟨aa,ad⟩:=B4 bg m (by omega) e mk h0 l h;exact⟨by omega,ad⟩
theorem Inv.looks(bg:eV X){S:List Nat}{c:Nat}{μ:bb}{w:World}{a:Act}{cs:List Frame}(h:Inv X S c μ w a cs)(aH:Norm X c){i:Nat}(ag:i<X.N)(dg:i∉S)(cf:jL X.ops S i){s:DStep}(hs:X.steps[i]? =some s)(an:kindOf X.P s.o.op=.pure):
  kA X.P X.need X.ops X.r X.N (X.f X.N).env s (X.val i) (X.f c).h=true:=by
 obtain⟨eT,gV,ez,lg,kL⟩:=bg.j8 hs
 obtain⟨df,aa,ad⟩:=bg.looks i s ag hs an
 have off:∀(df:Option Nat),(∀e,df=some e->e=c/\c∉S)->jB X.P X.need X.ops X.r X.N (X.f X.N).env s (X.val i) df (X.f c).h (X.f c).aX=true->kA X.P X.need X.ops X.r X.N (X.f X.N).env s (X.val i) (X.f c).h=true:=by
  intro df yK bY
  unfold jB at bY
  rw[Bool.and_eq_true] at bY
  have aq:=bY.1
  split at aq
  · rename_i ae
    exfalso
    rw[Bool.or_eq_true] at ae
    rcases ae with ae|ae
    · cases df with
      |none=>cases ae
      |some e=>
       obtain⟨rfl,q⟩:=yK e rfl
       exact q (kL S h.closed cf _ ae)
    · cases p6:(X.f c).aX with
      |nil=>rw[p6] at ae;cases ae
      |cons p l=>
       obtain⟨e,mk,h0⟩:=p
       rw[p6] at ae
       obtain⟨aV,a6,ba,b1,rfl⟩:=B4 bg c h.af e mk h0 l p6
       have B5:=(h.du e a6 ba (by have:=h.af;omega) b1).2 aV
       exact dg ((bg.j8 ba).2.2.2.2 S h.closed (h.closed e B5) i (by rw[gV] at ae;exact ae))
  · exact aq
 have G4:∀e a6,X.steps[e]? =some a6->e=X.N->e∉S:=λe a6 _ he ah=>by have:=h.sub e ah;omega
 by_cases vV:c=X.N
 · subst vV
   exact off df (λe he=>⟨(ad e he).1,λah=>by have:=h.sub _ ah;omega⟩) aa
 · have G5:c<X.N:=by have:=h.af;omega
   rcases aH with e|⟨a6,aV,ba⟩
   · exact absurd e vV
   · obtain⟨aX,rfl,aC⟩:=vW bg X.N (Nat.le_refl _) df _ aa c a6 G5 aV ba
     refine off (some c) (λe he=>⟨by cases he;rfl,λah=>?_⟩) aC
     have:=(h.du c a6 aV G5 ba).1 ah
     omega
end
end a8
namespace a8
open Go
section
variable {X:gB}
theorem G6(bg:eV X):∀(m:Nat),m<=X.N->
  (∀e mk h0 l,(X.f m).aX=(e,mk,h0)::l->∀j a6,e<j->j<m->X.steps[j]? =some a6->kindOf X.P a6.o.op≠ .du)/\
  ((X.f m).aX=[]->∀j a6,j<m->X.steps[j]? =some a6->kindOf X.P a6.o.op≠ .du)
 |0,_=>⟨λe mk h0 l h=>(by rw[bg.p4] at h;cases h),λ_ j a6 aF=>(by omega)⟩
 |m+1,hm=>by
  obtain⟨yE,yF⟩:=G6 bg m (by omega)
  obtain⟨rD,aV,ba,_⟩:=bg.kK (i:=m) (by have:=bg.hU;omega)
  have bm:=bg.rA m rD (by omega) aV
  have same:kindOf X.P rD.o.op≠ .du->(X.f (m+1)).aX=(X.f m).aX->_:=λan he=>(⟨λe mk h0 l h j a6 aa ad aq=>by
    by_cases cn:j=m
    · subst cn;rw[aV] at aq;cases aq;exact an
    · exact yE e mk h0 l (he▸h) j a6 aa (by omega) aq,λh j a6 ad aq=>by
    by_cases cn:j=m
    · subst cn;rw[aV] at aq;cases aq;exact an
    · exact yF (he▸h) j a6 (by omega) aq⟩:
   (∀e mk h0 l,(X.f (m+1)).aX=(e,mk,h0)::l->∀j a6,e<j->j<m+1->X.steps[j]? =some a6->kindOf X.P a6.o.op≠ .du)/\((X.f (m+1)).aX=[]->∀j a6,j<m+1->X.steps[j]? =some a6->kindOf X.P a6.o.op≠ .du))
  generalize hf:X.f (m+1)=st at bm same⊢
  clear hf
  cases bm with
  |tl ek=>exact same (by rw[ek];simp) rfl
  |alloc ek=>exact same (by rw[ek];simp) rfl
  |pure ek=>exact same (by rw[ek];simp) rfl
  |du ek aQ he=>
   refine⟨λe mk h0 l h j a6 aa ad aq=>?_,λh=>by cases h⟩
   simp only[List.cons.injEq,Prod.mk.injEq] at h
   obtain⟨⟨rfl,_,_⟩,_⟩:=h
   omega
theorem Inv.G7(bg:eV X){S:List Nat}{c:Nat}{μ:bb}{w:World}{a:Act}{cs:List Frame}(h:Inv X S c μ w a cs)(aH:Norm X c){i:Nat}(ag:i<=X.N)(dg:i∉S)(cf:jL X.ops S i){s:DStep}(hs:X.steps[i]? =some s)
  (an:kindOf X.P s.o.op=.du)(aQ:∀e m h0 l,(X.f i).aX=(e,m,h0)::l->Nat.testBit s.ed e=true):i=c:=by
 obtain⟨eT,gV,ez,lg,kL⟩:=bg.j8 hs
 have F7:c<=i:=by
  rcases Nat.lt_or_ge i X.N with aa|aa
  · have:=h.du i s hs aa an
    rcases Nat.lt_or_ge i c with ad|ad
    · exact absurd (this.2 ad) dg
    · exact ad
  · have:=h.af;omega
 rcases Nat.lt_or_ge c i with bX|tt
 · exfalso
   rcases aH with e|⟨a6,aV,ba⟩
   · omega
   · obtain⟨r1,r2⟩:=G6 bg i ag
     cases p6:(X.f i).aX with
     |nil=>exact r2 p6 c a6 bX aV ba
     |cons p l=>
      obtain⟨e,mk,h0⟩:=p
      obtain⟨eH,s2,fB,j4,_⟩:=B4 bg i ag e mk h0 l p6
      have B5:=kL S h.closed cf e (aQ e mk h0 l p6)
      have Pc:=(h.du e s2 fB (by omega) j4).1 B5
      exact r1 e mk h0 l p6 c a6 Pc bX aV ba
 · omega
theorem Inv.Pd(bg:eV X){S:List Nat}{c:Nat}{μ:bb}{w:World}{a:Act}{cs:List Frame}(h:Inv X S c μ w a cs){i:Nat}(ag:i<X.N)(dg:i∉S)(cf:jL X.ops S i){s:DStep}(hs:X.steps[i]? =some s){v:I}{cE:cX}(gC:p5 X i s v cE)(aD:X.val i=v)(rest:List Nat)(k:List Item):
  ∃aK w' cb,Steps X.P (lone (X.b.atR a (.inRegion X.ops (i::rest)::k)) cs w) (lone (X.b.atR cb (.inRegion X.ops rest::k)) cs w')/\Inv X (i::S) c aK w' cb cs:=by
 obtain⟨eT,gV,ez,lg,kL⟩:=bg.j8 hs
 obtain⟨_,an,hw,aw⟩:=gC
 have By:=B3 bg h (Nat.le_of_lt ag) dg cf hs _ hw
 rw[vO _ _ (yH (ops:=X.ops))] at aw
 obtain⟨u,O,sz,ar⟩:=Of (P:=X.P) (w:=w) s.o (G2 bg h (Nat.le_of_lt ag) dg cf hs) aw
 have bY:=stepGR_op (P:=X.P) (b:=X.b) (a:=a) (k:=k) (cs:=cs) (w:=w) (rest:=rest) ez By
 have rm:s.o.semAt X.b.roundOf a.eval=execOp a.eval s.o:=Oper.semAt_eq _ _ _ λyL e=>by rw[e] at an;cases an
 rw[rm] at bY
 obtain⟨al,_⟩:=yg bY
 have gW:=al _ _ ar.run
 have k7:(X.b.atR a (.inRegion X.ops (i::rest)::k)).finish u=X.b.atR (a.put s.o.dst u) (.inRegion X.ops rest::k):=by
  rw[Frame.finish_atR,ez];rfl
 rw[k7] at gW
 have gS:=h.dy i eT dg
 have G3:=h.tq
 have hD:∀o,(X.f c).h.get (X.H.n+i)=some o->o=cE:=λo aj=>by
  rcases Nat.lt_or_ge i c with bX|tt
  · have:=h.lay i s v cE hs ⟨ag,an,hw,by rw[vO _ _ (yH (ops:=X.ops))];exact aw⟩ dg bX
    rw[aj] at this;cases this;rfl
  · rw[h.mT i tt eT] at aj;cases aj
 obtain⟨hle,gz⟩:=h.rel.early (b:=X.H.n+i) (by omega) gS hD ar.obj
 have jq:=h.nO.early bg.yB (b:=X.H.n+i) (by omega) gS (O:=O) (sz:=sz)
 have Pe:a2 (eG μ (X.H.n+i) ⟨w.heap.size,0,sz⟩) (X.val i) u:=by rw[aD];exact ar.val _ hle (fl _ _ _)
 refine⟨eG μ (X.H.n+i) ⟨w.heap.size,0,sz⟩,_,_,gW,?_⟩
 have hm:∀{j},jL X.ops S j->jL X.ops (i::S) j:=λah o aQ e he ae=>List.mem_cons_of_mem _ (ah o aQ e he ae)
 refine⟨h.af,λj aF=>?_,λj aF=>?_,λj a6 aa ad aq=>?_,gz,jq,?_,h.qr.mono hle,λj aa ad=>?_,λj a6 v cE aa ad aq aC=>h.lay j a6 v cE aa ad (λah=>aq (List.mem_cons_of_mem _ ah)) aC,h.mT,h.tq,λj a6 v' B2 aa ad aq aC=>?_,bg.GX h.closed h.sz (h.k2.mono hle) dg cf hs Pe,(vH _ _ _).trans h.sz⟩
 · rcases List.mem_cons.1 aF with rfl|aF
   · exact hm cf
   · exact hm (h.closed j aF)
 · rcases List.mem_cons.1 aF with rfl|aF
   · exact ag
   · exact h.sub j aF
 · have mA:j≠i:=by intro e;subst e;rw[hs] at aa;cases aa;rw[an] at aq;cases aq
   rw[List.mem_cons]
   simp only[mA,false_or]
   exact h.du j a6 aa ad aq
 · rw[put_defers];exact h.tp.mono hle
 · have mA:j≠i:=λe=>ad (by simp[e])
   rw[gh _ _ (by omega)]
   exact h.dy j aa (λah=>ad (List.mem_cons_of_mem _ ah))
 · rcases List.mem_cons.1 aq with e|aq
   · subst e
     rw[hs] at aa;cases aa
     have:=ad.2.2.2
     rw[vO _ _ (yH (ops:=X.ops)),aw] at this
     cases this
     refine⟨⟨w.heap.size,0,sz⟩,O,fl _ _ _,World.heap_alloc_new _ _,λaK w' s5 jM=>ar.obj aK w' (hle.trans s5) jM,λd hB ak aF=>?_⟩
     rw[gh _ _ ak] at aF
     have:=(h.rel.lt d hB aF).2
     simp only;omega
   · exact(h.eZ j a6 v' B2 aa ad aq aC).early h.rel gS
theorem B6(bg:eV X){i:Nat}(ag:i<=X.N):BC i (hQ (X.ops.toList.take i) 0 []):=λt a aw=>by
 obtain⟨j,o,aa,rfl,_⟩:=(vS X.ops.toList t i (by have:=bg.hU;simp;omega)).1 a aw
 exact aa
theorem Inv.step(bg:eV X){S:List Nat}{c:Nat}{μ:bb}{w:World}{a:Act}{cs:List Frame}(h:Inv X S c μ w a cs){i:Nat}(ag:i<X.N)(dg:i∉S)(cf:jL X.ops S i)(rest:List Nat)(k:List Item):
  ∃c' aK w' cb bw,Steps X.P (lone (X.b.atR a (.inRegion X.ops (i::rest)::k)) cs w) (lone (X.b.atR cb (.inRegion X.ops rest::k)) bw w')/\Inv X (i::S) c' aK w' cb bw:=by
 obtain⟨c,aH,h⟩:=h.norm bg _ _ rfl
 obtain⟨s,hs,gV,ez,_⟩:=bg.kK (i:=i) (by have:=bg.hU;omega)
 have bm:=bg.rA i s ag hs
 have hle:=Nat.le_of_lt ag
 generalize hf:X.f (i+1)=st at bm
 cases bm with
 |tl an hw=>
  have aD:=bg.yD ag (v:=.aJ []) (by rw[hf])
  have vC:=B3 bg h hle dg cf hs _ hw
  have ox:=stepR_op_skip (P:=X.P) (b:=X.b) (a:=a) (k:=k) (cs:=cs) (w:=w) (ops:=X.ops) (i:=i) (rest:=rest) (by simp[ez,vC])
  rw[ez] at ox
  have he:a.put ((some s.o).bind (·.dst)) undef={tmps:=(a.put s.o.dst undef).tmps,defers:=a.defers}:=yh a s.o.dst undef
  rw[he] at ox
  refine⟨c,μ,w,_,cs,.one ox,h.yI bg ag dg cf hs (λv cE gC=>?_) (by rw[aD];exact⟨[],rfl,rfl⟩) h.rel (bN.refl _ _ _) h.tp h.qr (.inl ⟨rfl,by rw[an];simp⟩)⟩
  have:=gC.2.2.1
  rw[hw] at this;cases this
 |alloc an hw aw=>
  rename_i v cE
  have aD:=bg.yD ag (v:=v) (by rw[hf])
  obtain⟨aK,w',cb,aa,ad⟩:=h.Pd bg ag dg cf hs ⟨ag,an,hw,by rw[<-gV];rw[<-gV] at aw;exact aw⟩ aD rest k
  exact⟨c,aK,w',cb,cs,aa,ad⟩
 |pure an he=>
  rename_i v aW a0 ao
  have aD:=bg.yD ag (v:=v) (by rw[hf])
  have jr:=h.looks bg aH ag dg cf hs an
  have eU:=h.one bg hle dg cf hs rest k
  have fp:fN X.P X.need X.ops X.r X.N (X.f X.N).env s=fN X.P X.need X.ops X.r s.i (X.f i).env s:=by
   unfold fN il
   cases B7:s.o.guard with
   |none=>rfl
   |some p=>
    obtain⟨j,eC⟩:=p
    simp only
    cases Yf:(X.ops[j]?).bind (·.dst) with
    |none=>rfl
    |some t=>
     simp only
     rw[gV,bg.GS hle (by rw[(bg.j8 hs).2.2.2.1];exact yk (B6 bg hle) _)]
  have p7:∀x,c1 X.N (X.f X.N).env X.r (cl X.P X.need s.loc x)=kJ X.P X.need X.r s (X.f i).env x:=λx=>by
   unfold kJ
   rw[gV,bg.GS hle (by rw[(bg.j8 hs).2.2.2.1];exact yk (B6 bg hle) _)]
  unfold kA at jr
  rw[fp] at jr
  have p1:(λx=>c1 X.N (X.f X.N).env X.r (cl X.P X.need s.loc x))=kJ X.P X.need X.r s (X.f i).env:=funext p7
  rw[p1] at jr
  have yM:∀v cE,¬p5 X i s v cE:=λv cE gC=>by have:=gC.2.1;rw[an] at this;cases this
  have cF:kindOf X.P s.o.op≠ .du:=by rw[an];simp
  unfold dc at eU he
  cases G8:dC (fN X.P X.need X.ops X.r s.i (X.f i).env s) with
  |none=>rw[G8] at jr;cases jr
  |some eC=>
   rw[G8] at jr eU he
   cases eC with
   |false=>
    simp only at eU he
    cases he
    obtain⟨aK,w',u,rl,bw,s1,s2,cq,b9,cg,cT⟩:=eU
    exact⟨c,aK,w',_,bw,s1,h.yI bg ag dg cf hs yM (by rw[aD];exact s2) cq b9 cg cT (.inl ⟨rfl,cF⟩)⟩
   |true=>
    simp only at jr eU
    split at jr
    · rename_i v' B8 eD
      rw[eD] at eU
      simp only at eU
      have Pf:=beq_eq _ _ jr
      have Pg:=O2 an eD
      rw[Pg] at eU
      obtain⟨aK,w',u,rl,bw,s1,s2,cq,b9,cg,cT⟩:=eU
      exact⟨c,aK,w',_,bw,s1,h.yI bg ag dg cf hs yM (by rw[<-Pf];exact s2) cq b9 cg cT (.inl ⟨rfl,cF⟩)⟩
    · cases jr
 |du an aQ he=>
  rename_i v aW a0 ao
  have aD:=bg.yD ag (v:=v) (by rw[hf])
  have oM:=h.G7 bg aH hle dg cf hs an aQ
  have eU:=h.one bg hle dg cf hs rest k
  have yM:∀v cE,¬p5 X i s v cE:=λv cE gC=>by have:=gC.2.1;rw[an] at this;cases this
  rw[<-oM,he] at eU
  obtain⟨aK,w',u,rl,bw,s1,s2,cq,b9,cg,cT⟩:=eU
  have ax:(X.f (c+1)).h=ao:=by rw[<-oM,hf]
  have av:(X.f (c+1)).d=aW:=by rw[<-oM,hf]
  have bq:(X.f (c+1)).q=a0:=by rw[<-oM,hf]
  exact⟨c+1,aK,w',_,bw,s1,h.yI bg ag dg cf hs yM (by rw[aD];exact s2) (by rw[ax];exact cq) (by rw[ax,<-oM];exact b9) (by rw[av];exact cg) (by rw[bq];exact cT) (.inr ⟨rfl,oM⟩)⟩
end
end a8
namespace a8
open Go
section
variable {X:gB}
def gB.ends(X:gB)(k:List Item)(eN:Machine)(res:k3):Prop:=mL X.P X.need X.bx X.lf X.r X.H X.fO X.b k X.cs0 eN (hQ X.ops.toList 0 []) res
theorem gB.B9{k:List Item}{eN aR:Machine}{res:k3}(h:Steps X.P eN aR)(ao:X.ends k aR res):X.ends k eN res:=by
 unfold gB.ends at*
 cases res with
 |ok env d q aI=>obtain⟨aK,w',cb,bw,s1,s2⟩:=ao;exact⟨aK,w',cb,bw,h.trans s1,s2⟩
 |bK v d q aI=>obtain⟨aK,w',cb,bw,u,b2,s1,s2⟩:=ao;exact⟨aK,w',cb,bw,u,b2,h.trans s1,s2⟩
 |fail s=>trivial
structure B_(X:gB)(res:k3):Prop where
 ok:X.N=X.ops.size->res=.ok (X.f X.N).env (X.f X.N).d (X.f X.N).q (X.f X.N).h
 bK:X.N<X.ops.size->∀s,X.steps[X.N]? =some s->∃v aW a0 ao,dc X.P X.inR X.call (fN X.P X.need X.ops X.r s.i (X.f X.N).env s) s.o (kJ X.P X.need X.r s (X.f X.N).env) (X.f X.N).d (X.f X.N).q (X.f X.N).h=.bK v aW a0 ao/\res=.bK v aW a0 ao
theorem Inv.order(bg:eV X){res:k3}(eI:B_ X res)(k:List Item):∀(L S:List Nat) (c:Nat) (μ:bb) (w:World) (a:Act) (cs:List Frame),ru X.ops S L->Inv X S c μ w a cs->X.ends k (lone (X.b.atR a (.inRegion X.ops L::k)) cs w) res
 |[],S,c,μ,w,a,cs,aQ,h=>by
  have dx:∀i,i<X.ops.size->i∈S:=aQ
  have hU:X.N=X.ops.size:=by
   have:=bg.hU
   rcases Nat.lt_or_ge X.N X.ops.size with bX|tt
   · have:=h.sub _ (dx _ bX);omega
   · omega
  obtain⟨c,aH,h⟩:=h.norm bg _ _ rfl
  have G4:c=X.N:=by
   rcases aH with e|⟨s,aV,ba⟩
   · exact e
   · have:=h.af
     rcases Nat.lt_or_ge c X.N with bX|tt
     · have:=(h.du c s aV bX ba).1 (dx c (by omega));omega
     · omega
  subst G4
  rw[eI.ok hU]
  have hlen:=bg.yC X.N (Nat.le_refl _)
  have G9:X.ops.toList.take X.N=X.ops.toList:=by rw[hU];exact List.take_of_length_le (by simp)
  have lg:=B6 bg (Nat.le_refl X.N)
  rw[G9] at lg
  refine⟨μ,w,a,cs,.one stepR_region_end,⟨by rw[hlen];exact lg,λt=>?_⟩,h.sz,h.rel,h.nO,h.tp,h.qr⟩
  rw[hlen]
  obtain⟨f1,f2⟩:=vS X.ops.toList t X.N (by simp;omega)
  rw[G9] at f1 f2
  simp only[cl]
  cases hf:g4 t (hQ X.ops.toList 0 []) with
  |some ac=>
   obtain⟨j,o,aF,rfl,k6,ak,pG⟩:=f1 ac hf
   have:=(h.k2 t).1 j o (dx j (by omega)) (by simpa using k6) ak λk o' an hn k8=>by
    rcases Nat.lt_or_ge j k with bX|tt
    · exact absurd k8 (pG k o' bX (h.sub k an) (by simpa using hn))
    · exact tt
   exact this
  |none=>
   simp only[]
   cases ae:Nat.testBit X.need t with
   |false=>trivial
   |true=>
    exact(h.k2 t).2 (λj o aF hn ak=>f2 hf j o (h.sub j aF) (by simpa using hn) ak) ae
 |i::L,S,c,μ,w,a,cs,aQ,h=>by
  obtain⟨ag,dg,cf,lU⟩:=aQ
  rcases Nat.lt_trichotomy i X.N with bX|heq|rE
  · obtain⟨c',aK,w',cb,bw,aa,ad⟩:=h.step bg bX dg cf L k
    exact gB.B9 aa (Inv.order bg eI k L (i::S) c' aK w' cb bw lU ad)
  ·
   obtain⟨s,hs,gV,ez,_⟩:=bg.kK ag
   obtain⟨c,aH,h⟩:=h.norm bg _ _ rfl
   rw[heq] at hs
   obtain⟨bW,cM,eW⟩:=bg.last s hs
   rw[<-heq] at hs cM
   have oM:=h.G7 bg aH (Nat.le_of_eq heq) dg cf hs bW cM
   have eU:=h.one bg (Nat.le_of_eq heq) dg cf hs L k
   obtain⟨v,aW,a0,ao,ax,av⟩:=eI.bK (by omega) s (by rw[<-heq];exact hs)
   rw[<-heq] at ax
   rw[<-oM,ax] at eU
   rw[av]
   obtain⟨aK,w',u,s1,s2,cq,b9,cg,cT⟩:=eU
   rw[oM] at b9
   refine⟨aK,w',a,cs,u,_,s1,trivial,s2,λt bm ae=>?_,h.sz,cq,bN.trans bg.yB h.rel h.nO b9,cg,cT⟩
   obtain⟨f1,f2⟩:=vS X.ops.toList t X.ops.toList.length (Nat.le_refl _)
   rw[List.take_length] at f2
   have:=(h.k2 t).2 (λj o aF hn ak=>f2 bm j o (by have:=h.sub j aF;have:=bg.hU;simp;omega) (by simpa using hn) ak) ae
   exact this.mono b9.le
  · exfalso
    obtain⟨s,hs,_⟩:=bg.kK (i:=X.N) (by omega)
    obtain⟨a6,c_,_,_,_,kL⟩:=bg.kK ag
    have:=(bg.last s hs).2.2 i a6 rE c_
    rw[(bg.j8 hs).2.1] at this
    have:=h.sub _ (kL S h.closed cf _ this)
    omega
end
section
variable {P:Program}
theorem G_{need:Nat}{ops:Array Oper}{r:aN}{n:Nat}{env:List I}{last:Option Nat}{h:ab}{aX:List (Nat×Nat×ab)}:∀{l:List DStep},j3 P need ops r n env last h aX l=true->∀s∈l,s.i<n->kindOf P s.o.op=.pure->jB P need ops r n env s ((nth (n-1-s.i) env).getD .bad) last h aX=true
 |[],_,s,hs,_,_=>by cases hs
 |x::l,ar,s,hs,ag,an=>by
  simp only[j3,Bool.and_eq_true] at ar
  rcases List.mem_cons.1 hs with rfl|hs
  · have aa:=ar.1
    have ae:Nat.blt s.i n=true:=by simpa using ag
    rw[ae,an] at aa
    exact aa
  · exact G_ ar.2 s hs ag an
theorem Ha(hm:P.follows .mixedOrders=true){call:dB->List I->ab->a7}(af:h6 P call)(need bx:Nat):k_ P need bx call:=by
 intro ops id jn hdr b inR r d q H μ w a k cs0 cs eT ai bh ah aj ak aE
 unfold qU
 simp only
 obtain⟨la,js⟩:∃la:ry,la=⟨[],d,q,⟨H.t,H.n+ops.size⟩,[]⟩:=⟨_,rfl⟩
 obtain⟨res,hT⟩:∃res,fg P need inR call ops r H.n (ei ops.toList 0 [] []) [] d q ⟨H.t,H.n+ops.size⟩ []=res:=⟨_,rfl⟩
 rw[hT]
 by_cases Hb:∃iG,res=.fail iG
 · obtain⟨iG,e⟩:=Hb;subst e;trivial
 have Ca:∀iG,res≠ .fail iG:=λiG e=>Hb ⟨iG,e⟩
 have Ph:fg P need inR call ops r H.n (ei ops.toList 0 [] []) la.env la.d la.q la.h la.aX=res:=by rw[js];exact hT
 obtain⟨f,N,f0,hU,Hc,tr⟩:=GP _ _ _ Ph Ca
 have hlen:(ei ops.toList 0 [] []).length=ops.size:=by rw[BV];simp
 rw[hlen] at hU
 have Hd:∀m,m<=N->(f m).env.length=m:=λm=>by
  induction m with
  |zero=>intro _;rw[f0,js];rfl
  |succ m a3=>
   intro s4
   have hs:(ei ops.toList 0 [] [])[m]? =some (ei ops.toList 0 [] [])[m]:=List.getElem?_eq_getElem (by omega)
   have bm:=Hc m _ (by omega) hs
   have Cb:=a3 (by omega)
   generalize f (m+1)=st at bm
   cases bm<;>simp[Cb]
 let X:gB:={P:=P,need:=need,bx:=bx,inR:=inR,call:=call,ops:=ops,r:=r,b:=b,lf:=μ,H:=H,fO:=w,cs0:=cs0,N:=N,f:=f}
 let cz:World:={w with drawn:=w.drawn+1}
 have nN:∀o i,ops[i]? =some o->mz o i=true:=λo i aQ=>by
  have ag:i<ops.size:=(Array.getElem?_eq_some_iff.1 aQ).1
  have hn:ops.toList[i]? =some o:=by simpa using aQ
  obtain⟨s,aa,ad,aq,_⟩:=vR (ops:=ops) ops.toList 0 [] [] (λk=>by simp) (tj hdr) (λj aF=>by omega) i o hn
  have:=tj hdr s (List.mem_of_getElem? aa)
  rw[aq] at this
  have vX:s.i=i:=by omega
  rw[vX] at this;exact this
 have j9:=O1 nN (w.tape w.drawn (.order b.fn id))
 have dW:Steps P (lone (b.atR a (.code (.region id ops true)::k)) cs w) (lone (b.atR a (.inRegion ops (Region.schedule true ops (w.tape w.drawn (.order b.fn id)))::k)) cs cz):=by
  have:=stepR_region_draw (P:=P) (b:=b) (a:=a) (k:=k) (cs:=cs) (w:=w) (ops:=ops) (id:=id)
  rw[hm] at this
  exact .one this
 have hinv:Inv X [] 0 μ cz a cs:=by
  refine⟨Nat.zero_le _,(λj aF=>by cases aF),(λj aF=>by cases aF),(λi s aa ad aq=>⟨λaF=>(by cases aF),λaF=>(by omega)⟩),?_,?_,?_,?_,λi ag _=>?_,(λi s v cE aa ad aq aC=>by omega),λi ag ad=>?_,?_,(λi s v cE aa ad aq aC=>by cases aq),?_,bh⟩
  · show bc μ (f 0).h cz
    rw[f0,js]
    exact⟨λeC o i ae ag=>(ah.rel eC o i ae ag).mono (ej.refl μ) rfl,ah.inj,λeC i ag=>⟨Nat.lt_of_lt_of_le (ah.lt eC i ag).1 (Nat.le_add_right _ _),(ah.lt eC i ag).2⟩,λeC ae=>ah.bound eC (Nat.le_trans (Nat.le_add_right _ _) ae)⟩
  · show bN μ H w μ (f 0).h cz
    rw[f0,js]
    exact⟨ej.refl μ,Nat.le_refl _,Nat.le_add_right _ _,λ_ _ ar=>ar,λ_ _ _=>rfl,λ_ _ _=>rfl,(λeC i aa ad=>by rw[aa] at ad;cases ad),λ_ _ _ ae _ _=>⟨ae,rfl⟩,rfl,rfl,rfl,Nat.le_succ _⟩
  · show fh μ (f 0).d a.defers
    rw[f0,js];exact ak
  · show gA μ b.kind cs0 (f 0).q cs
    rw[f0,js];exact aE
  · show μ (H.n+i)=none
    cases e:μ (H.n+i) with
    |none=>rfl
    |some dy=>have:=(ah.lt _ dy e).1;omega
  · show(f 0).h.get (H.n+i)=none
    rw[f0,js]
    exact ah.bound (H.n+i) (Nat.le_add_right _ _)
  · show H.n+ops.size<=(f 0).h.n
    rw[f0,js];exact Nat.le_refl _
  · intro t
    exact⟨λj o aF=>(by cases aF),λ_ ae=>ai t ae⟩
 have He:∀(df:Option Nat) (jr:j3 P need ops r (f N).env.length (f N).env df (f N).h (f N).aX (ei ops.toList 0 [] [])=true) (yK:∀e,df=some e->e=N/\N<ops.size)
   (pG:∀s,(ei ops.toList 0 [] [])[N]? =some s->kindOf P s.o.op=.du/\(∀e m h0 l,(f N).aX=(e,m,h0)::l->Nat.testBit s.ed e=true)/\∀k a6,N<k->(ei ops.toList 0 [] [])[k]? =some a6->Nat.testBit a6.ed s.i=true),eV X:=by
  intro df jr yK pG
  refine⟨af,eT,jn,hdr,hU,Hc,by show(f 0).env=[];rw[f0,js],by show(f 0).aX=[];rw[f0,js],λi s ag hs an=>?_,pG,aj,ah⟩
  have gV:s.i=i:=by
   have Cc:i<ops.size:=Nat.lt_of_lt_of_le ag hU
   obtain⟨a6,aa,ad,_⟩:=vR (ops:=ops) ops.toList 0 [] [] (λk=>by simp) (tj hdr) (λj aF=>by omega) i _ (show ops.toList[i]? =some ops[i] by simp[Cc])
   have iW:(ei ops.toList 0 [] [])[i]? =some s:=hs
   rw[aa] at iW;cases iW;omega
  have:=G_ jr s (List.mem_of_getElem? hs) (by rw[Hd N (Nat.le_refl _),gV];exact ag) an
  rw[Hd N (Nat.le_refl _),gV] at this
  exact⟨df,this,yK⟩
 rcases tr with⟨Yg,J⟩|⟨s,hs,an,aQ,Pj,v,aW,a0,ao,he,J⟩
 · subst J
   simp only
   cases jr:j3 P need ops r (f N).env.length (f N).env none (f N).h (f N).aX (ei ops.toList 0 [] []) with
   |false=>trivial
   |true=>
    simp only
    have bg:=He none jr (λe he=>by cases he) (λs hs=>by rw[List.getElem?_eq_none (by omega)] at hs;cases hs)
    have eI:B_ X (.ok (f N).env (f N).d (f N).q (f N).h):=⟨λ_=>rfl,λbX=>by
     have A5:N<ops.size:=bX
     omega⟩
    exact gB.B9 (X:=X) dW (Inv.order bg eI k _ [] 0 μ cz a cs j9 hinv)
 · subst J
   simp only
   have gV:s.i=N:=by
    have Cc:N<ops.size:=by have:=(List.getElem?_eq_some_iff.1 hs).1;omega
    obtain⟨a6,aa,ad,_⟩:=vR (ops:=ops) ops.toList 0 [] [] (λk=>by simp) (tj hdr) (λj aF=>by omega) N _ (show ops.toList[N]? =some ops[N] by simp[Cc])
    rw[aa] at hs;cases hs;omega
   have Pk:N<ops.size:=by have:=(List.getElem?_eq_some_iff.1 hs).1;omega
   cases jr:j3 P need ops r (f N).env.length (f N).env (some s.i) (f N).h (f N).aX (ei ops.toList 0 [] []) with
   |false=>trivial
   |true=>
    simp only
    have bg:=He (some s.i) jr (λe he=>by cases he;exact⟨gV,Pk⟩) (λa6 c_=>by rw[hs] at c_;cases c_;exact⟨an,aQ,Pj⟩)
    have eI:B_ X (.bK v aW a0 ao):=⟨λe=>by
     have cn:N=ops.size:=e
     omega,λ_ a6 c_=>by
     have iW:(ei ops.toList 0 [] [])[N]? =some a6:=c_
     rw[hs] at iW;cases iW
     exact⟨v,aW,a0,ao,he,rfl⟩⟩
    exact gB.B9 (X:=X) dW (Inv.order bg eI k _ [] 0 μ cz a cs j9 hinv)
structure Fit(P:Program):Prop where
 mixed:P.follows .mixedOrders=true
 code:te P
 ext:yx P
theorem Cd(hf:Fit P){intr:Nat->List I->ab->Option (I×ab)}(ag:l6 P intr)(n:Nat):h6 P (et P intr n):=
 GJ ag (λcall af need bx=>Ha hf.mixed af need bx) hf.code hf.ext n
end
end a8
namespace a8
open Go Go.RowKit Go.ChangeShapes Go.WideShapes
section
variable {P:Program}
def Pl(P:Program):Bool:=P.funcs.toList.all λfn=>match fn.body with
 |some c=>gx fn.ntmps c&&!(fn.name== "runtime.NumGoroutine")
 |none=>true
def Pm(P:Program):Bool:=P.funcs.toList.all λfn=>match fn.body with
 |some _=>true
 |none=>!p2.contains fn.name||(Extern.findNext fn).isNone
theorem Hf{g:FuncId}{gw:Func}(h:P.funcs[g]? =some gw):gw∈P.funcs.toList:=by
 rw[<-Array.getElem?_toList] at h;exact List.mem_of_getElem? h
theorem Pn(hm:P.follows .mixedOrders=true)(af:Pl P=true)(he:Pm P=true):Fit P where
 mixed:=hm
 code:=λg gw gc aj ae=>by
  have:=List.all_eq_true.1 af gw (Hf aj)
  rw[ae] at this
  simp only[Bool.and_eq_true,Bool.not_eq_true'] at this
  exact this
 ext:=λg gw aj ae aH=>by
  have:=List.all_eq_true.1 he gw (Hf aj)
  rw[ae] at this
  simp only[Bool.or_eq_true,Bool.not_eq_true',List.contains_eq_mem,decide_eq_false_iff_not] at this
  rcases this with h|h
  · exact absurd aH h
  · simpa using h
def vY(H:ab):Prop:=∀b o,H.get b=some o->o.nB=true
theorem bN.below{μ aK:bb}{H aI:ab}{W ho:World}(ai:vY H)(ah:bc μ H W)(h:bN μ H W aK aI ho):Below W.heap.size W ho:=by
 refine⟨h.os,h.tape,h.out,h.size,λr bX=>?_⟩
 by_cases he:∃b i,H.get b≠none/\μ b=some i/\i.a1=r
 · obtain⟨b,i,aa,ad,rfl⟩:=he
   cases aj:H.get b with
   |none=>exact absurd aj aa
   |some o=>exact(h.ro b o i aj (ai b o aj) ad).2
 · exact h.old r bX λb i aa ad aq=>he ⟨b,i,aa,ad,aq⟩
def vZ(G:Nat):bb:=λb=>if b<G then some ⟨b,0,0⟩ else none
theorem Po{W:World}(iH:P.globals.size<=W.heap.size):bc (vZ P.globals.size) (py P.globals.size) W/\gm P (vZ P.globals.size)/\vY (py P.globals.size):=by
 have aH:∀b,(py P.globals.size).get b=none:=λb=>rfl
 refine⟨⟨λb o i h=>(by rw[aH] at h;cases h),λb c i j h=>absurd (aH b) h,λb i h=>?_,λb _=>aH b⟩,λg aj=>⟨⟨g,0,0⟩,by simp[vZ,aj],rfl,rfl⟩,λb o h=>(by rw[aH] at h;cases h)⟩
 unfold vZ at h
 split at h
 · rename_i ae;cases h;exact⟨ae,Nat.lt_of_lt_of_le ae iH⟩
 · cases h
theorem Pp(hf:Fit P){intr:Nat->List I->ab->Option (I×ab)}(ag:l6 P intr){n:Nat}{f:Nat}{fn:Func}{c:Code}(l2:P.funcs[f]? =some fn)(ae:fn.body=some c){args:List I}{H:ab}{v:I}{aI:ab}
  (dW:et P intr n (.fn f) args H=.ret v aI){μ:bb}{W:World}{vs:List Value}(ah:bc μ H W)(aj:gm P μ)(aD:bP μ args vs):
  Calls P f ⟨vs⟩ W λe ho=>∃aK u,e=.returned u/\a2 aK v u/\bc aK aI ho/\bN μ H W aK aI ho:=by
 have aa:=(Cd hf ag n).fn f args H (by rw[dW];rfl) μ W vs ah aj aD
 rw[dW] at aa
 obtain⟨_,BS⟩:=hf.code f fn c l2 ae
 have he:=yu l2 ae BS ⟨vs⟩ W
 rcases aa with⟨v',w',aV,_⟩|⟨_,ba⟩
 · rw[he] at aV;cases aV
 · exact ba.mono λe ho h=>h
def yN:a7->Bool
 |.ret (.bool true) _=>true
 |_=>false
theorem Pq{r:a7}(h:yN r=true):∃H,r=.ret (.bool true) H:=by
 unfold yN at h
 split at h
 · exact⟨_,rfl⟩
 · cases h
theorem Pr(hf:Fit P){intr:Nat->List I->ab->Option (I×ab)}(ag:l6 P intr){n:Nat}{f:Nat}{fn:Func}{c:Code}(l2:P.funcs[f]? =some fn)(ae:fn.body=some c){args:List I}{H:ab}
  (dW:yN (et P intr n (.fn f) args H)=true){μ:bb}{W:World}{vs:List Value}(ah:bc μ H W)(ai:vY H)(aj:gm P μ)(aD:bP μ args vs):
  Calls P f ⟨vs⟩ W λe ho=>e=.returned (.bool true)/\Below W.heap.size W ho:=by
 obtain⟨aI,e⟩:=Pq dW
 exact(Pp hf ag l2 ae e ah aj aD).mono λe ho ⟨aK,u,aa,ad,aq,aC⟩=>⟨by cases ad;exact aa,aC.below ai ah⟩
def Ce(P:Program):Bool:=match P.globals.size with
 |0=>true
 |g+1=>(((begin P (λ_ _=>0) default).world.heap[g]?).bind Obj.row?).isSome
theorem Ps{W:World}(hs:W.ShapedOpen P)(ae:Ce P=true):P.globals.size<=W.heap.size:=by
 unfold Ce at ae
 cases aj:P.globals.size with
 |zero=>exact Nat.zero_le _
 |succ g=>
  rw[aj] at ae
  simp only at ae
  obtain⟨⟨zero,t⟩,J⟩:=Option.isSome_iff_exists.1 ae
  obtain⟨cs,aa,_⟩:=hs.1 g zero t (by omega) J
  have:=(Array.getElem?_eq_some_iff.1 aa).1
  omega
variable {H:Type} {enc:TypeId×Value->H}
theorem Hg(ar:laidOutB P=true){W ho:World}(ae:Below W.heap.size W ho){sp:Nat->Bool}:∀{cu:List TypeId} {vs:List Value} {ds:List (DataW H)} {ps:List MemPlace},(∀t∈cu,P.readableRec t=true/\t<P.types.size)->
  DataW.TrodAll enc P W 0 (λ_=>true) true cu vs ds ps->(∀x∈ps,x.block<W.heap.size/\sp x.block=true)->DataW.TrodAll enc P ho 0 sp true cu vs ds ps
 |[],[],[],_,_,h,_=>h
 |_::_,_::_,_::_,_,oN,⟨p,q,aa,ad,e⟩,hs=>
  ⟨p,q,WideElems.Trod_stays ar (oN _ (by simp)).1 (oN _ (by simp)).2 aa (λx J=>ae.same (hs x (by rw[e];simp[J])).1) (λx J=>(hs x (by rw[e];simp[J])).2),
    Hg ar ae (λt bm=>oN t (by simp[bm])) ad (λx J=>hs x (by rw[e];simp[J])),e⟩
theorem Pt{f:Func}{s:ChangeSpec}{apart fresh handsOn again:Bool}{W ho:World}{args:Array Value}{ds gs:List (DataW H)}{before:List MemPlace}{hE:TypeId}
  (ar:laidOutB P=true)(oN:∀t∈f.params.toList,P.readableRec t=true/\t<P.types.size)(hT:f.resultTypes=#[hE])(tu:P.underlying hE=some .bool)(Cf:s.vars=[])
  (iH:DataW.Whole enc P f.params.toList s.vars apart W args.toList ds gs before)(l2:s.fn H ds={results:=[.lit (.bool true)],args:=ds})(ae:Below W.heap.size W ho):
  s.post enc P f apart fresh handsOn again W args (.bool true) ho:=by
 have bX:∀p∈before,p.block<W.heap.size:=λp aL=>iH.lt p aL
 have Pu:=iH
 obtain⟨p8,Bu,h8,fY,rfl,aP,aH⟩:=iH
 rw[Cf] at fY
 obtain⟨rfl,rfl⟩:=trodVars_none fY
 have e:s.fn H (ds++[])={results:=[.lit (.bool true)],args:=ds}:=by rw[List.append_nil];exact l2
 have gD:∀sp:Nat->Bool,(∀p∈p8++[],sp p.block=true)->DataW.TrodAll enc P ho 0 sp true f.params.toList args.toList ds p8:=λsp Pv=>
  Hg ar ae oN h8 (λx J=>⟨bX x (by simp[J]),Pv x (by simp[J])⟩)
 have eU:∀(b:Nat) (sp:Nat->Bool) (ak:Bool),DataW.TrodAll enc P ho b sp ak f.resultTypes.toList ((Value.bool true).resultList f.resultTypes.size) [.lit (.bool true)] []:=λb sp ak=>by
  rw[hT];exact trodAll_mk1 (shut_bool tu true)
 refine⟨ds,[],p8++[],[],p8,[],Pu,?_,?_,?_,World.keptBut_mono (λp aL=>⟨aL,?_⟩) (ae.frame (· ∈p8++[])),λ_=>?_⟩
 · rw[e];exact eU _ _ _
 · rw[e];exact gD _ λp aL=>by simpa using bX p aL
 · rw[e,Cf];rfl
 · exact Or.inr (by simpa using aL)
 · refine⟨ok_one hT rfl (okWide_bool_mk tu true),_,_,([]++p8)++[],⟨[]++p8,[],trodAll_append (gD _ (λ_ _=>rfl)) (eU _ _ _),show DataW.TrodVars enc P ho (λ_=>true) s.vars [] [] from by rw[Cf];rfl,rfl,?_,?_⟩,?_⟩
   · intro b off aL
     have eT:MemPlace.cell b off∈p8++[]:=by simpa using aL
     rw[ae.frozen (bX _ eT)]
     exact aP b off eT
   · intro aw
     simpa using aH aw
   · intro p aL _
     simpa using aL
theorem Pw{a:Assume}{C:Checked}{os:Os}{f:FuncId}{fn:Func}{s:ChangeSpec}{conds:List PathCond}{apart fresh handsOn again:Bool}{X:World->Array Value->Prop}
  (bg:∀(w w':World) (args:Array Value),w.heap=w'.heap->X w args->X w' args)
  (own:ownKnob C.prog.godebug=none)(started:os.Started)(Px:C.prog.inits.idxOf? f=none)(l2:C.prog.funcs[f]? =some fn)
  (witness:∃(w:World) (tape:Tape) (i:Input),w.os=os/\(w.forCall tape i).Shaped C.prog/\i.vars=[]/\Input.okWide C.prog (w.forCall tape i) .any w.heap.size f i/\
   ((s.pre enc C.prog fn conds apart (w.forCall tape i).memory i.args/\X (w.forCall tape i).memory i.args)/\sizedMet enc C.prog fn (OpenSpec.ofChange s) apart (w.forCall tape i).memory i.args)/\a.holds C.prog (lone (Frame.enter C.prog f i.args .normal) [] (w.forCall tape i)))
  (Py:∀(W:World) (base:Nat) (args:Array Value) (ds gs:List (DataW H)) (before:List MemPlace),
   (∀(j:Nat) t v,fn.params[j]? =some t->args[j]? =some v->Value.okWide C.prog W .any base t v)->
   DataW.Whole enc C.prog fn.params.toList s.vars apart W args.toList ds gs before->
   (DataW.weightsEach C.prog (fn.params.toList++s.plain.varTypes C.prog) (ds++gs)).all (· <=reachBytes)=true->X W args->W.ShapedOpen C.prog->
   Calls C.prog f args W λe ho=>∃v,e=.returned v/\s.post enc C.prog fn apart fresh handsOn again W args v ho):
  ReturnsInHanded a C os f .any (λw args=>(s.pre enc C.prog fn conds apart w args/\X w args)/\sizedMet enc C.prog fn (OpenSpec.ofChange s) apart w args) (s.post enc C.prog fn apart fresh handsOn again):=by
 refine returnsInHanded_of_calls own started Px witness ?_
 intro w tape i _ j_ _ cV Pz Yh
 obtain⟨_,_,_,AV,PA,_,_,_,_,j7⟩:=cV
 have e:AV=fn:=Option.some.inj (PA.symm.trans l2)
 subst e
 obtain⟨⟨⟨ds,gs,before,hw,af⟩,J⟩,aP⟩:=Pz
 have PB:=DataW.Whole.of_heap (w':=w.forCall tape i) (by rfl) hw
 refine(Py (w.forCall tape i) w.heap.size i.args ds gs before j7 PB (aP.weights hw) (bg _ _ _ (by rfl) J) j_).mono λe ho ⟨v,he,aL⟩=>?_
 subst he
 exact ChangeSpec.post_blind aL
end
end a8
namespace a8
open Go Go.RowKit
mutual
def lh:I->Bool
 |.bool _=>true
 |.int _ _=>true
 |.str _=>true
 |.br=>true
 |.bd=>true
 |.g2=>true
 |.eY=>true
 |.ea=>true
 |.fn _ a b=>p9 a&&p9 b
 |.iface _ v=>lh v
 |.agg cs=>p9 cs
 |.aJ vs=>p9 vs
 |_=>false
def p9:List I->Bool
 |[]=>true
 |v::vs=>lh v&&p9 vs
end
mutual
theorem Cg{μ aK:bb}:∀(a:I) (v:Value),lh a=true->a2 μ a v->a2 aK a v
 |.bool _,v,_,h=>h
 |.int _ _,v,_,h=>h
 |.str _,v,_,h=>h
 |.br,v,_,h=>h
 |.bd,v,_,h=>h
 |.g2,v,_,h=>h
 |.eY,v,_,h=>h
 |.ea,v,_,h=>h
 |.fn f a b,v,ai,h=>by
  simp only[lh,Bool.and_eq_true] at ai
  obtain⟨b0,cs,e,aa,ad⟩:=h
  exact⟨b0,cs,e,tv _ _ ai.1 aa,tv _ _ ai.2 ad⟩
 |.iface t x,v,ai,h=>by
  simp only[lh] at ai
  obtain⟨y,e,aa⟩:=h
  exact⟨y,e,Cg _ _ ai aa⟩
 |.agg cs,v,ai,h=>by
  simp only[lh] at ai
  obtain⟨l,e,aa⟩:=h
  exact⟨l,e,tv _ _ ai aa⟩
 |.aJ cs,v,ai,h=>by
  simp only[lh] at ai
  obtain⟨l,e,aa⟩:=h
  exact⟨l,e,tv _ _ ai aa⟩
 |.bad,v,ai,h=>by simp[lh] at ai
 |.ptr _ _,v,ai,h=>by simp[lh] at ai
 |.slice _ _ _ _,v,ai,h=>by simp[lh] at ai
 |.map _,v,ai,h=>by simp[lh] at ai
 |.cS _,v,ai,h=>by simp[lh] at ai
theorem tv{μ aK:bb}:∀(as:List I) (vs:List Value),p9 as=true->bP μ as vs->bP aK as vs
 |[],vs,_,h=>h
 |a::as,vs,ai,h=>by
  simp only[p9,Bool.and_eq_true] at ai
  obtain⟨v,yr,e,aa,ad⟩:=h
  exact⟨v,yr,e,Cg a v ai.1 aa,tv as yr ai.2 ad⟩
end
structure oO where
 f:Nat
 args:List I
 v:I
def oP:List oO->Nat->List I->ab->Option (I×ab)
 |[],_,_,_=>none
 |e::T,f,args,h=>match Nat.beq f e.f with
  |true=>match I.lN args e.args with
   |true=>some (e.v,h)
   |false=>oP T f args h
  |false=>oP T f args h
theorem Hh:∀(T:List oO) (f:Nat) (args:List I) (h:ab) (v:I) (ao:ab),oP T f args h=some (v,ao)->ao=h/\∃e∈T,e.f=f/\e.args=args/\e.v=v
 |[],f,args,h,v,ao,J=>by cases J
 |e::T,f,args,h,v,ao,J=>by
  simp only[oP] at J
  have rest:oP T f args h=some (v,ao)->ao=h/\∃cn∈e::T,cn.f=f/\cn.args=args/\cn.v=v:=λJ=>by
   obtain⟨aa,cn,ad,aq⟩:=Hh T f args h v ao J
   exact⟨aa,cn,List.mem_cons_of_mem _ ad,aq⟩
  split at J
  · rename_i hf
    split at J
    · rename_i aw
      cases J
      exact⟨rfl,e,by simp,(Nat.eq_of_beq_eq_true hf).symm,(tm _ _ aw).symm,rfl⟩
    · exact rest J
  · exact rest J
section
variable {P:Program}
def Ch(P:Program)(intr:Nat->List I->ab->Option (I×ab))(n:Nat)(e:oO):Bool:=
 match et P intr n (.fn e.f) e.args (py P.globals.size) with
 |.ret v _=>I.beq v e.v&&lh e.v&&p9 e.args
 |_=>false
def rF(P:Program)(e:oO):Prop:=∃(intr:Nat->List I->ab->Option (I×ab)) (n:Nat),l6 P intr/\Ch P intr n e=true
theorem rk.mono{f:FuncId}{vs:List Value}{w:World}{R Hi:Ending->World->Prop}(h:∀e w',R e w'->Hi e w')(aj:rk P f vs w R):rk P f vs w Hi:=by
 rcases aj with⟨v,w',aa,ad⟩|⟨aa,ad⟩
 · exact .inl ⟨v,w',aa,h _ _ ad⟩
 · exact .inr ⟨aa,ad.mono λe w' he=>h e w' he⟩
theorem Hj(hf:Fit P){T:List oO}(oN:∀e∈T,rF P e):l6 P (oP T):=by
 intro f args H v aI J μ w vs ah aj aD
 obtain⟨rfl,e,he,rfl,rfl,rfl⟩:=Hh T f args H v aI J
 obtain⟨intr,n,ag,ae⟩:=oN e he
 unfold Ch at ae
 split at ae
 · rename_i v1 H1 dW
   simp only[Bool.and_eq_true] at ae
   obtain⟨⟨tw,e9⟩,PC⟩:=ae
   have PD:=beq_eq _ _ tw
   subst PD
   have lj:P.globals.size<=w.heap.size:=by
    cases bh:P.globals.size with
    |zero=>exact Nat.zero_le _
    |succ g=>
     obtain⟨i,aa,ad,aq⟩:=aj g (by omega)
     have:=(ah.lt _ i aa).2
     omega
   obtain⟨s1,s2,cq⟩:=Po (P:=P) lj
   have hD:=(Cd hf ag n).fn e.f e.args (py P.globals.size) (by rw[dW];rfl) (vZ P.globals.size) w vs s1 s2 (tv _ _ PC aD)
   rw[dW] at hD
   refine hD.mono λl1 w' nK=>?_
   obtain⟨aK,u,rfl,aV,ba,b1⟩:=nK
   have hold:∀r,r<w.heap.size->w'.heap[r]? =w.heap[r]? :=λr ai=>b1.old r ai λb i ar=>absurd rfl ar
   refine⟨μ,u,rfl,Cg _ _ e9 aV,⟨λb o i ae ag=>(ah.rel b o i ae ag).mono (ej.refl μ) (hold _ (ah.lt b i ag).2),ah.inj,λb i ag=>⟨(ah.lt b i ag).1,Nat.lt_of_lt_of_le (ah.lt b i ag).2 b1.size⟩,ah.bound⟩,?_⟩
   exact⟨ej.refl μ,b1.size,Nat.le_refl _,λ_ _ ar=>ar,λ_ _ _=>rfl,λr ai _=>hold r ai,(λb i aa ad=>by rw[aa] at ad;cases ad),λb o i ae _ ag=>⟨ae,hold _ (ah.lt b i ag).2⟩,b1.os,b1.out,b1.tape,b1.drawn⟩
 · cases ae
def v3(P:Program):List oO->Prop
 |[]=>True
 |e::T=>rF P e/\v3 P T
theorem v3.ok:∀{T:List oO},v3 P T->∀e∈T,rF P e
 |[],_,e,he=>by cases he
 |x::T,h,e,he=>by
  rcases List.mem_cons.1 he with rfl|he
  · exact h.1
  · exact v3.ok h.2 e he
theorem Hk(hf:Fit P){T:List oO}(oN:v3 P T){n:Nat}{e:oO}(h:Ch P (oP T) n e=true):rF P e:=⟨oP T,n,Hj hf oN.ok,h⟩
end
end a8
namespace a8
open Go
def oQ(G:Nat)(is:List ee):bb:=λb=>if b<G then some ⟨b,0,0⟩ else is[b-G]?
def tx(h:ab)(r:List I×Nat):ab:=h.push (.cells r.1 r.2 .ro 0 0)
def rG(G:Nat)(rows:List (List I×Nat)):ab:=rows.foldl tx (py G)
theorem Ci:∀(rows:List (List I×Nat)) (h:ab),(∀b,h.n<=b->h.get b=none)->(rows.foldl tx h).n=h.n+rows.length/\∀b,(rows.foldl tx h).get b=if b<h.n then h.get b else(rows[b-h.n]?).map λr=>.cells r.1 r.2 .ro 0 0
 |[],h,ae=>⟨rfl,λb=>by
  split
  · rfl
  · rename_i aH;simpa using ae b (by omega)⟩
 |r::rows,h,ae=>by
  have aH:(tx h r).n=h.n+1:=rfl
  have aj:∀b,(tx h r).get b=if b=h.n then some (.cells r.1 r.2 .ro 0 0) else h.get b:=λb=>ab.fA _ _ _
  obtain⟨aV,ba⟩:=Ci rows (tx h r) λb aa=>by rw[aj,if_neg (by omega)];exact ae b (by omega)
  refine⟨by rw[List.foldl_cons,aV,aH,List.length_cons];omega,λb=>?_⟩
  rw[List.foldl_cons,ba,aH,aj]
  by_cases aa:b<h.n
  · rw[if_pos (by omega),if_neg (by omega),if_pos aa]
  · rw[if_neg aa]
    by_cases ad:b=h.n
    · subst ad;rw[if_pos (by omega),if_pos rfl,Nat.sub_self];rfl
    · rw[if_neg (by omega)]
      obtain⟨k,rfl⟩:∃k,b=h.n+(k+1):=⟨b-h.n-1,by omega⟩
      have ax:h.n+(k+1)-(h.n+1)=k:=by omega
      have av:h.n+(k+1)-h.n=k+1:=by omega
      rw[ax,av];rfl
theorem Cj(G:Nat)(rows:List (List I×Nat)):(rG G rows).n=G+rows.length:=(Ci rows (py G) λ_ _=>rfl).1
theorem Ck(G:Nat)(rows:List (List I×Nat))(b:Nat):(rG G rows).get b=if b<G then none else(rows[b-G]?).map λr=>.cells r.1 r.2 .ro 0 0:=(Ci rows (py G) λ_ _=>rfl).2 b
def Hl(W:World)(i:ee)(cs:List I)(el:Nat):Prop:=∃c fz,W.heap[i.a1]? =some (.cells c el fz)/\(∀μ,xP μ cs c i.base)/\i.base+i.size=c.size
theorem PE{P:Program}{l:List (ee×List I×Nat)}{k:Nat}{x:ee×List I×Nat}(h:l[k]? =some x):oQ P.globals.size (l.map (·.1)) (P.globals.size+k)=some x.1:=by
 unfold oQ
 rw[if_neg (by omega),Nat.add_sub_cancel_left,List.getElem?_map,h];rfl
theorem PF{P:Program}{l:List (ee×List I×Nat)}{k:Nat}{x:ee×List I×Nat}(h:l[k]? =some x):(rG P.globals.size (l.map (·.2))).get (P.globals.size+k)=some (.cells x.2.1 x.2.2 .ro 0 0):=by
 rw[Ck,if_neg (by omega),Nat.add_sub_cancel_left,List.getElem?_map,h];rfl
end a8
namespace a8
open Go
end a8
