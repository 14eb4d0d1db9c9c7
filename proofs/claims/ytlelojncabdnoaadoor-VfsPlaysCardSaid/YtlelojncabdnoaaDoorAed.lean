/-
  THE ABSTRACT EVALUATOR (drawn regions; a run of the evaluator is a run of the program): a deterministic semantics of loaded code, and the proof that its runs are runs of the program in the model, whatever the tape draws. No condition.
-/
import Derived.Test.YtlelojncabdnoaaDoorAec
import Derived.Handed
import Derived.ProofKit
import Derived.Below
import Derived.ChangeSame
import Derived.SliceStrings
import Derived.WideShapes
set_option linter.unusedVariables false
set_option linter.unusedSimpArgs false
namespace aS
open Go
structure gR where
 P:Program
 need:Nat
 br:Nat
 inR:Bool
 call:cR->List I->J->bM
 ops:Array Oper
 r:aN
 b:Frame
 lW:bd
 H:J
 i_:World
 cs0:List Frame
 N:Nat
 f:Nat->rJ
def gR.steps(X:gR):List DStep:=ed X.ops.toList 0 [] []
def gR.val(X:gR)(j:Nat):I:=(nth (X.N-1-j) (X.f X.N).env).getD .bad
structure e6(X:gR):Prop where
 ab:iY X.P X.call
 dC:X.inR=X.b.roundOf.isSome
 hK:∀o∈X.ops.toList,∀t,o.dst=some t->t<X.br
 hdr:oP X.ops X.steps=true
 fX:X.N<=X.ops.size
 qi:∀k s,k<X.N->X.steps[k]? =some s->rK X.P X.need X.inR X.call X.ops X.r X.H.n s (X.f k) (X.f (k+1))
 Nz:(X.f 0).env=[]
 qj:(X.f 0).a7=[]
 looks:∀i s,i<X.N->X.steps[i]? =some s->kindOf X.P s.o.op=.pure->∃nx,j0 X.P X.need X.ops X.r X.N (X.f X.N).env s (X.val i) nx (X.f X.N).h (X.f X.N).a7=true/\(∀e,nx=some e->e=X.N/\X.N<X.ops.size)
 last:∀s,X.steps[X.N]? =some s->kindOf X.P s.o.op=.dA/\(∀e m aA l,(X.f X.N).a7=(e,m,aA)::l->Nat.testBit s.dU e=true)/\∀k aV,X.N<k->X.steps[k]? =some aV->Nat.testBit aV.dU s.i=true
 mA:fR X.P X.lW
 yy:bg X.lW X.H X.i_
section
variable {X:gR}
theorem e6.k_(bh:e6 X){i:Nat}(ag:i<X.ops.size):∃s,X.steps[i]? =some s/\s.i=i/\X.ops[i]? =some s.o/\s.loc=hT (X.ops.toList.take i) 0 []/\Sound X.ops i s.dU:=by
 have aQ:X.ops.toList[i]? =some X.ops[i]:=by simp[ag]
 obtain⟨s,h1,aa,ao,aI,bl⟩:=vL (ops:=X.ops) X.ops.toList 0 [] [] (λk=>by simp) (tv bh.hdr) (λj aG=>by omega) i _ aQ
 refine⟨s,h1,by omega,by rw[ao];exact Array.getElem?_eq_getElem ag,aI,by simpa using bl⟩
theorem e6.jN(bh:e6 X){i:Nat}{s:DStep}(h:X.steps[i]? =some s):i<X.ops.size/\s.i=i/\X.ops[i]? =some s.o/\s.loc=hT (X.ops.toList.take i) 0 []/\Sound X.ops i s.dU:=by
 have ag:i<X.ops.size:=by
  have h1:=(List.getElem?_eq_some_iff.1 h).1
  rw[gR.steps,Bt] at h1
  simpa using h1
 obtain⟨aV,h1,aa⟩:=bh.k_ ag
 rw[h] at h1;cases h1
 exact⟨ag,aa⟩
theorem e6.apart(bh:e6 X){i j:Nat}{s aV:DStep}(nA:i<j)(h1:X.steps[i]? =some s)(aa:X.steps[j]? =some aV)(h:(∃t,s.o.dst=some t/\t∈kY X.ops aV.o)\/(∃t,aV.o.dst=some t/\t∈kY X.ops s.o)):Nat.testBit aV.dU i=true:=by
 have:=F2 bh.hdr i j s aV nA h1 aa h
 rw[(bh.jN h1).2.1] at this;exact this
theorem e6.yz(bh:e6 X):∀k,k<=X.N->(X.f k).env.length=k
 |0,_=>by rw[bh.Nz];rfl
 |k+1,hk=>by
  obtain⟨s,h1,_⟩:=bh.k_ (i:=k) (by have:=bh.fX;omega)
  have bc:=bh.yz k (by omega)
  have bk:=bh.qi k s (by omega) h1
  generalize X.f (k+1)=st at bk
  cases bk<;>simp[bc]
theorem e6.F4(bh:e6 X)(k:Nat):∀m,k<=m->m<=X.N->∃l,(X.f m).env=l++(X.f k).env
 |0,h1,aa=>⟨[],by obtain rfl:k=0:=by omega
                  rfl⟩
 |m+1,h1,aa=>by
  by_cases e:k=m+1
  · exact⟨[],by rw[e];rfl⟩
  · obtain⟨l,ar⟩:=bh.F4 k m (by omega) (by omega)
    obtain⟨s,ad,_⟩:=bh.k_ (i:=m) (by have:=bh.fX;omega)
    have bk:=bh.qi m s (by omega) ad
    have:∃v,(X.f (m+1)).env=v::(X.f m).env:=by
     generalize X.f (m+1)=st at bk
     cases bk<;>exact⟨_,rfl⟩
    obtain⟨v,aM⟩:=this
    exact⟨v::l,by rw[aM,ar];rfl⟩
theorem F5{α:Type}:∀(l m:List α) (k:Nat),nth (l.length+k) (l++m)=nth k m
 |[],m,k=>by simp
 |a::l,m,k=>by
  have:(a::l).length+k=(l.length+k)+1:=by simp;omega
  rw[this];exact F5 l m k
theorem e6.Bv(bh:e6 X){k j:Nat}(hk:k<=X.N)(aG:j<k):nth (k-1-j) (X.f k).env=nth (X.N-1-j) (X.f X.N).env:=by
 obtain⟨l,ar⟩:=bh.F4 k X.N hk (Nat.le_refl _)
 have h1:=bh.yz k hk
 have aa:=bh.yz X.N (Nat.le_refl _)
 rw[ar] at aa⊢
 simp only[List.length_append,h1] at aa
 have:X.N-1-j=l.length+(k-1-j):=by omega
 rw[this,F5]
theorem e6.vN(bh:e6 X){k:Nat}(hk:k<X.N){v:I}(h:(X.f (k+1)).env=v::(X.f k).env):X.val k=v:=by
 have h1:=bh.Bv (k:=k+1) (j:=k) hk (Nat.lt_succ_self k)
 unfold gR.val
 rw[<-h1,h]
 simp[nth]
theorem e6.yA(bh:e6 X){k:Nat}(hk:k<=X.N){a:Acc}(aJ:a.below k):cv k (X.f k).env X.r a=cv X.N (X.f X.N).env X.r a:=by
 cases a with
 |env j=>simp only[cv];rw[bh.Bv hk aJ]
 |jo p=>rfl
 |val v=>rfl
theorem vO(l:List Oper)(t:Nat):∀k,k<=l.length->
  (∀a,gY t (hT (l.take k) 0 [])=some a->∃j o,j<k/\a=.env j/\l[j]? =some o/\o.dst=some t/\∀gZ o',j<gZ->gZ<k->l[gZ]? =some o'->o'.dst≠some t)/\
  (gY t (hT (l.take k) 0 [])=none->∀j o,j<k->l[j]? =some o->o.dst≠some t)
 |0,_=>⟨λa h=>by simp[hT,gY] at h,λ_ j o aG=>by omega⟩
 |k+1,hk=>by
  obtain⟨tx,tz⟩:=vO l t k (by omega)
  have aQ:l[k]? =some l[k]:=List.getElem?_eq_getElem (by omega)
  rw[F0 l 0 [] k l[k] aQ,Nat.zero_add]
  unfold gl
  cases ak:(l[k]).dst with
  |none=>
   refine⟨λa h=>?_,λh j o aG lN=>?_⟩
   · obtain⟨j,o,h1,aa,ao,aI,bl⟩:=tx a h
     refine⟨j,o,by omega,aa,ao,aI,λgZ o' aT bb bP=>?_⟩
     by_cases e:gZ=k
     · subst e;rw[aQ] at bP;cases bP;rw[ak];simp
     · exact bl gZ o' aT (by omega) bP
   · by_cases e:j=k
     · subst e;rw[aQ] at lN;cases lN;rw[ak];simp
     · exact tz h j o (by omega) lN
  |some d=>
   simp only[ns]
   by_cases e:t=d
   · subst e
     refine⟨λa h=>?_,λh=>by simp at h⟩
     simp at h;subst h
     exact⟨k,_,by omega,rfl,aQ,ak,λgZ o' aT bb=>by omega⟩
   · simp only[e,if_false]
     refine⟨λa h=>?_,λh j o aG lN=>?_⟩
     · obtain⟨j,o,h1,aa,ao,aI,bl⟩:=tx a h
       refine⟨j,o,by omega,aa,ao,aI,λgZ o' aT bb bP=>?_⟩
       by_cases au:gZ=k
       · subst au;rw[aQ] at bP;cases bP;rw[ak];simp;exactλcw=>e cw.symm
       · exact bl gZ o' aT (by omega) bP
     · by_cases au:j=k
       · subst au;rw[aQ] at lN;cases lN;rw[ak];simp;exactλcw=>e cw.symm
       · exact tz h j o (by omega) lN
def gR.rM(X:gR)(S:List Nat)(μ:bd)(bF:Array Value):Prop:=∀t,
 (∀j o,j∈S->X.ops[j]? =some o->o.dst=some t->(∀k o',k∈S->X.ops[k]? =some o'->o'.dst=some t->k<=j)->a1 μ (X.val j) (bF.getD t undef))/\
 ((∀j o,j∈S->X.ops[j]? =some o->o.dst≠some t)->Nat.testBit X.need t=true->a1 μ (X.r.get (fA t)) (bF.getD t undef))
theorem gR.rM.mono{S:List Nat}{μ aL:bd}{bF:Array Value}(hle:dB μ aL)(h:X.rM S μ bF):X.rM S aL bF:=λt=>⟨λj o h1 aa ao aI=>((h t).1 j o h1 aa ao aI).mono hle,λh1 aa=>((h t).2 h1 aa).mono hle⟩
theorem e6.F6(bh:e6 X){S:List Nat}(dt:yw X.ops S){μ:bd}{bF:Array Value}(aj:X.rM S μ bF){i:Nat}(ag:i<=X.N)(df:i∉S)(b1:jM X.ops S i){s:DStep}(ad:X.steps[i]? =some s){t:Nat}(bk:t∈kY X.ops s.o):
  a1 μ (cv i (X.f i).env X.r (bX X.P X.need s.loc (.tmp t))) (bF.getD t undef):=by
 obtain⟨dC,gS,e5,j7,j8⟩:=bh.jN ad
 obtain⟨f1,f2⟩:=vO X.ops.toList t i (by simp;omega)
 have F7:∀k o',k∈S->X.ops[k]? =some o'->o'.dst=some t->k<i:=λk o' hk gq ak=>by
  have tA:k<X.ops.size:=(Array.getElem?_eq_some_iff.1 gq).1
  rcases Nat.lt_trichotomy k i with h|h|h
  · exact h
  · subst h;exact absurd hk df
  · obtain⟨aV,aT,bb,bP,gP,k2⟩:=bh.k_ tA
    rw[gq] at bP;cases bP
    have:=bh.apart h ad aT (.inr ⟨t,ak,bk⟩)
    exact absurd (k2 S dt (dt k hk) i this) df
 simp only[bX,j7]
 cases hf:gY t (hT (X.ops.toList.take i) 0 []) with
 |some a=>
  obtain⟨j,o,aG,rfl,lN,ak,nZ⟩:=f1 a hf
  have F8:X.ops[j]? =some o:=by simpa using lN
  obtain⟨aV,aT,bb,bP,gP,k2⟩:=bh.k_ (i:=j) (by omega)
  rw[F8] at bP;cases bP
  have tB:j∈S:=j8 S dt b1 j (bh.apart aG aT ad (.inl ⟨t,ak,bk⟩))
  have:=(aj t).1 j _ tB F8 ak λk o' hk gq lR=>by
   have NA:=F7 k o' hk gq lR
   rcases Nat.lt_or_ge j k with h|h
   · exact absurd lR (nZ k o' h NA (by simpa using gq))
   · exact h
  have aM:cv i (X.f i).env X.r (.env j)=X.val j:=by
   simp only[cv,gR.val]
   rw[bh.Bv ag aG]
  simp only[aM];exact this
 |none=>
  simp only[]
  cases ae:Nat.testBit X.need t with
  |false=>trivial
  |true=>
   exact(aj t).2 (λj o aG aQ ak=>f2 hf j o (F7 j o aG aQ ak) (by simpa using aQ) ak) ae
theorem e6.F9(bh:e6 X){S:List Nat}(dt:yw X.ops S){μ:bd}{a:Act}(bp:a.tmps.size=X.br)(aj:X.rM S μ a.tmps){i:Nat}(df:i∉S)(b1:jM X.ops S i){s:DStep}(ad:X.steps[i]? =some s){u:Value}(hu:a1 μ (X.val i) u):
  X.rM (i::S) μ (a.put s.o.dst u).tmps:=by
 obtain⟨dC,gS,e5,j7,j8⟩:=bh.jN ad
 have bx:∀t,s.o.dst=some t->t<a.tmps.size:=λt h=>by
  rw[bp];exact bh.hK s.o (by rw[<-Array.getElem?_toList] at e5;exact List.mem_of_getElem? e5) t h
 intro t
 by_cases ak:s.o.dst=some t
 · have fc:(a.put s.o.dst u).tmps.getD t undef=u:=by
     rw[ak];simp only[Act.put];rw[vA (bx t ak),if_pos rfl]
   have NB:∀k o',k∈S->X.ops[k]? =some o'->o'.dst=some t->k<i:=λk o' hk gq lR=>by
    have tA:k<X.ops.size:=(Array.getElem?_eq_some_iff.1 gq).1
    rcases Nat.lt_trichotomy k i with h|h|h
    · exact h
    · subst h;exact absurd hk df
    · obtain⟨aV,aT,bb,bP,gP,k2⟩:=bh.k_ tA
      rw[gq] at bP;cases bP
      have:=bh.apart h ad aT (.inr ⟨t,lR,by simp[kY,ak]⟩)
      exact absurd (k2 S dt (dt k hk) i this) df
   refine⟨λj o aG aQ yB vw=>?_,λrN=>absurd ak (rN i s.o (by simp) e5)⟩
   have nA:=vw i s.o (by simp) e5 ak
   rcases List.mem_cons.1 aG with rfl|aG
   · rw[fc];exact hu
   · have:=NB j o aG aQ yB;omega
 · have fc:(a.put s.o.dst u).tmps.getD t undef=a.tmps.getD t undef:=by
     cases yC:s.o.dst with
     |none=>rfl
     |some d=>
      simp only[Act.put]
      rw[vA (bx d yC),if_neg (λe=>ak (by rw[yC,e]))]
   rw[fc]
   refine⟨λj o aG aQ yB vw=>?_,λrN ae=>(aj t).2 (λj o aG aQ=>rN j o (by simp[aG]) aQ) ae⟩
   rcases List.mem_cons.1 aG with rfl|aG
   · rw[e5] at aQ;cases aQ;exact absurd yB ak
   · exact(aj t).1 j o aG aQ yB λk o' hk gq lR=>vw k o' (by simp[hk]) gq lR
def o2(μ:bd)(w:World)(b:Nat)(bY:b8):Prop:=∃i O,μ b=some i/\w.heap[i.a6]? =some O/\(∀aL w',dB μ aL->w'.heap[i.a6]? =some O->j1 aL bY i w')/\(∀c j,c≠b->μ c=some j->j.a6≠i.a6)
theorem bg.yD{μ:bd}{H:J}{w:World}(h:bg μ H w){b:Nat}{bY:b8}(ae:b<H.n)(a8:μ b=none\/o2 μ w b bY):bg μ (H.set b (some bY)) w:=by
 refine⟨λc o i ab ag=>?_,λc d i j ab ak ag aG e=>?_,λc i ag=>h.lt c i ag,λc ab=>?_⟩
 · rw[J.cL] at ab
   by_cases e:c=b
   · subst e
     rw[if_pos rfl] at ab;cases ab
     rcases a8 with a8|⟨rO,O,h1,aa,ao,aI⟩
     · rw[a8] at ag;cases ag
     · rw[h1] at ag;cases ag
       exact ao μ w (dB.refl μ) aa
   · rw[if_neg e] at ab;exact h.rel c o i ab ag
 · rw[J.cL] at ab ak
   by_cases av:c=b
   · by_cases au:d=b
     · rw[av,au]
     · subst av
       rcases a8 with a8|⟨rO,O,h1,aa,ao,aI⟩
       · rw[a8] at ag;cases ag
       · rw[h1] at ag;cases ag
         exact absurd e.symm (aI d j au aG)
   · by_cases au:d=b
     · subst au
       rcases a8 with a8|⟨rO,O,h1,aa,ao,aI⟩
       · rw[a8] at aG;cases aG
       · rw[h1] at aG;cases aG
         exact absurd e (aI c i av ag)
     · rw[if_neg av] at ab;rw[if_neg au] at ak
       exact h.inj c d i j ab ak ag aG e
 · rw[J.cL,if_neg (by simp at ab;omega)];exact h.bound c (by simpa using ab)
theorem bN.yD{lW μ:bd}{H vP:J}{i_ w:World}(af:bg lW H i_)(h:bN lW H i_ μ vP w){b:Nat}(bY:b8)(ae:H.n<=b):bN lW H i_ μ (vP.set b (some bY)) w where
 le:=h.le
 size:=h.size
 n:=by simpa using h.n
 live:=λc ab ar=>h.live c ab (by rw[J.cL,if_neg (by omega)] at ar;exact ar)
 idle:=λc ab hm=>by rw[J.cL,if_neg (by omega)];exact h.idle c ab hm
 old:=h.old
 new:=h.new
 ro:=λc o i ab aj ag=>by
  have:=(af.lt c i ag).1
  rw[J.cL,if_neg (by omega)];exact h.ro c o i ab aj ag
 os:=h.os
 out:=h.out
 tape:=h.tape
 drawn:=h.drawn
theorem bg.early{μ:bd}{H:J}{w:World}(h:bg μ H w){b:Nat}{bY:b8}{O:Obj}{sz:Nat}(ae:b<H.n)(hm:μ b=none)(aQ:∀o,H.get b=some o->o=bY)
  (Bw:∀aL w',dB μ aL->w'.heap[w.heap.size]? =some O->j1 aL bY ⟨w.heap.size,0,sz⟩ w'):dB μ (fC μ b ⟨w.heap.size,0,sz⟩)/\bg (fC μ b ⟨w.heap.size,0,sz⟩) H (w.alloc O):=by
 have hle:dB μ (fC μ b ⟨w.heap.size,0,sz⟩):=λc i ag=>by
  rw[gD];exact ag
  intro e;subst e;rw[hm] at ag;cases ag
 have hold:∀r,r<w.heap.size->(w.alloc O).heap[r]? =w.heap[r]? :=λr aj=>by
  simp only[World.alloc,Array.getElem?_push];rw[if_neg (by omega)]
 refine⟨hle,λc o i ab ag=>?_,λc d i j ab ak ag aG e=>?_,λc i ag=>?_,h.bound⟩
 · by_cases e:c=b
   · subst e
     rw[fD] at ag;cases ag
     rw[aQ o ab]
     exact Bw _ _ hle (World.heap_alloc_new _ _)
   · rw[gD _ _ e] at ag
     exact(h.rel c o i ab ag).mono hle (hold _ (h.lt c i ag).2)
 · by_cases av:c=b
   · by_cases au:d=b
     · rw[av,au]
     · subst av;rw[fD] at ag;cases ag
       rw[gD _ _ au] at aG
       have:=(h.lt d j aG).2
       simp only at e;omega
   · by_cases au:d=b
     · subst au;rw[fD] at aG;cases aG
       rw[gD _ _ av] at ag
       have:=(h.lt c i ag).2
       simp only at e;omega
     · rw[gD _ _ av] at ag;rw[gD _ _ au] at aG
       exact h.inj c d i j ab ak ag aG e
 · by_cases e:c=b
   · subst e;rw[fD] at ag;cases ag
     exact⟨ae,by simp⟩
   · rw[gD _ _ e] at ag
     have:=h.lt c i ag
     simp only[World.size_alloc];omega
theorem bN.early{lW μ:bd}{H vP:J}{i_ w:World}(af:bg lW H i_)(h:bN lW H i_ μ vP w){b:Nat}(ae:H.n<=b)(hm:μ b=none){O:Obj}{sz:Nat}:bN lW H i_ (fC μ b ⟨w.heap.size,0,sz⟩) vP (w.alloc O):=by
 have hold:∀r,r<w.heap.size->(w.alloc O).heap[r]? =w.heap[r]? :=λr aj=>by
  simp only[World.alloc,Array.getElem?_push];rw[if_neg (by omega)]
 exact{
  le:=λc i ag=>by
   have h1:=h.le c i ag
   rw[gD];exact h1
   intro e;subst e;rw[hm] at h1;cases h1
  size:=by have:=h.size;simp only[World.size_alloc];omega
  n:=h.n
  live:=h.live
  idle:=h.idle
  old:=λr aj aC=>(hold r (Nat.lt_of_lt_of_le aj h.size)).trans (h.old r aj aC)
  new:=λc i h1 aa=>by
   by_cases e:c=b
   · subst e;rw[fD] at aa;cases aa;exact⟨ae,.inl h.size⟩
   · rw[gD _ _ e] at aa;exact h.new c i h1 aa
  ro:=λc o i ab aj ag=>by
   obtain⟨h1,aa⟩:=h.ro c o i ab aj ag
   exact⟨h1,(hold _ (Nat.lt_of_lt_of_le (af.lt c i ag).2 h.size)).trans aa⟩
  os:=h.os
  out:=h.out
  tape:=h.tape
  drawn:=h.drawn}
theorem o2.early{μ:bd}{H:J}{w:World}(h:bg μ H w){b c:Nat}{bY:b8}{O:Obj}{sz:Nat}(hm:μ b=none)(a8:o2 μ w c bY):o2 (fC μ b ⟨w.heap.size,0,sz⟩) (w.alloc O) c bY:=by
 obtain⟨i,j9,h1,aa,ao,aI⟩:=a8
 have b9:c≠b:=by intro e;subst e;rw[hm] at h1;cases h1
 have bx:=(h.lt c i h1).2
 have hle:dB μ (fC μ b ⟨w.heap.size,0,sz⟩):=λc i ag=>by
  rw[gD];exact ag
  intro e;subst e;rw[hm] at ag;cases ag
 refine⟨i,j9,by rw[gD _ _ b9];exact h1,?_,λaL w' ar hO=>ao aL w' (hle.trans ar) hO,λd j ak aG=>?_⟩
 · simp only[World.alloc,Array.getElem?_push];rw[if_neg (by omega)];exact aa
 · by_cases e:d=b
   · subst e;rw[fD] at aG;cases aG;simp only;omega
   · rw[gD _ _ e] at aG;exact aI d j ak aG
theorem o2.n9{μ aL:bd}{H aD:J}{w w':World}(af:bg μ H w)(aJ:bN μ H w aL aD w'){c:Nat}{bY:b8}(an:H.get c=none)(a8:o2 μ w c bY):o2 aL w' c bY:=by
 obtain⟨i,j9,h1,aa,ao,aI⟩:=a8
 have bx:=(af.lt c i h1).2
 refine⟨i,j9,aJ.le _ _ h1,?_,λxM bQ ar hO=>ao xM bQ (aJ.le.trans ar) hO,λd j ak aG=>?_⟩
 · rw[aJ.old i.a6 bx]
   · exact aa
   · intro d j ar aG
     exact aI d j (λe=>by subst e;exact ar an) aG
 · cases jL:μ d with
   |some Bx=>
    have:=aJ.le d Bx jL
    rw[aG] at this;cases this
    exact aI d j ak jL
   |none=>
    obtain⟨_,aC|⟨e,o,k,he,_,hk,NC⟩⟩:=aJ.new d j jL aG
    · omega
    · rw[<-NC]
      exact aI e k (λcw=>by subst cw;rw[an] at he;cases he) hk
end
end aS
namespace aS
open Go
section
variable {X:gR}
def qk(X:gR)(i:Nat)(s:DStep)(v:I)(bY:b8):Prop:=
 i<X.N/\kindOf X.P s.o.op=.alloc/\dr (eO X.P X.need X.ops X.r s.i (X.f i).env s)=some true/\hs X.P s.o.op (jd X.P X.need X.r s (X.f i).env) (X.H.n+i)=some (v,bY)
structure Inv(X:gR)(S:List Nat)(c:Nat)(μ:bd)(w:World)(a:Act)(cs:List Frame):Prop where
 ab:c<=X.N
 closed:yw X.ops S
 sub:∀i∈S,i<X.N
 dA:∀i s,X.steps[i]? =some s->i<X.N->kindOf X.P s.o.op=.dA->(i∈S<->i<c)
 rel:bg μ (X.f c).h w
 n9:bN X.lW X.H X.i_ μ (X.f c).h w
 rP:eD μ (X.f c).d a.defers
 qr:gp μ X.b.kind X.cs0 (X.f c).q cs
 cV:∀i,i<X.ops.size->i∉S->μ (X.H.n+i)=none
 lay:∀i s v bY,X.steps[i]? =some s->qk X i s v bY->i∉S->i<c->(X.f c).h.get (X.H.n+i)=some bY
 tC:∀i,c<=i->i<X.ops.size->(X.f c).h.get (X.H.n+i)=none
 n_:X.H.n+X.ops.size<=(X.f c).h.n
 e4:∀i s v bY,X.steps[i]? =some s->qk X i s v bY->i∈S->c<=i->o2 μ w (X.H.n+i) bY
 kW:X.rM S μ a.tmps
 sz:a.tmps.size=X.br
theorem Inv.pass(bh:e6 X){S:List Nat}{c:Nat}{μ:bd}{w:World}{a:Act}{cs:List Frame}(h:Inv X S c μ w a cs)(bx:c<X.N){s:DStep}(ad:X.steps[c]? =some s)(hk:kindOf X.P s.o.op≠ .dA):Inv X S (c+1) μ w a cs:=by
 obtain⟨dC,gS,e5,j7,j8⟩:=bh.jN ad
 have bk:=bh.qi c s bx ad
 have F_:∀i aV,X.steps[i]? =some aV->i<X.N->kindOf X.P aV.o.op=.dA->(i∈S<->i<c+1):=λi aV h1 aa ao=>by
  rw[h.dA i aV h1 aa ao]
  have:i≠c:=by intro e;subst e;rw[ad] at h1;cases h1;exact hk ao
  omega
 have same:(X.f (c+1)).h=(X.f c).h->(X.f (c+1)).d=(X.f c).d->(X.f (c+1)).q=(X.f c).q->(∀v bY,¬qk X c s v bY)->Inv X S (c+1) μ w a cs:=λav au bm By=>by
  refine⟨bx,h.closed,h.sub,F_,by rw[av];exact h.rel,by rw[av];exact h.n9,by rw[au];exact h.rP,by rw[bm];exact h.qr,h.cV,λi aV v bY h1 aa ao aI=>?_,λi h1 aa=>(by rw[av];exact h.tC i (by omega) aa),by rw[av];exact h.n_,λi aV v bY h1 aa ao aI=>h.e4 i aV v bY h1 aa ao (by omega),h.kW,h.sz⟩
  by_cases e:i=c
  · subst e;rw[ad] at h1;cases h1;exact absurd aa (By v bY)
  · rw[av];exact h.lay i aV v bY h1 aa ao (by omega)
 generalize hf:X.f (c+1)=st at bk
 cases bk with
 |rL eP hw=>
  refine same (by rw[hf]) (by rw[hf]) (by rw[hf]) λv bY eH=>?_
  have:=eH.2.2.1
  rw[hw] at this;cases this
 |pure eP he=>
  refine same (by rw[hf]) (by rw[hf]) (by rw[hf]) λv bY eH=>?_
  have:=eH.2.1
  rw[eP] at this;cases this
 |dA eP aQ he=>exact absurd eP hk
 |alloc eP hw aJ=>
  rename_i v bY
  have av:(X.f (c+1)).h=(X.f c).h.set (X.H.n+c) (some bY):=by rw[hf,gS]
  have au:(X.f (c+1)).d=(X.f c).d:=by rw[hf]
  have bm:(X.f (c+1)).q=(X.f c).q:=by rw[hf]
  have eH:qk X c s v bY:=⟨bx,eP,hw,by rw[<-gS];rw[<-gS] at aJ;exact aJ⟩
  have ae:X.H.n+c<(X.f c).h.n:=by have:=h.n_;omega
  have a8:μ (X.H.n+c)=none\/o2 μ w (X.H.n+c) bY:=by
   by_cases Ga:c∈S
   · exact .inr (h.e4 c s v bY ad eH Ga (Nat.le_refl _))
   · exact .inl (h.cV c dC Ga)
  refine⟨bx,h.closed,h.sub,F_,by rw[av];exact h.rel.yD ae a8,by rw[av];exact h.n9.yD bh.yy bY (by omega),by rw[au];exact h.rP,by rw[bm];exact h.qr,h.cV,λi aV v' Bz h1 aa ao aI=>?_,λi h1 aa=>?_,by rw[av];simpa using h.n_,λi aV v bY h1 aa ao aI=>h.e4 i aV v bY h1 aa ao (by omega),h.kW,h.sz⟩
  · rw[av,J.cL]
    by_cases e:i=c
    · subst e
      rw[ad] at h1;cases h1
      have:=aa.2.2.2.symm.trans eH.2.2.2
      cases this
      rw[if_pos rfl]
    · rw[if_neg (by omega)];exact h.lay i aV v' Bz h1 aa ao (by omega)
  · rw[av,J.cL,if_neg (by omega)]
    exact h.tC i (by omega) aa
def Norm(X:gR)(c:Nat):Prop:=c=X.N\/∃s,X.steps[c]? =some s/\kindOf X.P s.o.op=.dA
theorem Inv.norm(bh:e6 X){S:List Nat}{μ:bd}{w:World}{a:Act}{cs:List Frame}:∀(k c:Nat),X.N-c=k->Inv X S c μ w a cs->∃c',Norm X c'/\Inv X S c' μ w a cs
 |0,c,hk,h=>⟨c,.inl (by have:=h.ab;omega),h⟩
 |k+1,c,hk,h=>by
  obtain⟨s,ad,_⟩:=bh.k_ (i:=c) (by have:=bh.fX;omega)
  by_cases he:kindOf X.P s.o.op=.dA
  · exact⟨c,.inr ⟨s,ad,he⟩,h⟩
  · exact Inv.norm bh k (c+1) (by omega) (h.pass bh (by omega) ad he)
def tD(ops:Array Oper)(o:Oper)(g:Operand->I):Operand->I
 |.tmp t=>if(kY ops o).contains t then g (.tmp t) else .bad
 |x=>g x
theorem vQ{ops:Array Oper}{o:Oper}{g:Operand->I}:∀x∈o.op.operands,g x=tD ops o g x:=by
 intro x U
 cases x with
 |tmp t=>
  have:(kY ops o).contains t=true:=by
   have h1:t∈o.op.operands.toList.filterMap λ|.tmp t=>some t|_=>none:=List.mem_filterMap.2 ⟨.tmp t,by simpa using U,rfl⟩
   simp only[kY,List.contains_iff_mem,List.mem_append]
   exact .inl (.inr h1)
  simp only[tD,this,if_true]
 |_=>rfl
theorem BA(bh:e6 X){S:List Nat}{c:Nat}{μ:bd}{w:World}{a:Act}{cs:List Frame}(h:Inv X S c μ w a cs){i:Nat}(ag:i<=X.N)(df:i∉S)(b1:jM X.ops S i){s:DStep}(ad:X.steps[i]? =some s):
  ∀x,a1 μ (tD X.ops s.o (jd X.P X.need X.r s (X.f i).env) x) (a.eval x):=by
 obtain⟨dC,gS,e5,j7,j8⟩:=bh.jN ad
 intro x
 cases x with
 |tmp t=>
  simp only[tD]
  split
  · rename_i bk
    have:=bh.F6 h.closed h.kW ag df b1 ad (t:=t) (by simpa using bk)
    unfold jd;rw[gS];exact this
  · trivial
 |const v=>exact jq μ v
 |global g=>
  simp only[tD,jd,bX,Act.eval]
  cases ae:Nat.blt g X.P.globals.size with
  |false=>exact trivial
  |true=>
   obtain⟨i,h1,aa,ao⟩:=bh.mA.mono h.n9.le g (by simpa using ae)
   obtain⟨gF,i0,vq⟩:=i
   simp only at aa ao
   subst aa;subst ao
   exact⟨_,h1,rfl⟩
 |func f=>exact⟨[],[],rfl,rfl,rfl⟩
theorem yE(bh:e6 X){S:List Nat}{c:Nat}{μ:bd}{w:World}{a:Act}{cs:List Frame}(h:Inv X S c μ w a cs){i:Nat}(ag:i<=X.N)(df:i∉S)(b1:jM X.ops S i){s:DStep}(ad:X.steps[i]? =some s):
  ∀lP,dr (eO X.P X.need X.ops X.r s.i (X.f i).env s)=some lP->Region.wanted s.o (yielded X.ops a.tmps)=lP:=by
 obtain⟨dC,gS,e5,j7,j8⟩:=bh.jN ad
 intro lP hw
 unfold eO hS at hw
 unfold Region.wanted
 cases an:s.o.guard with
 |none=>rw[an] at hw;simp only[dr] at hw;cases hw;rfl
 |some p=>
  obtain⟨j,hI⟩:=p
  rw[an] at hw
  simp only at hw⊢
  cases bk:(X.ops[j]?).bind (·.dst) with
  |none=>rw[bk] at hw;simp only[cv,dr] at hw;cases hw
  |some t=>
   rw[bk] at hw
   simp only at hw
   have aj:=bh.F6 h.closed h.kW ag df b1 ad (t:=t) (by
    simp only[kY,List.mem_append]
    refine .inr ?_
    rw[an];simp only[bk];simp)
   rw[Fq bk]
   rw[gS] at hw
   generalize cv i (X.f i).env X.r (bX X.P X.need s.loc (.tmp t))=v at hw aj
   unfold dr at hw
   split at hw
   · rename_i he;cases he
   · rename_i he;cases he;cases hw
     have nt:a.tmps.getD t undef=_:=aj
     rw[nt];rfl
   · rename_i he;cases he;cases hw
     obtain⟨l,ar,mB⟩:=aj
     cases mB
     rw[ar];rfl
   · cases hw
theorem rQ{P:Program}{inR:Bool}{call:cR->List I->J->bM}{gd:Option (I×Bool)}{o:Oper}{g ct:Operand->I}{d:List bw}{q:az}{H:J}(h:∀x∈o.op.operands,g x=ct x):dk P inR call gd o g d q H=dk P inR call gd o ct d q H:=by
 unfold dk;rw[vI o H h]
theorem Inv.one(bh:e6 X){S:List Nat}{c:Nat}{μ:bd}{w:World}{a:Act}{cs:List Frame}(h:Inv X S c μ w a cs){i:Nat}(ag:i<=X.N)(df:i∉S)(b1:jM X.ops S i){s:DStep}(ad:X.steps[i]? =some s)(rest:List Nat)(k:List Item):
  yg X.P μ (X.f c).h w X.b a X.ops s.o i rest k X.cs0 cs (dk X.P X.inR X.call (eO X.P X.need X.ops X.r s.i (X.f i).env s) s.o (jd X.P X.need X.r s (X.f i).env) (X.f c).d (X.f c).q (X.f c).h):=by
 obtain⟨dC,gS,e5,j7,j8⟩:=bh.jN ad
 rw[rQ (vQ (ops:=X.ops))]
 exact Fl bh.ab h.rel (bh.mA.mono h.n9.le) e5 (yE bh h ag df b1 ad) (BA bh h ag df b1 ad) h.rP h.qr bh.dC
theorem Inv.vR(bh:e6 X){S:List Nat}{c c':Nat}{μ aL:bd}{w w':World}{a:Act}{cs bC:List Frame}(h:Inv X S c μ w a cs){i:Nat}(ag:i<X.N)(df:i∉S)(b1:jM X.ops S i){s:DStep}(ad:X.steps[i]? =some s)(hk:∀v bY,¬qk X i s v bY)
  {u:Value}{ds:List Deferred}(aM:a1 aL (X.val i) u)(iE:bg aL (X.f c').h w')(ja:bN μ (X.f c).h w aL (X.f c').h w')(ak:eD aL (X.f c').d ds)(bj:gp aL X.b.kind X.cs0 (X.f c').q bC)
  (tE:(c'=c/\kindOf X.P s.o.op≠ .dA)\/(c'=c+1/\i=c)):Inv X (i::S) c' aL w' {tmps:=(a.put s.o.dst u).tmps,defers:=ds} bC:=by
 obtain⟨dC,gS,e5,j7,j8⟩:=bh.jN ad
 have hle:=ja.le
 have vS:c<=c':=by rcases tE with⟨e,_⟩|⟨e,_⟩<;>omega
 have BB:=h.n_
 refine⟨?_,λj aG=>?_,λj aG=>?_,λj aV h1 aa ao=>?_,iE,bN.trans bh.yy h.rel h.n9 ja,ak,bj,λj h1 aa=>?_,λj aV v bY h1 aa ao aI=>?_,λj h1 aa=>?_,?_,λj aV v bY h1 aa ao aI=>?_,?_,?_⟩
 · rcases tE with⟨e,_⟩|⟨e,au⟩
   · rw[e];exact h.ab
   · omega
 · have hm:jM X.ops S j->jM X.ops (i::S) j:=λaf o aQ e he ae=>List.mem_cons_of_mem _ (af o aQ e he ae)
   rcases List.mem_cons.1 aG with rfl|aG
   · exact hm b1
   · exact hm (h.closed j aG)
 · rcases List.mem_cons.1 aG with rfl|aG
   · exact ag
   · exact h.sub j aG
 · have:=h.dA j aV h1 aa ao
   rw[List.mem_cons,this]
   rcases tE with⟨e,au⟩|⟨e,au⟩
   · subst e
     have:j≠i:=by intro e;subst e;rw[ad] at h1;cases h1;exact au ao
     simp[this]
   · omega
 · have yF:j∉S:=λaf=>aa (List.mem_cons_of_mem _ af)
   cases hm:aL (X.H.n+j) with
   |none=>rfl
   |some cV=>
    have:=(ja.new _ cV (h.cV j h1 yF) hm).1
    omega
 · have yF:j∉S:=λaf=>ao (List.mem_cons_of_mem _ af)
   have nf:j≠i:=λe=>ao (by simp[e])
   have Xy:=aa.1
   have EA:j<c:=by rcases tE with⟨e,_⟩|⟨e,au⟩<;>omega
   rw[ja.idle _ (by have:=bh.fX;omega) (h.cV j (by have:=bh.fX;omega) yF)]
   exact h.lay j aV v bY h1 aa yF EA
 · have aA:=h.tC j (by omega) aa
   cases an:(X.f c').h.get (X.H.n+j) with
   |none=>rfl
   |some o=>exact absurd aA (ja.live _ (by omega) (by rw[an];simp))
 · exact Nat.le_trans BB ja.n
 · have nf:j≠i:=by
     intro e;subst e;rw[ad] at h1;cases h1;exact hk v bY aa
   have tB:j∈S:=by
    rcases List.mem_cons.1 ao with e|af
    · exact absurd e nf
    · exact af
   have vT:=aa.1
   exact(h.e4 j aV v bY h1 aa tB (by omega)).n9 h.rel ja (h.tC j (by omega) (by have:=bh.fX;omega))
 · exact bh.F9 (a:=a) h.closed h.sz (h.kW.mono hle) df b1 ad aM
 · simpa using(rA a s.o.dst u).trans h.sz
theorem vU{s:DStep}{v:I}(bh:e6 X):∀(m:Nat),m<=X.N->∀(nx:Option Nat) (tF:J),j0 X.P X.need X.ops X.r X.N (X.f X.N).env s v nx tF (X.f m).a7=true->
  ∀c aV,c<m->X.steps[c]? =some aV->kindOf X.P aV.o.op=.dA->∃a7,a7=(X.f c).a7/\j0 X.P X.need X.ops X.r X.N (X.f X.N).env s v (some c) (X.f c).h a7=true
 |0,_,nx,tF,h,c,aV,ab,_,_=>by omega
 |m+1,hm,nx,tF,h,c,aV,ab,dg,hk=>by
  obtain⟨ia,aT,bb,_⟩:=bh.k_ (i:=m) (by have:=bh.fX;omega)
  have bk:=bh.qi m ia (by omega) aT
  by_cases e:c=m
  · subst e
    rw[aT] at dg;cases dg
    generalize hf:X.f (c+1)=st at bk h
    cases bk with
    |rL eP=>rw[hk] at eP;cases eP
    |alloc eP=>rw[hk] at eP;cases eP
    |pure eP=>rw[hk] at eP;cases eP
    |dA eP aQ he=>
     unfold j0 at h
     rw[Bool.and_eq_true] at h
     have aa:=h.2
     simp only[bb] at aa
     exact⟨_,rfl,aa⟩
  · have bx:c<m:=by omega
    generalize hf:X.f (m+1)=st at bk h
    cases bk with
    |rL eP=>exact vU bh m (by omega) nx tF h c aV bx dg hk
    |alloc eP=>exact vU bh m (by omega) nx tF h c aV bx dg hk
    |pure eP=>exact vU bh m (by omega) nx tF h c aV bx dg hk
    |dA eP aQ he=>
     unfold j0 at h
     rw[Bool.and_eq_true] at h
     have aa:=h.2
     simp only at aa
     exact vU bh m (by omega) _ _ aa c aV bx dg hk
theorem BC(bh:e6 X):∀(m:Nat),m<=X.N->∀e mk aA l,(X.f m).a7=(e,mk,aA)::l->e<m/\∃aV,X.steps[e]? =some aV/\kindOf X.P aV.o.op=.dA/\mk=aV.dU
 |0,_,e,mk,aA,l,h=>by rw[bh.qj] at h;cases h
 |m+1,hm,e,mk,aA,l,h=>by
  obtain⟨ia,aT,bb,_⟩:=bh.k_ (i:=m) (by have:=bh.fX;omega)
  have bk:=bh.qi m ia (by omega) aT
  generalize hf:X.f (m+1)=st at bk h
  cases bk with
  |dA eP aQ he=>
   simp only[List.cons.injEq,Prod.mk.injEq] at h
   obtain⟨⟨rfl,rfl,rfl⟩,rfl⟩:=h
   exact⟨by omega,ia,by rw[bb];exact aT,eP,rfl⟩
  |_=>obtain⟨h1,aa⟩:=BC bh m (by omega) e mk aA l h;exact⟨by omega,aa⟩
theorem Inv.looks(bh:e6 X){S:List Nat}{c:Nat}{μ:bd}{w:World}{a:Act}{cs:List Frame}(h:Inv X S c μ w a cs)(aC:Norm X c){i:Nat}(ag:i<X.N)(df:i∉S)(b1:jM X.ops S i){s:DStep}(ad:X.steps[i]? =some s)(hk:kindOf X.P s.o.op=.pure):
  gm X.P X.need X.ops X.r X.N (X.f X.N).env s (X.val i) (X.f c).h=true\/gm X.P X.need X.ops X.r X.N (X.f X.N).env s (X.val i) (lI X.P X.need X.ops X.r X.N (X.f X.N).env s (some c) (X.f c).h)=true:=by
 obtain⟨dC,gS,e5,j7,j8⟩:=bh.jN ad
 obtain⟨nx,h1,aa⟩:=bh.looks i s ag ad hk
 have off:∀(nx:Option Nat),(∀e,nx=some e->e=c/\c∉S)->j0 X.P X.need X.ops X.r X.N (X.f X.N).env s (X.val i) nx (X.f c).h (X.f c).a7=true->gm X.P X.need X.ops X.r X.N (X.f X.N).env s (X.val i) (X.f c).h=true\/gm X.P X.need X.ops X.r X.N (X.f X.N).env s (X.val i) (lI X.P X.need X.ops X.r X.N (X.f X.N).env s (some c) (X.f c).h)=true:=by
  intro nx vV bW
  unfold j0 at bW
  rw[Bool.and_eq_true] at bW
  have ao:=bW.1
  split at ao
  · rename_i ae
    exfalso
    rw[Bool.or_eq_true] at ae
    rcases ae with ae|ae
    · cases nx with
      |none=>cases ae
      |some e=>
       obtain⟨rfl,q⟩:=vV e rfl
       exact q (j8 S h.closed b1 _ ae)
    · cases ql:(X.f c).a7 with
      |nil=>rw[ql] at ae;cases ae
      |cons p l=>
       obtain⟨e,mk,aA⟩:=p
       rw[ql] at ae
       obtain⟨aT,aV,bb,bP,rfl⟩:=BC bh c h.ab e mk aA l ql
       have BD:=(h.dA e aV bb (by have:=h.ab;omega) bP).2 aT
       exact df ((bh.jN bb).2.2.2.2 S h.closed (h.closed e BD) i (by rw[gS] at ae;exact ae))
  · rw[Bool.or_eq_true] at ao
    rcases ao with ao|ao
    · exact .inl ao
    · cases nx with
      |none=>exact .inl (by simpa only[lI] using ao)
      |some e=>
       obtain⟨rfl,_⟩:=vV e rfl
       exact .inr ao
 have Gb:∀e aV,X.steps[e]? =some aV->e=X.N->e∉S:=λe aV _ he af=>by have:=h.sub e af;omega
 by_cases vS:c=X.N
 · subst vS
   exact off nx (λe he=>⟨(aa e he).1,λaf=>by have:=h.sub _ af;omega⟩) h1
 · have Gc:c<X.N:=by have:=h.ab;omega
   rcases aC with e|⟨aV,aT,bb⟩
   · exact absurd e vS
   · obtain⟨a7,rfl,aI⟩:=vU bh X.N (Nat.le_refl _) nx _ h1 c aV Gc aT bb
     refine off (some c) (λe he=>⟨by cases he;rfl,λaf=>?_⟩) aI
     have:=(h.dA c aV aT Gc bb).1 af
     omega
end
end aS
namespace aS
open Go
section
variable {X:gR}
theorem Gd(bh:e6 X):∀(m:Nat),m<=X.N->
  (∀e mk aA l,(X.f m).a7=(e,mk,aA)::l->∀j aV,e<j->j<m->X.steps[j]? =some aV->kindOf X.P aV.o.op≠ .dA)/\
  ((X.f m).a7=[]->∀j aV,j<m->X.steps[j]? =some aV->kindOf X.P aV.o.op≠ .dA)
 |0,_=>⟨λe mk aA l h=>(by rw[bh.qj] at h;cases h),λ_ j aV aG=>(by omega)⟩
 |m+1,hm=>by
  obtain⟨tx,tz⟩:=Gd bh m (by omega)
  obtain⟨ia,aT,bb,_⟩:=bh.k_ (i:=m) (by have:=bh.fX;omega)
  have bk:=bh.qi m ia (by omega) aT
  have same:kindOf X.P ia.o.op≠ .dA->(X.f (m+1)).a7=(X.f m).a7->_:=λhk he=>(⟨λe mk aA l h j aV h1 aa ao=>by
    by_cases cw:j=m
    · subst cw;rw[aT] at ao;cases ao;exact hk
    · exact tx e mk aA l (he▸h) j aV h1 (by omega) ao,λh j aV aa ao=>by
    by_cases cw:j=m
    · subst cw;rw[aT] at ao;cases ao;exact hk
    · exact tz (he▸h) j aV (by omega) ao⟩:
   (∀e mk aA l,(X.f (m+1)).a7=(e,mk,aA)::l->∀j aV,e<j->j<m+1->X.steps[j]? =some aV->kindOf X.P aV.o.op≠ .dA)/\((X.f (m+1)).a7=[]->∀j aV,j<m+1->X.steps[j]? =some aV->kindOf X.P aV.o.op≠ .dA))
  generalize hf:X.f (m+1)=st at bk same⊢
  clear hf
  cases bk with
  |rL eP=>exact same (by rw[eP];simp) rfl
  |alloc eP=>exact same (by rw[eP];simp) rfl
  |pure eP=>exact same (by rw[eP];simp) rfl
  |dA eP aQ he=>
   refine⟨λe mk aA l h j aV h1 aa ao=>?_,λh=>by cases h⟩
   simp only[List.cons.injEq,Prod.mk.injEq] at h
   obtain⟨⟨rfl,_,_⟩,_⟩:=h
   omega
theorem Inv.Ge(bh:e6 X){S:List Nat}{c:Nat}{μ:bd}{w:World}{a:Act}{cs:List Frame}(h:Inv X S c μ w a cs)(aC:Norm X c){i:Nat}(ag:i<=X.N)(df:i∉S)(b1:jM X.ops S i){s:DStep}(ad:X.steps[i]? =some s)
  (hk:kindOf X.P s.o.op=.dA)(aQ:∀e m aA l,(X.f i).a7=(e,m,aA)::l->Nat.testBit s.dU e=true):i=c:=by
 obtain⟨dC,gS,e5,j7,j8⟩:=bh.jN ad
 have vu:c<=i:=by
  rcases Nat.lt_or_ge i X.N with h1|h1
  · have:=h.dA i s ad h1 hk
    rcases Nat.lt_or_ge i c with aa|aa
    · exact absurd (this.2 aa) df
    · exact aa
  · have:=h.ab;omega
 rcases Nat.lt_or_ge c i with bx|o3
 · exfalso
   rcases aC with e|⟨aV,aT,bb⟩
   · omega
   · obtain⟨ba,bH⟩:=Gd bh i ag
     cases ql:(X.f i).a7 with
     |nil=>exact bH ql c aV bx aT bb
     |cons p l=>
      obtain⟨e,mk,aA⟩:=p
      obtain⟨dH,s2,ea,g_,_⟩:=BC bh i ag e mk aA l ql
      have BD:=j8 S h.closed b1 e (aQ e mk aA l ql)
      have ND:=(h.dA e s2 ea (by omega) g_).1 BD
      exact ba e mk aA l ql c aV ND bx aT bb
 · omega
theorem Inv.lays(bh:e6 X){S:List Nat}{c:Nat}{μ:bd}{w:World}{a:Act}{cs:List Frame}(h:Inv X S c μ w a cs){i:Nat}(ag:i<X.N)(df:i∉S)(b1:jM X.ops S i){s:DStep}(ad:X.steps[i]? =some s){v:I}{bY:b8}(eH:qk X i s v bY)(aM:X.val i=v)(rest:List Nat)(k:List Item):
  ∃aL w' b_,Steps X.P (lone (X.b.atR a (.inRegion X.ops (i::rest)::k)) cs w) (lone (X.b.atR b_ (.inRegion X.ops rest::k)) cs w')/\Inv X (i::S) c aL w' b_ cs:=by
 obtain⟨dC,gS,e5,j7,j8⟩:=bh.jN ad
 obtain⟨_,hk,hw,aJ⟩:=eH
 have rz:=yE bh h (Nat.le_of_lt ag) df b1 ad _ hw
 rw[vJ _ _ (vQ (ops:=X.ops))] at aJ
 obtain⟨u,O,sz,ar⟩:=MP (P:=X.P) (w:=w) s.o (BA bh h (Nat.le_of_lt ag) df b1 ad) aJ
 have bW:=stepGR_op (P:=X.P) (b:=X.b) (a:=a) (k:=k) (cs:=cs) (w:=w) (rest:=rest) e5 rz
 have lQ:s.o.semAt X.b.roundOf a.eval=execOp a.eval s.o:=Oper.semAt_eq _ _ _ λrR e=>by rw[e] at hk;cases hk
 rw[lQ] at bW
 obtain⟨g1,_⟩:=ry bW
 have fH:=g1 _ _ ar.run
 have hW:(X.b.atR a (.inRegion X.ops (i::rest)::k)).finish u=X.b.atR (a.put s.o.dst u) (.inRegion X.ops rest::k):=by
  rw[Frame.finish_atR,e5];rfl
 rw[hW] at fH
 have gg:=h.cV i dC df
 have BB:=h.n_
 have hJ:∀o,(X.f c).h.get (X.H.n+i)=some o->o=bY:=λo an=>by
  rcases Nat.lt_or_ge i c with bx|o3
  · have:=h.lay i s v bY ad ⟨ag,hk,hw,by rw[vJ _ _ (vQ (ops:=X.ops))];exact aJ⟩ df bx
    rw[an] at this;cases this;rfl
  · rw[h.tC i o3 dC] at an;cases an
 obtain⟨hle,iE⟩:=h.rel.early (b:=X.H.n+i) (by omega) gg hJ ar.obj
 have ja:=h.n9.early bh.yy (b:=X.H.n+i) (by omega) gg (O:=O) (sz:=sz)
 have yG:a1 (fC μ (X.H.n+i) ⟨w.heap.size,0,sz⟩) (X.val i) u:=by rw[aM];exact ar.val _ hle (fD _ _ _)
 refine⟨fC μ (X.H.n+i) ⟨w.heap.size,0,sz⟩,_,_,fH,?_⟩
 have hm:∀{j},jM X.ops S j->jM X.ops (i::S) j:=λaf o aQ e he ae=>List.mem_cons_of_mem _ (af o aQ e he ae)
 refine⟨h.ab,λj aG=>?_,λj aG=>?_,λj aV h1 aa ao=>?_,iE,ja,?_,h.qr.mono hle,λj h1 aa=>?_,λj aV v bY h1 aa ao aI=>h.lay j aV v bY h1 aa (λaf=>ao (List.mem_cons_of_mem _ af)) aI,h.tC,h.n_,λj aV v' Bz h1 aa ao aI=>?_,bh.F9 h.closed h.sz (h.kW.mono hle) df b1 ad yG,(rA _ _ _).trans h.sz⟩
 · rcases List.mem_cons.1 aG with rfl|aG
   · exact hm b1
   · exact hm (h.closed j aG)
 · rcases List.mem_cons.1 aG with rfl|aG
   · exact ag
   · exact h.sub j aG
 · have nf:j≠i:=by intro e;subst e;rw[ad] at h1;cases h1;rw[hk] at ao;cases ao
   rw[List.mem_cons]
   simp only[nf,false_or]
   exact h.dA j aV h1 aa ao
 · rw[put_defers];exact h.rP.mono hle
 · have nf:j≠i:=λe=>aa (by simp[e])
   rw[gD _ _ (by omega)]
   exact h.cV j h1 (λaf=>aa (List.mem_cons_of_mem _ af))
 · rcases List.mem_cons.1 ao with e|ao
   · subst e
     rw[ad] at h1;cases h1
     have:=aa.2.2.2
     rw[vJ _ _ (vQ (ops:=X.ops)),aJ] at this
     cases this
     refine⟨⟨w.heap.size,0,sz⟩,O,fD _ _ _,World.heap_alloc_new _ _,λaL w' pY hO=>ar.obj aL w' (hle.trans pY) hO,λd gZ ak aG=>?_⟩
     rw[gD _ _ ak] at aG
     have:=(h.rel.lt d gZ aG).2
     simp only;omega
   · exact(h.e4 j aV v' Bz h1 aa ao aI).early h.rel gg
theorem vW(bh:e6 X){i:Nat}(ag:i<=X.N):Bd i (hT (X.ops.toList.take i) 0 []):=λt a aJ=>by
 obtain⟨j,o,h1,rfl,_⟩:=(vO X.ops.toList t i (by have:=bh.fX;simp;omega)).1 a aJ
 exact h1
theorem NF{P:Program}{need:Nat}{ops:Array Oper}{r:aN}{n:Nat}{env:List I}{s:DStep}{nx:Option Nat}{h:J}:lI P need ops r n env s nx h=h\/
  ∃e src dst x j aV t l c b off m cp v bY,nx=some e/\s.o.op=.convert src dst x/\bX P need s.loc x=.env j/\e<j/\Nat.testBit s.dU j=true/\nth j (ed ops.toList 0 [] [])=some aV/\aV.o.op=.makeSlice t l c/\
   cv n env r (.env j)=.slice b off m cp/\dr (eO P need ops r n env aV)=some true/\hs P (.makeSlice t l c) (λy=>cv n env r (bX P need aV.loc y)) b=some (v,bY)/\lI P need ops r n env s nx h=h.set b (some bY):=by
 unfold lI
 split
 · rename_i e src dst x U
   split
   · rename_i j aG
     split
     · rename_i aV ae dg
       split
       · rename_i t l c b off m cp h1 aa ao
         split
         · rename_i v bY aJ
           rw[Bool.and_eq_true,Nat.blt_eq] at ae
           exact .inr ⟨e,src,dst,x,j,aV,t,l,c,b,off,m,cp,v,bY,rfl,U,aG,ae.1,ae.2,dg,h1,aa,ao,aJ,rfl⟩
         · exact .inl rfl
       · exact .inl rfl
     · exact .inl rfl
   · exact .inl rfl
 · exact .inl rfl
theorem NG{P:Program}{t:TypeId}{l c:Operand}{g:Operand->I}{b ku off m:Nat}{cp:cb}{o:b8}(h:hs P (.makeSlice t l c) g b=some (.slice ku off m cp,o)):ku=b:=by
 unfold hs at h
 simp only at h
 split at h
 · split at h
   · split at h
     · split at h
       · cases h;rfl
       · cases h
     · cases h
   · cases h
 · cases h
theorem NH{P:Program}{μ:bd}{H aD:J}{w:World}(af:bg μ H w){src dst:TypeId}{x v:I}{bo:Value}(U:a1 μ x bo)(ak:∀e,P.underlying dst≠some (.slice e))(he:iB P src dst x H=.val v aD):
  ∃u,(convert src dst bo).run P w=.ok u w/\a1 μ v u:=by
 unfold iB at he
 split at he
 · rename_i kt k bt n ad ak
   cases U;cases he
   exact⟨.int k (k.wrap n),by simp[convert,bD ad,bD ak,Conv.intToInt],rfl⟩
 · rename_i kt bt n ad ak
   cases U;cases he
   exact⟨.string (Utf8.encode n),by simp[convert,bD ad,bD ak,Conv.intToString],_,rfl,rfl⟩
 · rename_i s ad ak
   obtain⟨t,rfl,rfl⟩:=U
   cases he
   exact⟨.string t,by simp[convert,bD ad,bD ak],_,rfl,rfl⟩
 · rename_i e s ad mD
   exact absurd mD (ak e)
 · rename_i e ad mD
   have key:P.underlying e=some (.int .u8)->∀a n c,(convert src dst (.slice a n c)).run P w=(Conv.bytesToString (.slice a n c)).run P w:=by
    intro he a n c
    simp[convert,bD ad,bD mD,bD he]
   split at he
   · rename_i o4
     cases U;cases he
     refine⟨.string .empty,?_,.empty,rfl,rfl⟩
     rw[key o4];rfl
   · rename_i b off n o4
     split at he
     · rename_i aC
       subst aC
       obtain⟨i,_,_,a,c,rfl⟩:=U
       cases he
       refine⟨.string .empty,?_,.empty,rfl,rfl⟩
       rw[key o4];rfl
     · cases he
   · rename_i b off n c iW o4
     split at he
     · rename_i cs ar
       split at he
       · rename_i bs ae
         cases he
         obtain⟨u,h1,aa⟩:=EH (P:=P) af (by intro e;subst e;exact iW rfl) U ar ae
         refine⟨u,?_,aa⟩
         have jt:∃a m k,bo=.slice a m k:=by
          obtain⟨i,_,ab⟩:=U
          cases c with
          |exact c=>cases ab;exact⟨_,_,_,rfl⟩
          |aH fx=>obtain⟨c,rfl,_⟩:=ab;exact⟨_,_,_,rfl⟩
          |dead=>obtain⟨_,a,c,rfl⟩:=ab;exact⟨_,_,_,rfl⟩
         obtain⟨a,m,k,rfl⟩:=jt
         rw[key o4];exact h1
       · cases he
     · cases he
   · cases he
 · rename_i u b off ad mD
   split at he
   · rename_i cs el k bB ag n an aW
     split at he
     · rename_i bx
       cases he
       exact⟨bo,E_ af ad mD aW an (by simpa using bx) U,U⟩
     · cases he
   · cases he
 · rename_i u b off ad mD
   split at he
   · rename_i cs el bB ag n an aW
     split at he
     · rename_i ab
       cases he
       exact⟨bo,Fa af ad mD aW an ab U,U⟩
     · cases he
   · cases he
 · cases he
theorem Inv.over(bh:e6 X){S:List Nat}{c:Nat}{μ:bd}{w:World}{a:Act}{cs:List Frame}(h:Inv X S c μ w a cs){i:Nat}(b1:jM X.ops S i){s:DStep}(ad:X.steps[i]? =some s){src dst:TypeId}{x:Operand}{j:Nat}{aV:DStep}{t:TypeId}{l rR:Operand}{b off m:Nat}{cp:cb}{v:I}{bY:b8}
  (NI:c<j)(ae:Nat.testBit s.dU j=true)(dg:nth j (ed X.ops.toList 0 [] [])=some aV)(aQ:aV.o.op=.makeSlice t l rR)(aM:cv X.N (X.f X.N).env X.r (.env j)=.slice b off m cp)(hw:dr (eO X.P X.need X.ops X.r X.N (X.f X.N).env aV)=some true)
  (aJ:hs X.P (.makeSlice t l rR) (λy=>cv X.N (X.f X.N).env X.r (bX X.P X.need aV.loc y)) b=some (v,bY)):bg μ ((X.f c).h.set b (some bY)) w:=by
 obtain⟨dC,gS,e5,j7,j8⟩:=bh.jN ad
 have tB:j∈S:=j8 S h.closed b1 j ae
 have vT:j<X.N:=h.sub j tB
 have hle:=Nat.le_of_lt vT
 have hx:X.steps[j]? =some aV:=by rw[<-ks];exact dg
 obtain⟨_,BE,_,Gf,_⟩:=bh.jN hx
 have eb:eO X.P X.need X.ops X.r X.N (X.f X.N).env aV=eO X.P X.need X.ops X.r aV.i (X.f j).env aV:=by
  unfold eO hS
  cases yH:aV.o.guard with
  |none=>rfl
  |some p=>
   obtain⟨gZ,hI⟩:=p
   simp only
   cases NJ:(X.ops[gZ]?).bind (·.dst) with
   |none=>rfl
   |some t=>
    simp only
    rw[BE,bh.yA hle (by rw[Gf];exact tm (vW bh hle) _)]
 have nw:(λy=>cv X.N (X.f X.N).env X.r (bX X.P X.need aV.loc y))=jd X.P X.need X.r aV (X.f j).env:=funext λy=>by
  unfold jd
  rw[BE,bh.yA hle (by rw[Gf];exact tm (vW bh hle) _)]
 rw[eb] at hw
 rw[nw] at aJ
 have bk:=bh.qi j aV vT hx
 have lS:cv X.N (X.f X.N).env X.r (.env j)=X.val j:=rfl
 generalize hf:X.f (j+1)=st at bk
 cases bk with
 |rL hk rS=>rw[hw] at rS;cases rS
 |alloc hk rS lX=>
  rename_i v1 Xz
  have qm:=bh.vN vT (v:=v1) (by rw[hf])
  rw[lS,qm] at aM
  rw[aQ,aM,BE] at lX
  obtain rfl:=NG lX
  rw[aJ] at lX
  cases lX
  exact h.rel.yD (by have:=h.n_;omega) (.inr (h.e4 j aV _ bY hx ⟨vT,hk,hw,by rw[aQ];exact aJ⟩ tB (Nat.le_of_lt NI)))
 |pure hk he=>rw[aQ] at hk;cases hk
 |dA hk he=>rw[aQ] at hk;cases hk
theorem Inv.step(bh:e6 X){S:List Nat}{c:Nat}{μ:bd}{w:World}{a:Act}{cs:List Frame}(h:Inv X S c μ w a cs){i:Nat}(ag:i<X.N)(df:i∉S)(b1:jM X.ops S i)(rest:List Nat)(k:List Item):
  ∃c' aL w' b_ bC,Steps X.P (lone (X.b.atR a (.inRegion X.ops (i::rest)::k)) cs w) (lone (X.b.atR b_ (.inRegion X.ops rest::k)) bC w')/\Inv X (i::S) c' aL w' b_ bC:=by
 obtain⟨c,aC,h⟩:=h.norm bh _ _ rfl
 obtain⟨s,ad,gS,e5,_⟩:=bh.k_ (i:=i) (by have:=bh.fX;omega)
 have bk:=bh.qi i s ag ad
 have hle:=Nat.le_of_lt ag
 generalize hf:X.f (i+1)=st at bk
 cases bk with
 |rL hk hw=>
  have aM:=bh.vN ag (v:=.aF []) (by rw[hf])
  have vy:=yE bh h hle df b1 ad _ hw
  have k0:=stepR_op_skip (P:=X.P) (b:=X.b) (a:=a) (k:=k) (cs:=cs) (w:=w) (ops:=X.ops) (i:=i) (rest:=rest) (by simp[e5,vy])
  rw[e5] at k0
  have he:a.put ((some s.o).bind (·.dst)) undef={tmps:=(a.put s.o.dst undef).tmps,defers:=a.defers}:=tl a s.o.dst undef
  rw[he] at k0
  refine⟨c,μ,w,_,cs,.one k0,h.vR bh ag df b1 ad (λv bY eH=>?_) (by rw[aM];exact⟨[],rfl,rfl⟩) h.rel (bN.refl _ _ _) h.rP h.qr (.inl ⟨rfl,by rw[hk];simp⟩)⟩
  have:=eH.2.2.1
  rw[hw] at this;cases this
 |alloc hk hw aJ=>
  rename_i v bY
  have aM:=bh.vN ag (v:=v) (by rw[hf])
  obtain⟨aL,w',b_,h1,aa⟩:=h.lays bh ag df b1 ad ⟨ag,hk,hw,by rw[<-gS];rw[<-gS] at aJ;exact aJ⟩ aM rest k
  exact⟨c,aL,w',b_,cs,h1,aa⟩
 |pure hk he=>
  rename_i v d' aX ah
  have aM:=bh.vN ag (v:=v) (by rw[hf])
  have fi:=h.looks bh aC ag df b1 ad hk
  have eW:=h.one bh hle df b1 ad rest k
  have eb:eO X.P X.need X.ops X.r X.N (X.f X.N).env s=eO X.P X.need X.ops X.r s.i (X.f i).env s:=by
   unfold eO hS
   cases yH:s.o.guard with
   |none=>rfl
   |some p=>
    obtain⟨j,hI⟩:=p
    simp only
    cases NJ:(X.ops[j]?).bind (·.dst) with
    |none=>rfl
    |some t=>
     simp only
     rw[gS,bh.yA hle (by rw[(bh.jN ad).2.2.2.1];exact tm (vW bh hle) _)]
  have qn:∀x,cv X.N (X.f X.N).env X.r (bX X.P X.need s.loc x)=jd X.P X.need X.r s (X.f i).env x:=λx=>by
   unfold jd
   rw[gS,bh.yA hle (by rw[(bh.jN ad).2.2.2.1];exact tm (vW bh hle) _)]
  have nw:(λx=>cv X.N (X.f X.N).env X.r (bX X.P X.need s.loc x))=jd X.P X.need X.r s (X.f i).env:=funext qn
  have vX:∀v bY,¬qk X i s v bY:=λv bY eH=>by have:=eH.2.1;rw[hk] at this;cases this
  have b9:kindOf X.P s.o.op≠ .dA:=by rw[hk];simp
  have fi:gm X.P X.need X.ops X.r X.N (X.f X.N).env s (X.val i) (X.f c).h=true\/∃u,Steps X.P (lone (X.b.atR a (.inRegion X.ops (i::rest)::k)) cs w) (lone (X.b.atR (a.put s.o.dst u) (.inRegion X.ops rest::k)) cs w)/\a1 μ (X.val i) u:=by
   rcases fi with fi|fi
   · exact .inl fi
   rcases NF (P:=X.P) (need:=X.need) (ops:=X.ops) (r:=X.r) (n:=X.N) (env:=(X.f X.N).env) (s:=s) (nx:=some c) (h:=(X.f c).h) with aQ|⟨e,src,dst,x,j,aV,t,l,rR,b,off,m,cp,v',bY,h1,aa,ao,aI,bl,cg,da,cZ,oR,BF,BG⟩
   · rw[aQ] at fi;exact .inl fi
   · cases h1
     have NK:=h.over bh b1 ad (src:=src) (dst:=dst) (x:=x) aI bl cg da cZ oR BF
     rw[BG] at fi
     unfold gm at fi
     rw[eb,nw] at fi
     have vy:∀{hI},dr (eO X.P X.need X.ops X.r s.i (X.f i).env s)=some hI->_:=λ{hI} hw=>yE bh h hle df b1 ad _ hw
     split at fi
     · cases fi
     · rename_i tG
       left
       unfold gm
       rw[eb,tG]
     · rename_i tG
       have rz:=vy tG
       right
       split at fi
       · rename_i v1 gN dK
         have BH:=beq_eq _ _ fi
         have NL:iB X.P src dst (jd X.P X.need X.r s (X.f i).env x) ((X.f c).h.set b (some bY))=.val v1 gN:=by
          have:=dK
          unfold b6 at this
          rw[aa] at this
          exact this
         have tH:=BA bh h hle df b1 ad x
         have NM:tD X.ops s.o (jd X.P X.need X.r s (X.f i).env) x=jd X.P X.need X.r s (X.f i).env x:=(vQ (ops:=X.ops) x (by rw[aa];simp[Op.operands])).symm
         rw[NM] at tH
         obtain⟨u,ba,bH⟩:=NH NK tH (λcw NN=>by rw[aa] at hk;unfold kindOf at hk;simp only[NN] at hk;cases hk) NL
         have bW:=stepGR_op (P:=X.P) (b:=X.b) (a:=a) (k:=k) (cs:=cs) (w:=w) (rest:=rest) e5 rz
         have lQ:s.o.semAt X.b.roundOf a.eval=execOp a.eval s.o:=Oper.semAt_eq _ _ _ λrR e=>by rw[e] at aa;cases aa
         rw[lQ] at bW
         obtain⟨g1,_⟩:=ry bW
         have de:(execOp a.eval s.o).run X.P w=.ok (.value u) w:=by
          unfold execOp
          rw[aa]
          simp[ba]
         have fH:=g1 _ _ de
         have hW:(X.b.atR a (.inRegion X.ops (i::rest)::k)).finish u=X.b.atR (a.put s.o.dst u) (.inRegion X.ops rest::k):=by
          rw[Frame.finish_atR,e5];rfl
         rw[hW] at fH
         exact⟨u,fH,by rw[<-BH];exact bH⟩
       · cases fi
  rcases fi with fi|⟨u,s1,s2⟩
  rotate_left
  · refine⟨c,μ,w,_,cs,s1,?_⟩
    rw[tl]
    exact h.vR bh ag df b1 ad vX s2 h.rel (bN.refl _ _ _) h.rP h.qr (.inl ⟨rfl,b9⟩)
  unfold gm at fi
  rw[eb,nw] at fi
  unfold dk at eW he
  cases tG:dr (eO X.P X.need X.ops X.r s.i (X.f i).env s) with
  |none=>rw[tG] at fi;cases fi
  |some hI=>
   rw[tG] at fi eW he
   cases hI with
   |false=>
    simp only at eW he
    cases he
    obtain⟨aL,w',u,iZ,bC,s1,s2,bz,bT,b0,cC⟩:=eW
    exact⟨c,aL,w',_,bC,s1,h.vR bh ag df b1 ad vX (by rw[aM];exact s2) bz bT b0 cC (.inl ⟨rfl,b9⟩)⟩
   |true=>
    simp only at fi eW
    split at fi
    · rename_i v' BI dK
      rw[dK] at eW
      simp only at eW
      have BH:=beq_eq _ _ fi
      have NO:=Nu hk dK
      rw[NO] at eW
      obtain⟨aL,w',u,iZ,bC,s1,s2,bz,bT,b0,cC⟩:=eW
      exact⟨c,aL,w',_,bC,s1,h.vR bh ag df b1 ad vX (by rw[<-BH];exact s2) bz bT b0 cC (.inl ⟨rfl,b9⟩)⟩
    · cases fi
 |dA hk aQ he=>
  rename_i v d' aX ah
  have aM:=bh.vN ag (v:=v) (by rw[hf])
  have kC:=h.Ge bh aC hle df b1 ad hk aQ
  have eW:=h.one bh hle df b1 ad rest k
  have vX:∀v bY,¬qk X i s v bY:=λv bY eH=>by have:=eH.2.1;rw[hk] at this;cases this
  rw[<-kC,he] at eW
  obtain⟨aL,w',u,iZ,bC,s1,s2,bz,bT,b0,cC⟩:=eW
  have av:(X.f (c+1)).h=ah:=by rw[<-kC,hf]
  have au:(X.f (c+1)).d=d':=by rw[<-kC,hf]
  have bm:(X.f (c+1)).q=aX:=by rw[<-kC,hf]
  exact⟨c+1,aL,w',_,bC,s1,h.vR bh ag df b1 ad vX (by rw[aM];exact s2) (by rw[av];exact bz) (by rw[av,<-kC];exact bT) (by rw[au];exact b0) (by rw[bm];exact cC) (.inr ⟨rfl,kC⟩)⟩
end
end aS
namespace aS
open Go
section
variable {X:gR}
def gR.ends(X:gR)(k:List Item)(m0:Machine)(res:lH):Prop:=lT X.P X.need X.br X.lW X.r X.H X.i_ X.b k X.cs0 m0 (hT X.ops.toList 0 []) res
theorem gR.BJ{k:List Item}{m0 m1:Machine}{res:lH}(h:Steps X.P m0 m1)(ah:X.ends k m1 res):X.ends k m0 res:=by
 unfold gR.ends at*
 cases res with
 |ok env d q aD=>obtain⟨aL,w',b_,bC,s1,s2⟩:=ah;exact⟨aL,w',b_,bC,h.trans s1,s2⟩
 |bu v d q aD=>obtain⟨aL,w',b_,bC,u,cO,s1,s2⟩:=ah;exact⟨aL,w',b_,bC,u,cO,h.trans s1,s2⟩
 |fail s=>trivial
structure BK(X:gR)(res:lH):Prop where
 ok:X.N=X.ops.size->res=.ok (X.f X.N).env (X.f X.N).d (X.f X.N).q (X.f X.N).h
 bu:X.N<X.ops.size->∀s,X.steps[X.N]? =some s->∃v d' aX ah,dk X.P X.inR X.call (eO X.P X.need X.ops X.r s.i (X.f X.N).env s) s.o (jd X.P X.need X.r s (X.f X.N).env) (X.f X.N).d (X.f X.N).q (X.f X.N).h=.bu v d' aX ah/\res=.bu v d' aX ah
theorem Inv.order(bh:e6 X){res:lH}(dc:BK X res)(k:List Item):∀(L S:List Nat) (c:Nat) (μ:bd) (w:World) (a:Act) (cs:List Frame),rI X.ops S L->Inv X S c μ w a cs->X.ends k (lone (X.b.atR a (.inRegion X.ops L::k)) cs w) res
 |[],S,c,μ,w,a,cs,aQ,h=>by
  have dD:∀i,i<X.ops.size->i∈S:=aQ
  have fX:X.N=X.ops.size:=by
   have:=bh.fX
   rcases Nat.lt_or_ge X.N X.ops.size with bx|o3
   · have:=h.sub _ (dD _ bx);omega
   · omega
  obtain⟨c,aC,h⟩:=h.norm bh _ _ rfl
  have Gb:c=X.N:=by
   rcases aC with e|⟨s,aT,bb⟩
   · exact e
   · have:=h.ab
     rcases Nat.lt_or_ge c X.N with bx|o3
     · have:=(h.dA c s aT bx bb).1 (dD c (by omega));omega
     · omega
  subst Gb
  rw[dc.ok fX]
  have hlen:=bh.yz X.N (Nat.le_refl _)
  have Gg:X.ops.toList.take X.N=X.ops.toList:=by rw[fX];exact List.take_of_length_le (by simp)
  have j7:=vW bh (Nat.le_refl X.N)
  rw[Gg] at j7
  refine⟨μ,w,a,cs,.one stepR_region_end,⟨by rw[hlen];exact j7,λt=>?_⟩,h.sz,h.rel,h.n9,h.rP,h.qr⟩
  rw[hlen]
  obtain⟨f1,f2⟩:=vO X.ops.toList t X.N (by simp;omega)
  rw[Gg] at f1 f2
  simp only[bX]
  cases hf:gY t (hT X.ops.toList 0 []) with
  |some ac=>
   obtain⟨j,o,aG,rfl,lN,ak,nZ⟩:=f1 ac hf
   have:=(h.kW t).1 j o (dD j (by omega)) (by simpa using lN) ak λk o' hk gq lR=>by
    rcases Nat.lt_or_ge j k with bx|o3
    · exact absurd lR (nZ k o' bx (h.sub k hk) (by simpa using gq))
    · exact o3
   exact this
  |none=>
   simp only[]
   cases ae:Nat.testBit X.need t with
   |false=>trivial
   |true=>
    exact(h.kW t).2 (λj o aG gq ak=>f2 hf j o (h.sub j aG) (by simpa using gq) ak) ae
 |i::L,S,c,μ,w,a,cs,aQ,h=>by
  obtain⟨ag,df,b1,j2⟩:=aQ
  rcases Nat.lt_trichotomy i X.N with bx|heq|rT
  · obtain⟨c',aL,w',b_,bC,h1,aa⟩:=h.step bh bx df b1 L k
    exact gR.BJ h1 (Inv.order bh dc k L (i::S) c' aL w' b_ bC j2 aa)
  ·
   obtain⟨s,ad,gS,e5,_⟩:=bh.k_ ag
   obtain⟨c,aC,h⟩:=h.norm bh _ _ rfl
   rw[heq] at ad
   obtain⟨dI,dQ,la⟩:=bh.last s ad
   rw[<-heq] at ad dQ
   have kC:=h.Ge bh aC (Nat.le_of_eq heq) df b1 ad dI dQ
   have eW:=h.one bh (Nat.le_of_eq heq) df b1 ad L k
   obtain⟨v,d',aX,ah,av,au⟩:=dc.bu (by omega) s (by rw[<-heq];exact ad)
   rw[<-heq] at av
   rw[<-kC,av] at eW
   rw[au]
   obtain⟨aL,w',u,s1,s2,bz,bT,b0,cC⟩:=eW
   rw[kC] at bT
   refine⟨aL,w',a,cs,u,_,s1,trivial,s2,λt bk ae=>?_,h.sz,bz,bN.trans bh.yy h.rel h.n9 bT,b0,cC⟩
   obtain⟨f1,f2⟩:=vO X.ops.toList t X.ops.toList.length (Nat.le_refl _)
   rw[List.take_length] at f2
   have:=(h.kW t).2 (λj o aG gq ak=>f2 bk j o (by have:=h.sub j aG;have:=bh.fX;simp;omega) (by simpa using gq) ak) ae
   exact this.mono bT.le
  · exfalso
    obtain⟨s,ad,_⟩:=bh.k_ (i:=X.N) (by omega)
    obtain⟨aV,dg,_,_,_,j8⟩:=bh.k_ ag
    have:=(bh.last s ad).2.2 i aV rT dg
    rw[(bh.jN ad).2.1] at this
    have:=h.sub _ (j8 S h.closed b1 _ this)
    omega
end
section
variable {P:Program}
theorem Gh{need:Nat}{ops:Array Oper}{r:aN}{n:Nat}{env:List I}{last:Option Nat}{h:J}{a7:List (Nat×Nat×J)}:∀{l:List DStep},kr P need ops r n env last h a7 l=true->∀s∈l,s.i<n->kindOf P s.o.op=.pure->j0 P need ops r n env s ((nth (n-1-s.i) env).getD .bad) last h a7=true
 |[],_,s,ad,_,_=>by cases ad
 |x::l,ar,s,ad,ag,hk=>by
  simp only[kr,Bool.and_eq_true] at ar
  rcases List.mem_cons.1 ad with rfl|ad
  · have h1:=ar.1
    have ae:Nat.blt s.i n=true:=by simpa using ag
    rw[ae,hk] at h1
    exact h1
  · exact Gh ar.2 s ad ag hk
theorem tI(hm:P.follows .mixedOrders=true){call:cR->List I->J->bM}(ab:iY P call)(need br:Nat):j5 P need br call:=by
 intro ops id hK hdr b inR r d q H μ w a k cs0 cs dC aj bp af an ak bj
 unfold q5
 simp only
 obtain⟨n5,eX⟩:∃n5:rJ,n5=⟨[],d,q,⟨H.t,H.n+ops.size⟩,[]⟩:=⟨_,rfl⟩
 obtain⟨res,eQ⟩:∃res,fB P need inR call ops r H.n (ed ops.toList 0 [] []) [] d q ⟨H.t,H.n+ops.size⟩ []=res:=⟨_,rfl⟩
 rw[eQ]
 by_cases Gi:∃tJ,res=.fail tJ
 · obtain⟨tJ,e⟩:=Gi;subst e;trivial
 have vY:∀tJ,res≠ .fail tJ:=λtJ e=>Gi ⟨tJ,e⟩
 have NP:fB P need inR call ops r H.n (ed ops.toList 0 [] []) n5.env n5.d n5.q n5.h n5.a7=res:=by rw[eX];exact eQ
 obtain⟨f,N,f0,fX,Gj,tE⟩:=F3 _ _ _ NP vY
 have hlen:(ed ops.toList 0 [] []).length=ops.size:=by rw[Bt];simp
 rw[hlen] at fX
 have Gk:∀m,m<=N->(f m).env.length=m:=λm=>by
  induction m with
  |zero=>intro _;rw[f0,eX];rfl
  |succ m bc=>
   intro pX
   have ad:(ed ops.toList 0 [] [])[m]? =some (ed ops.toList 0 [] [])[m]:=List.getElem?_eq_getElem (by omega)
   have bk:=Gj m _ (by omega) ad
   have NQ:=bc (by omega)
   generalize f (m+1)=st at bk
   cases bk<;>simp[NQ]
 let X:gR:={P:=P,need:=need,br:=br,inR:=inR,call:=call,ops:=ops,r:=r,b:=b,lW:=μ,H:=H,i_:=w,cs0:=cs0,N:=N,f:=f}
 let b5:World:={w with drawn:=w.drawn+1}
 have qh:∀o i,ops[i]? =some o->nb o i=true:=λo i aQ=>by
  have ag:i<ops.size:=(Array.getElem?_eq_some_iff.1 aQ).1
  have gq:ops.toList[i]? =some o:=by simpa using aQ
  obtain⟨s,h1,aa,ao,_⟩:=vL (ops:=ops) ops.toList 0 [] [] (λk=>by simp) (tv hdr) (λj aG=>by omega) i o gq
  have:=tv hdr s (List.mem_of_getElem? h1)
  rw[ao] at this
  have o5:s.i=i:=by omega
  rw[o5] at this;exact this
 have kD:=Nt qh (w.tape w.drawn (.order b.fn id))
 have de:Steps P (lone (b.atR a (.code (.region id ops true)::k)) cs w) (lone (b.atR a (.inRegion ops (Region.schedule true ops (w.tape w.drawn (.order b.fn id)))::k)) cs b5):=by
  have:=stepR_region_draw (P:=P) (b:=b) (a:=a) (k:=k) (cs:=cs) (w:=w) (ops:=ops) (id:=id)
  rw[hm] at this
  exact .one this
 have hinv:Inv X [] 0 μ b5 a cs:=by
  refine⟨Nat.zero_le _,(λj aG=>by cases aG),(λj aG=>by cases aG),(λi s h1 aa ao=>⟨λaG=>(by cases aG),λaG=>(by omega)⟩),?_,?_,?_,?_,λi ag _=>?_,(λi s v bY h1 aa ao aI=>by omega),λi ag aa=>?_,?_,(λi s v bY h1 aa ao aI=>by cases ao),?_,bp⟩
  · show bg μ (f 0).h b5
    rw[f0,eX]
    exact⟨λhI o i ae ag=>(af.rel hI o i ae ag).mono (dB.refl μ) rfl,af.inj,λhI i ag=>⟨Nat.lt_of_lt_of_le (af.lt hI i ag).1 (Nat.le_add_right _ _),(af.lt hI i ag).2⟩,λhI ae=>af.bound hI (Nat.le_trans (Nat.le_add_right _ _) ae)⟩
  · show bN μ H w μ (f 0).h b5
    rw[f0,eX]
    exact⟨dB.refl μ,Nat.le_refl _,Nat.le_add_right _ _,λ_ _ ar=>ar,λ_ _ _=>rfl,λ_ _ _=>rfl,(λhI i h1 aa=>by rw[h1] at aa;cases aa),λ_ _ _ ae _ _=>⟨ae,rfl⟩,rfl,rfl,rfl,Nat.le_succ _⟩
  · show eD μ (f 0).d a.defers
    rw[f0,eX];exact ak
  · show gp μ b.kind cs0 (f 0).q cs
    rw[f0,eX];exact bj
  · show μ (H.n+i)=none
    cases e:μ (H.n+i) with
    |none=>rfl
    |some cV=>have:=(af.lt _ cV e).1;omega
  · show(f 0).h.get (H.n+i)=none
    rw[f0,eX]
    exact af.bound (H.n+i) (Nat.le_add_right _ _)
  · show H.n+ops.size<=(f 0).h.n
    rw[f0,eX];exact Nat.le_refl _
  · intro t
    exact⟨λj o aG=>(by cases aG),λ_ ae=>aj t ae⟩
 have Gl:∀(nx:Option Nat) (fi:kr P need ops r (f N).env.length (f N).env nx (f N).h (f N).a7 (ed ops.toList 0 [] [])=true) (vV:∀e,nx=some e->e=N/\N<ops.size)
   (nZ:∀s,(ed ops.toList 0 [] [])[N]? =some s->kindOf P s.o.op=.dA/\(∀e m aA l,(f N).a7=(e,m,aA)::l->Nat.testBit s.dU e=true)/\∀k aV,N<k->(ed ops.toList 0 [] [])[k]? =some aV->Nat.testBit aV.dU s.i=true),e6 X:=by
  intro nx fi vV nZ
  refine⟨ab,dC,hK,hdr,fX,Gj,by show(f 0).env=[];rw[f0,eX],by show(f 0).a7=[];rw[f0,eX],λi s ag ad hk=>?_,nZ,an,af⟩
  have gS:s.i=i:=by
   have BL:i<ops.size:=Nat.lt_of_lt_of_le ag fX
   obtain⟨aV,h1,aa,_⟩:=vL (ops:=ops) ops.toList 0 [] [] (λk=>by simp) (tv hdr) (λj aG=>by omega) i _ (show ops.toList[i]? =some ops[i] by simp[BL])
   have hx:(ed ops.toList 0 [] [])[i]? =some s:=ad
   rw[h1] at hx;cases hx;omega
  have:=Gh fi s (List.mem_of_getElem? ad) (by rw[Gk N (Nat.le_refl _),gS];exact ag) hk
  rw[Gk N (Nat.le_refl _),gS] at this
  exact⟨nx,this,vV⟩
 rcases tE with⟨XA,U⟩|⟨s,ad,hk,aQ,NR,v,d',aX,ah,he,U⟩
 · subst U
   simp only
   cases fi:kr P need ops r (f N).env.length (f N).env none (f N).h (f N).a7 (ed ops.toList 0 [] []) with
   |false=>trivial
   |true=>
    simp only
    have bh:=Gl none fi (λe he=>by cases he) (λs ad=>by rw[List.getElem?_eq_none (by omega)] at ad;cases ad)
    have dc:BK X (.ok (f N).env (f N).d (f N).q (f N).h):=⟨λ_=>rfl,λbx=>by
     have AE:N<ops.size:=bx
     omega⟩
    exact gR.BJ (X:=X) de (Inv.order bh dc k _ [] 0 μ b5 a cs kD hinv)
 · subst U
   simp only
   have gS:s.i=N:=by
    have BL:N<ops.size:=by have:=(List.getElem?_eq_some_iff.1 ad).1;omega
    obtain⟨aV,h1,aa,_⟩:=vL (ops:=ops) ops.toList 0 [] [] (λk=>by simp) (tv hdr) (λj aG=>by omega) N _ (show ops.toList[N]? =some ops[N] by simp[BL])
    rw[h1] at ad;cases ad;omega
   have NS:N<ops.size:=by have:=(List.getElem?_eq_some_iff.1 ad).1;omega
   cases fi:kr P need ops r (f N).env.length (f N).env (some s.i) (f N).h (f N).a7 (ed ops.toList 0 [] []) with
   |false=>trivial
   |true=>
    simp only
    have bh:=Gl (some s.i) fi (λe he=>by cases he;exact⟨gS,NS⟩) (λaV dg=>by rw[ad] at dg;cases dg;exact⟨hk,aQ,NR⟩)
    have dc:BK X (.bu v d' aX ah):=⟨λe=>by
     have cw:N=ops.size:=e
     omega,λ_ aV dg=>by
     have hx:(ed ops.toList 0 [] [])[N]? =some aV:=dg
     rw[ad] at hx;cases hx
     exact⟨v,d',aX,ah,he,rfl⟩⟩
    exact gR.BJ (X:=X) de (Inv.order bh dc k _ [] 0 μ b5 a cs kD hinv)
structure Fit(P:Program):Prop where
 mixed:P.follows .mixedOrders=true
 code:tr P
 ext:ys P
theorem rU(hf:Fit P){intr:Nat->List I->J->Option (I×J)}(ag:hy P intr)(n:Nat):iY P (cF P intr n):=
 FX ag (λcall ab need br=>tI hf.mixed ab need br) hf.code hf.ext n
end
end aS
namespace aS
open Go Go.RowKit Go.ChangeShapes Go.WideShapes
section
variable {P:Program}
def NT(P:Program):Bool:=P.funcs.toList.all λfn=>match fn.body with
 |some c=>fQ fn.ntmps c&&!(fn.name== "runtime.NumGoroutine")
 |none=>true
def NU(P:Program):Bool:=P.funcs.toList.all λfn=>match fn.body with
 |some _=>true
 |none=>!qf.contains fn.name||(Extern.findNext fn).isNone
theorem Gm{g:FuncId}{gM:Func}(h:P.funcs[g]? =some gM):gM∈P.funcs.toList:=by
 rw[<-Array.getElem?_toList] at h;exact List.mem_of_getElem? h
theorem NV(hm:P.follows .mixedOrders=true)(ab:NT P=true)(he:NU P=true):Fit P where
 mixed:=hm
 code:=λg gM gc an ae=>by
  have:=List.all_eq_true.1 ab gM (Gm an)
  rw[ae] at this
  simp only[Bool.and_eq_true,Bool.not_eq_true'] at this
  exact this
 ext:=λg gM an ae aC=>by
  have:=List.all_eq_true.1 he gM (Gm an)
  rw[ae] at this
  simp only[Bool.or_eq_true,Bool.not_eq_true',List.contains_eq_mem,decide_eq_false_iff_not] at this
  rcases this with h|h
  · exact absurd aC h
  · simpa using h
def rV(H:J):Prop:=∀b o,H.get b=some o->o.nd=true
theorem bN.below{μ aL:bd}{H aD:J}{W gr:World}(aj:rV H)(af:bg μ H W)(h:bN μ H W aL aD gr):Below W.heap.size W gr:=by
 refine⟨h.os,h.tape,h.out,h.size,λr bx=>?_⟩
 by_cases he:∃b i,H.get b≠none/\μ b=some i/\i.a6=r
 · obtain⟨b,i,h1,aa,rfl⟩:=he
   cases an:H.get b with
   |none=>exact absurd an h1
   |some o=>exact(h.ro b o i an (aj b o an) aa).2
 · exact h.old r bx λb i h1 aa ao=>he ⟨b,i,h1,aa,ao⟩
def tK(G:Nat):bd:=λb=>if b<G then some ⟨b,0,0⟩ else none
theorem BM{W:World}(jv:P.globals.size<=W.heap.size):bg (tK P.globals.size) (ml P.globals.size) W/\fR P (tK P.globals.size)/\rV (ml P.globals.size):=by
 have aC:∀b,(ml P.globals.size).get b=none:=λb=>rfl
 refine⟨⟨λb o i h=>(by rw[aC] at h;cases h),λb c i j h=>absurd (aC b) h,λb i h=>?_,λb _=>aC b⟩,λg an=>⟨⟨g,0,0⟩,by simp[tK,an],rfl,rfl⟩,λb o h=>(by rw[aC] at h;cases h)⟩
 unfold tK at h
 split at h
 · rename_i ae;cases h;exact⟨ae,Nat.lt_of_lt_of_le ae jv⟩
 · cases h
theorem Gn(hf:Fit P){intr:Nat->List I->J->Option (I×J)}(ag:hy P intr){n:Nat}{f:Nat}{fn:Func}{c:Code}(mz:P.funcs[f]? =some fn)(ae:fn.body=some c){args:List I}{H:J}{v:I}{aD:J}
  (de:cF P intr n (.fn f) args H=.ret v aD){μ:bd}{W:World}{vs:List Value}(af:bg μ H W)(an:fR P μ)(aM:bL μ args vs):
  Calls P f ⟨vs⟩ W λe gr=>∃aL u,e=.returned u/\a1 aL v u/\bg aL aD gr/\bN μ H W aL aD gr:=by
 have h1:=(rU hf ag n).fn f args H (by rw[de];rfl) μ W vs af an aM
 rw[de] at h1
 obtain⟨_,Bp⟩:=hf.code f fn c mz ae
 have he:=vD mz ae Bp ⟨vs⟩ W
 rcases h1 with⟨v',w',aT,_⟩|⟨_,bb⟩
 · rw[he] at aT;cases aT
 · exact bb.mono λe gr h=>h
def yI:bM->Bool
 |.ret (.bool true) _=>true
 |_=>false
theorem NW{r:bM}(h:yI r=true):∃H,r=.ret (.bool true) H:=by
 unfold yI at h
 split at h
 · exact⟨_,rfl⟩
 · cases h
theorem NX(hf:Fit P){intr:Nat->List I->J->Option (I×J)}(ag:hy P intr){n:Nat}{f:Nat}{fn:Func}{c:Code}(mz:P.funcs[f]? =some fn)(ae:fn.body=some c){args:List I}{H:J}
  (de:yI (cF P intr n (.fn f) args H)=true){μ:bd}{W:World}{vs:List Value}(af:bg μ H W)(aj:rV H)(an:fR P μ)(aM:bL μ args vs):
  Calls P f ⟨vs⟩ W λe gr=>e=.returned (.bool true)/\Below W.heap.size W gr:=by
 obtain⟨aD,e⟩:=NW de
 exact(Gn hf ag mz ae e af an aM).mono λe gr ⟨aL,u,h1,aa,ao,aI⟩=>⟨by cases aa;exact h1,aI.below aj af⟩
def BN(P:Program):Bool:=match P.globals.size with
 |0=>true
 |g+1=>(((begin P (λ_ _=>0) default).world.heap[g]?).bind Obj.row?).isSome
theorem NY{W:World}(ad:W.ShapedOpen P)(ae:BN P=true):P.globals.size<=W.heap.size:=by
 unfold BN at ae
 cases an:P.globals.size with
 |zero=>exact Nat.zero_le _
 |succ g=>
  rw[an] at ae
  simp only at ae
  obtain⟨⟨zero,t⟩,U⟩:=Option.isSome_iff_exists.1 ae
  obtain⟨cs,h1,_⟩:=ad.1 g zero t (by omega) U
  have:=(Array.getElem?_eq_some_iff.1 h1).1
  omega
variable {H:Type} {enc:TypeId×Value->H}
theorem Gp(ar:laidOutB P=true){W gr:World}(ae:Below W.heap.size W gr){sp:Nat->Bool}:∀{ts:List TypeId} {vs:List Value} {ds:List (DataW H)} {ps:List MemPlace},(∀t∈ts,P.readableRec t=true/\t<P.types.size)->
  DataW.TrodAll enc P W 0 (λ_=>true) true ts vs ds ps->(∀x∈ps,x.block<W.heap.size/\sp x.block=true)->DataW.TrodAll enc P gr 0 sp true ts vs ds ps
 |[],[],[],_,_,h,_=>h
 |_::_,_::_,_::_,_,nB,⟨p,q,h1,aa,e⟩,ad=>
  ⟨p,q,WideElems.Trod_stays ar (nB _ (by simp)).1 (nB _ (by simp)).2 h1 (λx U=>ae.same (ad x (by rw[e];simp[U])).1) (λx U=>(ad x (by rw[e];simp[U])).2),
    Gp ar ae (λt bk=>nB t (by simp[bk])) aa (λx U=>ad x (by rw[e];simp[U])),e⟩
theorem NZ{f:Func}{s:ChangeSpec}{apart fresh handsOn again:Bool}{W gr:World}{args:Array Value}{ds gs:List (DataW H)}{before:List MemPlace}{fs:TypeId}
  (ar:laidOutB P=true)(nB:∀t∈f.params.toList,P.readableRec t=true/\t<P.types.size)(eQ:f.resultTypes=#[fs])(yJ:P.underlying fs=some .bool)(BO:s.vars=[])
  (jv:DataW.Whole enc P f.params.toList s.vars apart W args.toList ds gs before)(mz:s.fn H ds={results:=[.lit (.bool true)],args:=ds})(ae:Below W.heap.size W gr):
  s.post enc P f apart fresh handsOn again W args (.bool true) gr:=by
 have bx:∀p∈before,p.block<W.heap.size:=λp a8=>jv.lt p a8
 have N0:=jv
 obtain⟨nC,A6,ff,qo,rfl,aW,aC⟩:=jv
 rw[BO] at qo
 obtain⟨rfl,rfl⟩:=trodVars_none qo
 have e:s.fn H (ds++[])={results:=[.lit (.bool true)],args:=ds}:=by rw[List.append_nil];exact mz
 have gu:∀sp:Nat->Bool,(∀p∈nC++[],sp p.block=true)->DataW.TrodAll enc P gr 0 sp true f.params.toList args.toList ds nC:=λsp N1=>
  Gp ar ae nB ff (λx U=>⟨bx x (by simp[U]),N1 x (by simp[U])⟩)
 have eW:∀(b:Nat) (sp:Nat->Bool) (ak:Bool),DataW.TrodAll enc P gr b sp ak f.resultTypes.toList ((Value.bool true).resultList f.resultTypes.size) [.lit (.bool true)] []:=λb sp ak=>by
  rw[eQ];exact trodAll_mk1 (shut_bool yJ true)
 refine⟨ds,[],nC++[],[],nC,[],N0,?_,?_,?_,World.keptBut_mono (λp a8=>⟨a8,?_⟩) (ae.frame (· ∈nC++[])),λ_=>?_⟩
 · rw[e];exact eW _ _ _
 · rw[e];exact gu _ λp a8=>by simpa using bx p a8
 · rw[e,BO];rfl
 · exact Or.inr (by simpa using a8)
 · refine⟨ok_one eQ rfl (okWide_bool_mk yJ true),_,_,([]++nC)++[],⟨[]++nC,[],trodAll_append (gu _ (λ_ _=>rfl)) (eW _ _ _),show DataW.TrodVars enc P gr (λ_=>true) s.vars [] [] from by rw[BO];rfl,rfl,?_,?_⟩,?_⟩
   · intro b off a8
     have dC:MemPlace.cell b off∈nC++[]:=by simpa using a8
     rw[ae.frozen (bx _ dC)]
     exact aW b off dC
   · intro aJ
     simpa using aC aJ
   · intro p a8 _
     simpa using a8
theorem N2{a:Assume}{C:Checked}{os:Os}{f:FuncId}{fn:Func}{s:ChangeSpec}{conds:List PathCond}{apart fresh handsOn again:Bool}{X:World->Array Value->Prop}
  (bh:∀(w w':World) (args:Array Value),w.heap=w'.heap->X w args->X w' args)
  (own:ownKnob C.prog.godebug=none)(started:os.Started)(N3:C.prog.inits.idxOf? f=none)(mz:C.prog.funcs[f]? =some fn)
  (witness:∃(w:World) (tape:Tape) (i:Input),w.os=os/\(w.forCall tape i).Shaped C.prog/\i.vars=[]/\Input.okWide C.prog (w.forCall tape i) .any w.heap.size f i/\
   ((s.pre enc C.prog fn conds apart (w.forCall tape i).memory i.args/\X (w.forCall tape i).memory i.args)/\sizedMet enc C.prog fn (OpenSpec.ofChange s) apart (w.forCall tape i).memory i.args)/\a.holds C.prog (lone (Frame.enter C.prog f i.args .normal) [] (w.forCall tape i)))
  (N4:∀(W:World) (base:Nat) (args:Array Value) (ds gs:List (DataW H)) (before:List MemPlace),
   (∀(j:Nat) t v,fn.params[j]? =some t->args[j]? =some v->Value.okWide C.prog W .any base t v)->
   DataW.Whole enc C.prog fn.params.toList s.vars apart W args.toList ds gs before->
   (DataW.weightsEach C.prog (fn.params.toList++s.plain.varTypes C.prog) (ds++gs)).all (· <=reachBytes)=true->X W args->W.ShapedOpen C.prog->
   Calls C.prog f args W λe gr=>∃v,e=.returned v/\s.post enc C.prog fn apart fresh handsOn again W args v gr):
  ReturnsInHanded a C os f .any (λw args=>(s.pre enc C.prog fn conds apart w args/\X w args)/\sizedMet enc C.prog fn (OpenSpec.ofChange s) apart w args) (s.post enc C.prog fn apart fresh handsOn again):=by
 refine returnsInHanded_of_calls own started N3 witness ?_
 intro w tape i _ yK _ cP vZ XB
 obtain⟨_,_,_,As,N5,_,_,_,_,lS⟩:=cP
 have e:As=fn:=Option.some.inj (N5.symm.trans mz)
 subst e
 obtain⟨⟨⟨ds,gs,before,hw,ab⟩,U⟩,aW⟩:=vZ
 have rS:=DataW.Whole.of_heap (w':=w.forCall tape i) (by rfl) hw
 refine(N4 (w.forCall tape i) w.heap.size i.args ds gs before lS rS (aW.weights hw) (bh _ _ _ (by rfl) U) yK).mono λe gr ⟨v,he,a8⟩=>?_
 subst he
 exact ChangeSpec.post_blind a8
end
end aS
namespace aS
open Go Go.RowKit
mutual
def kE:I->Bool
 |.bool _=>true
 |.int _ _=>true
 |.str _=>true
 |.c_=>true
 |.bn=>true
 |.fy=>true
 |.h5=>true
 |.ej=>true
 |.fn _ a b=>lb a&&lb b
 |.iface _ v=>kE v
 |.agg cs=>lb cs
 |.aF vs=>lb vs
 |_=>false
def lb:List I->Bool
 |[]=>true
 |v::vs=>kE v&&lb vs
end
mutual
theorem v7{μ aL:bd}:∀(a:I) (v:Value),kE a=true->a1 μ a v->a1 aL a v
 |.bool _,v,_,h=>h
 |.int _ _,v,_,h=>h
 |.str _,v,_,h=>h
 |.c_,v,_,h=>h
 |.bn,v,_,h=>h
 |.fy,v,_,h=>h
 |.h5,v,_,h=>h
 |.ej,v,_,h=>h
 |.fn f a b,v,aj,h=>by
  simp only[kE,Bool.and_eq_true] at aj
  obtain⟨ax,cs,e,h1,aa⟩:=h
  exact⟨ax,cs,e,tL _ _ aj.1 h1,tL _ _ aj.2 aa⟩
 |.iface t x,v,aj,h=>by
  simp only[kE] at aj
  obtain⟨y,e,h1⟩:=h
  exact⟨y,e,v7 _ _ aj h1⟩
 |.agg cs,v,aj,h=>by
  simp only[kE] at aj
  obtain⟨l,e,h1⟩:=h
  exact⟨l,e,tL _ _ aj h1⟩
 |.aF cs,v,aj,h=>by
  simp only[kE] at aj
  obtain⟨l,e,h1⟩:=h
  exact⟨l,e,tL _ _ aj h1⟩
 |.bad,v,aj,h=>by simp[kE] at aj
 |.ptr _ _,v,aj,h=>by simp[kE] at aj
 |.slice _ _ _ _,v,aj,h=>by simp[kE] at aj
 |.map _,v,aj,h=>by simp[kE] at aj
 |.b7 _,v,aj,h=>by simp[kE] at aj
theorem tL{μ aL:bd}:∀(as:List I) (vs:List Value),lb as=true->bL μ as vs->bL aL as vs
 |[],vs,_,h=>h
 |a::as,vs,aj,h=>by
  simp only[lb,Bool.and_eq_true] at aj
  obtain⟨v,yp,e,h1,aa⟩:=h
  exact⟨v,yp,e,v7 a v aj.1 h1,tL as yp aj.2 aa⟩
end
structure o6 where
 f:Nat
 args:List I
 v:I
def o7:List o6->Nat->List I->J->Option (I×J)
 |[],_,_,_=>none
 |e::T,f,args,h=>match Nat.beq f e.f with
  |true=>match I.mg args e.args with
   |true=>some (e.v,h)
   |false=>o7 T f args h
  |false=>o7 T f args h
theorem Gq:∀(T:List o6) (f:Nat) (args:List I) (h:J) (v:I) (ah:J),o7 T f args h=some (v,ah)->ah=h/\∃e∈T,e.f=f/\e.args=args/\e.v=v
 |[],f,args,h,v,ah,U=>by cases U
 |e::T,f,args,h,v,ah,U=>by
  simp only[o7] at U
  have rest:o7 T f args h=some (v,ah)->ah=h/\∃cw∈e::T,cw.f=f/\cw.args=args/\cw.v=v:=λU=>by
   obtain⟨h1,cw,aa,ao⟩:=Gq T f args h v ah U
   exact⟨h1,cw,List.mem_cons_of_mem _ aa,ao⟩
  split at U
  · rename_i hf
    split at U
    · rename_i aJ
      cases U
      exact⟨rfl,e,by simp,(Nat.eq_of_beq_eq_true hf).symm,(tw _ _ aJ).symm,rfl⟩
    · exact rest U
  · exact rest U
section
variable {P:Program}
def BP(P:Program)(intr:Nat->List I->J->Option (I×J))(n:Nat)(e:o6):Bool:=
 match cF P intr n (.fn e.f) e.args (ml P.globals.size) with
 |.ret v _=>I.beq v e.v&&kE e.v&&lb e.args
 |_=>false
def v8(P:Program)(e:o6):Prop:=∃(intr:Nat->List I->J->Option (I×J)) (n:Nat),hy P intr/\BP P intr n e=true
theorem qc.mono{f:FuncId}{vs:List Value}{w:World}{R Gr:Ending->World->Prop}(h:∀e w',R e w'->Gr e w')(an:qc P f vs w R):qc P f vs w Gr:=by
 rcases an with⟨v,w',h1,aa⟩|⟨h1,aa⟩
 · exact .inl ⟨v,w',h1,h _ _ aa⟩
 · exact .inr ⟨h1,aa.mono λe w' he=>h e w' he⟩
theorem Gs(hf:Fit P){T:List o6}(nB:∀e∈T,v8 P e):hy P (o7 T):=by
 intro f args H v aD U μ w vs af an aM
 obtain⟨rfl,e,he,rfl,rfl,rfl⟩:=Gq T f args H v aD U
 obtain⟨intr,n,ag,ae⟩:=nB e he
 unfold BP at ae
 split at ae
 · rename_i v1 H1 de
   simp only[Bool.and_eq_true] at ae
   obtain⟨⟨jO,ev⟩,Gt⟩:=ae
   have qm:=beq_eq _ _ jO
   subst qm
   have lf:P.globals.size<=w.heap.size:=by
    cases bp:P.globals.size with
    |zero=>exact Nat.zero_le _
    |succ g=>
     obtain⟨i,h1,aa,ao⟩:=an g (by omega)
     have:=(af.lt _ i h1).2
     omega
   obtain⟨s1,s2,bz⟩:=BM (P:=P) lf
   have hJ:=(rU hf ag n).fn e.f e.args (ml P.globals.size) (by rw[de];rfl) (tK P.globals.size) w vs s1 s2 (tL _ _ Gt aM)
   rw[de] at hJ
   refine hJ.mono λmy w' vo=>?_
   obtain⟨aL,u,rfl,aT,bb,bP⟩:=vo
   have hold:∀r,r<w.heap.size->w'.heap[r]? =w.heap[r]? :=λr aj=>bP.old r aj λb i ar=>absurd rfl ar
   refine⟨μ,u,rfl,v7 _ _ ev aT,⟨λb o i ae ag=>(af.rel b o i ae ag).mono (dB.refl μ) (hold _ (af.lt b i ag).2),af.inj,λb i ag=>⟨(af.lt b i ag).1,Nat.lt_of_lt_of_le (af.lt b i ag).2 bP.size⟩,af.bound⟩,?_⟩
   exact⟨dB.refl μ,bP.size,Nat.le_refl _,λ_ _ ar=>ar,λ_ _ _=>rfl,λr aj _=>hold r aj,(λb i h1 aa=>by rw[h1] at aa;cases aa),λb o i ae _ ag=>⟨ae,hold _ (af.lt b i ag).2⟩,bP.os,bP.out,bP.tape,bP.drawn⟩
 · cases ae
def v_(P:Program):List o6->Prop
 |[]=>True
 |e::T=>v8 P e/\v_ P T
theorem v_.ok:∀{T:List o6},v_ P T->∀e∈T,v8 P e
 |[],_,e,he=>by cases he
 |x::T,h,e,he=>by
  rcases List.mem_cons.1 he with rfl|he
  · exact h.1
  · exact v_.ok h.2 e he
theorem N6(hf:Fit P){T:List o6}(nB:v_ P T){n:Nat}{e:o6}(h:BP P (o7 T) n e=true):v8 P e:=⟨o7 T,n,Gs hf nB.ok,h⟩
end
end aS
namespace aS
open Go
def lg(G:Nat)(i:fW):bd:=λb=>if b<G then some ⟨b,0,0⟩ else if b=G then some i else none
def qp(G:Nat)(cs:List I)(el:Nat):J:=(ml G).push (.cells cs el .ro 0 0)
theorem wa(G:Nat)(cs:List I)(el b:Nat):(qp G cs el).get b=if b=G then some (.cells cs el .ro 0 0) else none:=by
 unfold qp
 rw[J.gC]
 have aC:(ml G).n=G:=rfl
 rw[aC]
 by_cases h:b=G
 · rw[if_pos h,if_pos h]
 · rw[if_neg h,if_neg h];rfl
theorem N7{P:Program}{W:World}(jv:P.globals.size<=W.heap.size){i:fW}{c:Array Value}{el:Nat}{fz:Nat×Nat}(ae:W.heap[i.a6]? =some (.cells c el fz))(cs:List I)(gf:tc (lg P.globals.size i) cs c i.base)(bp:i.base+i.size=c.size):
  bg (lg P.globals.size i) (qp P.globals.size cs el) W/\fR P (lg P.globals.size i)/\rV (qp P.globals.size cs el):=by
 have bx:i.a6<W.heap.size:=(Array.getElem?_eq_some_iff.1 ae).1
 refine⟨⟨λb o j h aG=>?_,λb c' j k h1 aa ao aI _=>?_,λb j h=>?_,λb h=>?_⟩,λg an=>⟨⟨g,0,0⟩,by simp[lg,an],rfl,rfl⟩,λb o h=>?_⟩
 · rw[wa] at h
   split at h
   · rename_i N8
     cases h
     subst N8
     simp only[lg,Nat.lt_irrefl,if_false,if_true,Option.some.injEq] at aG
     subst aG
     exact⟨c,fz.1,fz.2,ae,gf,bp,trivial⟩
   · cases h
 · rw[wa] at h1 aa
   split at h1
   · split at aa
     · rename_i aT bb;rw[aT,bb]
     · obtain⟨_,aa,_⟩:=aa;cases aa
   · exact absurd rfl h1
 · unfold lg at h
   have aC:(qp P.globals.size cs el).n=P.globals.size+1:=rfl
   split at h
   · rename_i ae;cases h;exact⟨by omega,Nat.lt_of_lt_of_le ae jv⟩
   · split at h
     · rename_i ae;cases h;exact⟨by omega,bx⟩
     · cases h
 · have aC:(qp P.globals.size cs el).n=P.globals.size+1:=rfl
   rw[wa,if_neg (by omega)]
 · rw[wa] at h
   split at h
   · cases h;rfl
   · cases h
end aS
namespace aS
open Go
theorem N9{P:Program}{W:World}{r:Reach}{base t:Nat}{v:Value}{ts:List TypeId}(hu:jX P t=some true)(bk:P.cellTypes P.depth t=some ts)(aC:P.cellsOf t=ts.length)(h:Value.okWide P W r base t v):
  ∃cs:List Value,v=.agg ⟨cs⟩/\cs.length=ts.length/\∀(i:Nat) (x:Value) (u:TypeId),cs[i]? =some x->ts[i]? =some u->Cell.okWide P W r base u x:=by
 have key:∃cs,v=.agg cs/\cs.size=P.cellsOf t/\Row.okWide P W r base t cs:=by
  unfold jX at hu
  unfold Value.okWide at h
  cases U:P.underlying t with
  |none=>rw[U] at hu;cases hu
  |some x=>
   rw[U] at hu h
   cases x<;>first|exact h|simp at hu
 obtain⟨⟨cs⟩,rfl,ad,lY,h1,_,ao⟩:=key
 rw[bk] at h1;cases h1
 have dg:cs.length=ts.length:=by simpa[aC] using ad
 refine⟨cs,rfl,dg,λi x u U hu=>?_⟩
 obtain⟨BQ,nh,ab⟩:=ao i x (by simpa using U)
 have ag:i<ts.length:=(List.getElem?_eq_some_iff.1 hu).1
 rw[Nat.mod_eq_of_lt ag,hu] at nh
 cases nh
 exact ab
theorem wb{P:Program}{W:World}{r:Reach}{base u:Nat}{v:Value}{k:IntKind}(hu:P.underlying u=some (.int k))(h:Cell.okWide P W r base u v):∃n,v=.int k n/\k.has n:=by
 simp only[Cell.okWide,hu] at h
 cases v<;>simp_all [Cell.ok]
end aS
