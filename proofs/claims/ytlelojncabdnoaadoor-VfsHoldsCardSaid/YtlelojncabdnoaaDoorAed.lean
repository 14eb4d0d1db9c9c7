/-
  THE ABSTRACT EVALUATOR (drawn regions; a run of the evaluator is a run of the program): a deterministic semantics of loaded code, and the proof that its runs are runs of the program in the model, whatever the tape draws. No condition.
-/
import Derived.Test.YtlelojncabdnoaaDoorAec
import Derived.Handed
import Derived.ProofKit
import Derived.Below
import Derived.ChangeSame
import Derived.SliceStrings
import Derived.WideShapes
set_option linter.unusedVariables false
set_option linter.unusedSimpArgs false
namespace aU
open Go
structure gh where
 P:Program
 need:Nat
 bk:Nat
 inR:Bool
 call:cM->List I->J->bL
 ops:Array Oper
 r:aC
 b:Frame
 k0:aW
 H:J
 ih:World
 cs0:List Frame
 N:Nat
 f:Nat->qH
def gh.steps(X:gh):List DStep:=dR X.ops.toList 0 [] []
def gh.val(X:gh)(j:Nat):I:=(nth (X.N-1-j) (X.f X.N).env).getD .bad
structure eC(X:gh):Prop where
 ab:ie X.P X.call
 dU:X.inR=X.b.roundOf.isSome
 g_:∀o∈X.ops.toList,∀t,o.dst=some t->t<X.bk
 hdr:nP X.ops X.steps=true
 hX:X.N<=X.ops.size
 pb:∀k s,k<X.N->X.steps[k]? =some s->qI X.P X.need X.inR X.call X.ops X.r X.H.n s (X.f k) (X.f (k+1))
 LY:(X.f 0).env=[]
 pc:(X.f 0).aV=[]
 looks:∀i s,i<X.N->X.steps[i]? =some s->kindOf X.P s.o.op=.pure->∃nx,jk X.P X.need X.ops X.r X.N (X.f X.N).env s (X.val i) nx (X.f X.N).h (X.f X.N).aV=true/\(∀e,nx=some e->e=X.N/\X.N<X.ops.size)
 last:∀s,X.steps[X.N]? =some s->kindOf X.P s.o.op=.dk/\(∀e m ay l,(X.f X.N).aV=(e,m,ay)::l->Nat.testBit s.dF e=true)/\∀k aD,X.N<k->X.steps[k]? =some aD->Nat.testBit aD.dF s.i=true
 lR:fi X.P X.k0
 xD:a8 X.k0 X.H X.ih
section
variable {X:gh}
theorem eC.ko(ba:eC X){i:Nat}(ag:i<X.ops.size):∃s,X.steps[i]? =some s/\s.i=i/\X.ops[i]? =some s.o/\s.loc=hh (X.ops.toList.take i) 0 []/\Sound X.ops i s.dF:=by
 have aN:X.ops.toList[i]? =some X.ops[i]:=by simp[ag]
 obtain⟨s,h1,aa,ao,aM,bA⟩:=uP (ops:=X.ops) X.ops.toList 0 [] [] (λk=>by simp) (sr ba.hdr) (λj aG=>by omega) i _ aN
 refine⟨s,h1,by omega,by rw[ao];exact Array.getElem?_eq_getElem ag,aM,by simpa using bA⟩
theorem eC.jd(ba:eC X){i:Nat}{s:DStep}(h:X.steps[i]? =some s):i<X.ops.size/\s.i=i/\X.ops[i]? =some s.o/\s.loc=hh (X.ops.toList.take i) 0 []/\Sound X.ops i s.dF:=by
 have ag:i<X.ops.size:=by
  have h1:=(List.getElem?_eq_some_iff.1 h).1
  rw[gh.steps,Aq] at h1
  simpa using h1
 obtain⟨aD,h1,aa⟩:=ba.ko ag
 rw[h] at h1;cases h1
 exact⟨ag,aa⟩
theorem eC.apart(ba:eC X){i j:Nat}{s aD:DStep}(mF:i<j)(h1:X.steps[i]? =some s)(aa:X.steps[j]? =some aD)(h:(∃t,s.o.dst=some t/\t∈ka X.ops aD.o)\/(∃t,aD.o.dst=some t/\t∈ka X.ops s.o)):Nat.testBit aD.dF i=true:=by
 have:=ET ba.hdr i j s aD mF h1 aa h
 rw[(ba.jd h1).2.1] at this;exact this
theorem eC.xE(ba:eC X):∀k,k<=X.N->(X.f k).env.length=k
 |0,_=>by rw[ba.LY];rfl
 |k+1,hk=>by
  obtain⟨s,h1,_⟩:=ba.ko (i:=k) (by have:=ba.hX;omega)
  have a7:=ba.xE k (by omega)
  have bd:=ba.pb k s (by omega) h1
  generalize X.f (k+1)=st at bd
  cases bd<;>simp[a7]
theorem eC.EV(ba:eC X)(k:Nat):∀m,k<=m->m<=X.N->∃l,(X.f m).env=l++(X.f k).env
 |0,h1,aa=>⟨[],by obtain rfl:k=0:=by omega
                  rfl⟩
 |m+1,h1,aa=>by
  by_cases e:k=m+1
  · exact⟨[],by rw[e];rfl⟩
  · obtain⟨l,aq⟩:=ba.EV k m (by omega) (by omega)
    obtain⟨s,ae,_⟩:=ba.ko (i:=m) (by have:=ba.hX;omega)
    have bd:=ba.pb m s (by omega) ae
    have:∃v,(X.f (m+1)).env=v::(X.f m).env:=by
     generalize X.f (m+1)=st at bd
     cases bd<;>exact⟨_,rfl⟩
    obtain⟨v,aI⟩:=this
    exact⟨v::l,by rw[aI,aq];rfl⟩
theorem EW{α:Type}:∀(l m:List α) (k:Nat),nth (l.length+k) (l++m)=nth k m
 |[],m,k=>by simp
 |a::l,m,k=>by
  have:(a::l).length+k=(l.length+k)+1:=by simp;omega
  rw[this];exact EW l m k
theorem eC.As(ba:eC X){k j:Nat}(hk:k<=X.N)(aG:j<k):nth (k-1-j) (X.f k).env=nth (X.N-1-j) (X.f X.N).env:=by
 obtain⟨l,aq⟩:=ba.EV k X.N hk (Nat.le_refl _)
 have h1:=ba.xE k hk
 have aa:=ba.xE X.N (Nat.le_refl _)
 rw[aq] at aa⊢
 simp only[List.length_append,h1] at aa
 have:X.N-1-j=l.length+(k-1-j):=by omega
 rw[this,EW]
theorem eC.uR(ba:eC X){k:Nat}(hk:k<X.N){v:I}(h:(X.f (k+1)).env=v::(X.f k).env):X.val k=v:=by
 have h1:=ba.As (k:=k+1) (j:=k) hk (Nat.lt_succ_self k)
 unfold gh.val
 rw[<-h1,h]
 simp[nth]
theorem eC.xF(ba:eC X){k:Nat}(hk:k<=X.N){a:Acc}(aH:a.below k):b9 k (X.f k).env X.r a=b9 X.N (X.f X.N).env X.r a:=by
 cases a with
 |env j=>simp only[b9];rw[ba.As hk aH]
 |iF p=>rfl
 |val v=>rfl
theorem uS(l:List Oper)(t:Nat):∀k,k<=l.length->
  (∀a,gx t (hh (l.take k) 0 [])=some a->∃j o,j<k/\a=.env j/\l[j]? =some o/\o.dst=some t/\∀hi o',j<hi->hi<k->l[hi]? =some o'->o'.dst≠some t)/\
  (gx t (hh (l.take k) 0 [])=none->∀j o,j<k->l[j]? =some o->o.dst≠some t)
 |0,_=>⟨λa h=>by simp[hh,gx] at h,λ_ j o aG=>by omega⟩
 |k+1,hk=>by
  obtain⟨xG,xH⟩:=uS l t k (by omega)
  have aN:l[k]? =some l[k]:=List.getElem?_eq_getElem (by omega)
  rw[ER l 0 [] k l[k] aN,Nat.zero_add]
  unfold fB
  cases al:(l[k]).dst with
  |none=>
   refine⟨λa h=>?_,λh j o aG kP=>?_⟩
   · obtain⟨j,o,h1,aa,ao,aM,bA⟩:=xG a h
     refine⟨j,o,by omega,aa,ao,aM,λhi o' aK a_ bO=>?_⟩
     by_cases e:hi=k
     · subst e;rw[aN] at bO;cases bO;rw[al];simp
     · exact bA hi o' aK (by omega) bO
   · by_cases e:j=k
     · subst e;rw[aN] at kP;cases kP;rw[al];simp
     · exact xH h j o (by omega) kP
  |some d=>
   simp only[mz]
   by_cases e:t=d
   · subst e
     refine⟨λa h=>?_,λh=>by simp at h⟩
     simp at h;subst h
     exact⟨k,_,by omega,rfl,aN,al,λhi o' aK a_=>by omega⟩
   · simp only[e,if_false]
     refine⟨λa h=>?_,λh j o aG kP=>?_⟩
     · obtain⟨j,o,h1,aa,ao,aM,bA⟩:=xG a h
       refine⟨j,o,by omega,aa,ao,aM,λhi o' aK a_ bO=>?_⟩
       by_cases ar:hi=k
       · subst ar;rw[aN] at bO;cases bO;rw[al];simp;exactλb_=>e b_.symm
       · exact bA hi o' aK (by omega) bO
     · by_cases ar:j=k
       · subst ar;rw[aN] at kP;cases kP;rw[al];simp;exactλb_=>e b_.symm
       · exact xH h j o (by omega) kP
def gh.qK(X:gh)(S:List Nat)(μ:aW)(bC:Array Value):Prop:=∀t,
 (∀j o,j∈S->X.ops[j]? =some o->o.dst=some t->(∀k o',k∈S->X.ops[k]? =some o'->o'.dst=some t->k<=j)->aS μ (X.val j) (bC.getD t undef))/\
 ((∀j o,j∈S->X.ops[j]? =some o->o.dst≠some t)->Nat.testBit X.need t=true->aS μ (X.r.get (e2 t)) (bC.getD t undef))
theorem gh.qK.mono{S:List Nat}{μ az:aW}{bC:Array Value}(hle:dm μ az)(h:X.qK S μ bC):X.qK S az bC:=λt=>⟨λj o h1 aa ao aM=>((h t).1 j o h1 aa ao aM).mono hle,λh1 aa=>((h t).2 h1 aa).mono hle⟩
theorem eC.EX(ba:eC X){S:List Nat}(c9:xB X.ops S){μ:aW}{bC:Array Value}(ah:X.qK S μ bC){i:Nat}(ag:i<=X.N)(cY:i∉S)(bR:jc X.ops S i){s:DStep}(ae:X.steps[i]? =some s){t:Nat}(bd:t∈ka X.ops s.o):
  aS μ (b9 i (X.f i).env X.r (bM X.P X.need s.loc (.tmp t))) (bC.getD t undef):=by
 obtain⟨dU,gi,eB,js,jt⟩:=ba.jd ae
 obtain⟨f1,f2⟩:=uS X.ops.toList t i (by simp;omega)
 have EY:∀k o',k∈S->X.ops[k]? =some o'->o'.dst=some t->k<i:=λk o' hk gO al=>by
  have su:k<X.ops.size:=(Array.getElem?_eq_some_iff.1 gO).1
  rcases Nat.lt_trichotomy k i with h|h|h
  · exact h
  · subst h;exact absurd hk cY
  · obtain⟨aD,aK,a_,bO,kO,nS⟩:=ba.ko su
    rw[gO] at bO;cases bO
    have:=ba.apart h ae aK (.inr ⟨t,al,bd⟩)
    exact absurd (nS S c9 (c9 k hk) i this) cY
 simp only[bM,js]
 cases hf:gx t (hh (X.ops.toList.take i) 0 []) with
 |some a=>
  obtain⟨j,o,aG,rfl,kP,al,mW⟩:=f1 a hf
  have EZ:X.ops[j]? =some o:=by simpa using kP
  obtain⟨aD,aK,a_,bO,kO,nS⟩:=ba.ko (i:=j) (by omega)
  rw[EZ] at bO;cases bO
  have sv:j∈S:=jt S c9 bR j (ba.apart aG aK ae (.inl ⟨t,al,bd⟩))
  have:=(ah t).1 j _ sv EZ al λk o' hk gO kU=>by
   have LZ:=EY k o' hk gO kU
   rcases Nat.lt_or_ge j k with h|h
   · exact absurd kU (mW k o' h LZ (by simpa using gO))
   · exact h
  have aI:b9 i (X.f i).env X.r (.env j)=X.val j:=by
   simp only[b9,gh.val]
   rw[ba.As ag aG]
  simp only[aI];exact this
 |none=>
  simp only[]
  cases ad:Nat.testBit X.need t with
  |false=>trivial
  |true=>
   exact(ah t).2 (λj o aG aN al=>f2 hf j o (EY j o aG aN al) (by simpa using aN) al) ad
theorem eC.E0(ba:eC X){S:List Nat}(c9:xB X.ops S){μ:aW}{a:Act}(bg:a.tmps.size=X.bk)(ah:X.qK S μ a.tmps){i:Nat}(cY:i∉S)(bR:jc X.ops S i){s:DStep}(ae:X.steps[i]? =some s){u:Value}(hu:aS μ (X.val i) u):
  X.qK (i::S) μ (a.put s.o.dst u).tmps:=by
 obtain⟨dU,gi,eB,js,jt⟩:=ba.jd ae
 have bN:∀t,s.o.dst=some t->t<a.tmps.size:=λt h=>by
  rw[bg];exact ba.g_ s.o (by rw[<-Array.getElem?_toList] at eB;exact List.mem_of_getElem? eB) t h
 intro t
 by_cases al:s.o.dst=some t
 · have eL:(a.put s.o.dst u).tmps.getD t undef=u:=by
     rw[al];simp only[Act.put];rw[uD (bN t al),if_pos rfl]
   have L0:∀k o',k∈S->X.ops[k]? =some o'->o'.dst=some t->k<i:=λk o' hk gO kU=>by
    have su:k<X.ops.size:=(Array.getElem?_eq_some_iff.1 gO).1
    rcases Nat.lt_trichotomy k i with h|h|h
    · exact h
    · subst h;exact absurd hk cY
    · obtain⟨aD,aK,a_,bO,kO,nS⟩:=ba.ko su
      rw[gO] at bO;cases bO
      have:=ba.apart h ae aK (.inr ⟨t,kU,by simp[ka,al]⟩)
      exact absurd (nS S c9 (c9 k hk) i this) cY
   refine⟨λj o aG aN xI uz=>?_,λuT=>absurd al (uT i s.o (by simp) eB)⟩
   have mF:=uz i s.o (by simp) eB al
   rcases List.mem_cons.1 aG with rfl|aG
   · rw[eL];exact hu
   · have:=L0 j o aG aN xI;omega
 · have eL:(a.put s.o.dst u).tmps.getD t undef=a.tmps.getD t undef:=by
     cases xJ:s.o.dst with
     |none=>rfl
     |some d=>
      simp only[Act.put]
      rw[uD (bN d xJ),if_neg (λe=>al (by rw[xJ,e]))]
   rw[eL]
   refine⟨λj o aG aN xI uz=>?_,λuT ad=>(ah t).2 (λj o aG aN=>uT j o (by simp[aG]) aN) ad⟩
   rcases List.mem_cons.1 aG with rfl|aG
   · rw[eB] at aN;cases aN;exact absurd xI al
   · exact(ah t).1 j o aG aN xI λk o' hk gO kU=>uz k o' (by simp[hk]) gO kU
def n2(μ:aW)(w:World)(b:Nat)(bX:b2):Prop:=∃i O,μ b=some i/\w.heap[i.aT]? =some O/\(∀az w',dm μ az->w'.heap[i.aT]? =some O->jl az bX i w')/\(∀c j,c≠b->μ c=some j->j.aT≠i.aT)
theorem a8.xK{μ:aW}{H:J}{w:World}(h:a8 μ H w){b:Nat}{bX:b2}(ad:b<H.n)(aZ:μ b=none\/n2 μ w b bX):a8 μ (H.set b (some bX)) w:=by
 refine⟨λc o i ab ag=>?_,λc d i j ab al ag aG e=>?_,λc i ag=>h.lt c i ag,λc ab=>?_⟩
 · rw[J.cv] at ab
   by_cases e:c=b
   · subst e
     rw[if_pos rfl] at ab;cases ab
     rcases aZ with aZ|⟨xL,O,h1,aa,ao,aM⟩
     · rw[aZ] at ag;cases ag
     · rw[h1] at ag;cases ag
       exact ao μ w (dm.refl μ) aa
   · rw[if_neg e] at ab;exact h.rel c o i ab ag
 · rw[J.cv] at ab al
   by_cases aw:c=b
   · by_cases ar:d=b
     · rw[aw,ar]
     · subst aw
       rcases aZ with aZ|⟨xL,O,h1,aa,ao,aM⟩
       · rw[aZ] at ag;cases ag
       · rw[h1] at ag;cases ag
         exact absurd e.symm (aM d j ar aG)
   · by_cases ar:d=b
     · subst ar
       rcases aZ with aZ|⟨xL,O,h1,aa,ao,aM⟩
       · rw[aZ] at aG;cases aG
       · rw[h1] at aG;cases aG
         exact absurd e (aM c i aw ag)
     · rw[if_neg aw] at ab;rw[if_neg ar] at al
       exact h.inj c d i j ab al ag aG e
 · rw[J.cv,if_neg (by simp at ab;omega)];exact h.bound c (by simpa using ab)
theorem bE.xK{k0 μ:aW}{H uU:J}{ih w:World}(af:a8 k0 H ih)(h:bE k0 H ih μ uU w){b:Nat}(bX:b2)(ad:H.n<=b):bE k0 H ih μ (uU.set b (some bX)) w where
 le:=h.le
 size:=h.size
 n:=by simpa using h.n
 live:=λc ab aq=>h.live c ab (by rw[J.cv,if_neg (by omega)] at aq;exact aq)
 idle:=λc ab hm=>by rw[J.cv,if_neg (by omega)];exact h.idle c ab hm
 old:=h.old
 new:=h.new
 ro:=λc o i ab ah ag=>by
  have:=(af.lt c i ag).1
  rw[J.cv,if_neg (by omega)];exact h.ro c o i ab ah ag
 os:=h.os
 out:=h.out
 tape:=h.tape
 drawn:=h.drawn
theorem a8.early{μ:aW}{H:J}{w:World}(h:a8 μ H w){b:Nat}{bX:b2}{O:Obj}{sz:Nat}(ad:b<H.n)(hm:μ b=none)(aN:∀o,H.get b=some o->o=bX)
  (Au:∀az w',dm μ az->w'.heap[w.heap.size]? =some O->jl az bX ⟨w.heap.size,0,sz⟩ w'):dm μ (eJ μ b ⟨w.heap.size,0,sz⟩)/\a8 (eJ μ b ⟨w.heap.size,0,sz⟩) H (w.alloc O):=by
 have hle:dm μ (eJ μ b ⟨w.heap.size,0,sz⟩):=λc i ag=>by
  rw[fP];exact ag
  intro e;subst e;rw[hm] at ag;cases ag
 have hold:∀r,r<w.heap.size->(w.alloc O).heap[r]? =w.heap[r]? :=λr ah=>by
  simp only[World.alloc,Array.getElem?_push];rw[if_neg (by omega)]
 refine⟨hle,λc o i ab ag=>?_,λc d i j ab al ag aG e=>?_,λc i ag=>?_,h.bound⟩
 · by_cases e:c=b
   · subst e
     rw[e5] at ag;cases ag
     rw[aN o ab]
     exact Au _ _ hle (World.heap_alloc_new _ _)
   · rw[fP _ _ e] at ag
     exact(h.rel c o i ab ag).mono hle (hold _ (h.lt c i ag).2)
 · by_cases aw:c=b
   · by_cases ar:d=b
     · rw[aw,ar]
     · subst aw;rw[e5] at ag;cases ag
       rw[fP _ _ ar] at aG
       have:=(h.lt d j aG).2
       simp only at e;omega
   · by_cases ar:d=b
     · subst ar;rw[e5] at aG;cases aG
       rw[fP _ _ aw] at ag
       have:=(h.lt c i ag).2
       simp only at e;omega
     · rw[fP _ _ aw] at ag;rw[fP _ _ ar] at aG
       exact h.inj c d i j ab al ag aG e
 · by_cases e:c=b
   · subst e;rw[e5] at ag;cases ag
     exact⟨ad,by simp⟩
   · rw[fP _ _ e] at ag
     have:=h.lt c i ag
     simp only[World.size_alloc];omega
theorem bE.early{k0 μ:aW}{H uU:J}{ih w:World}(af:a8 k0 H ih)(h:bE k0 H ih μ uU w){b:Nat}(ad:H.n<=b)(hm:μ b=none){O:Obj}{sz:Nat}:bE k0 H ih (eJ μ b ⟨w.heap.size,0,sz⟩) uU (w.alloc O):=by
 have hold:∀r,r<w.heap.size->(w.alloc O).heap[r]? =w.heap[r]? :=λr ah=>by
  simp only[World.alloc,Array.getElem?_push];rw[if_neg (by omega)]
 exact{
  le:=λc i ag=>by
   have h1:=h.le c i ag
   rw[fP];exact h1
   intro e;subst e;rw[hm] at h1;cases h1
  size:=by have:=h.size;simp only[World.size_alloc];omega
  n:=h.n
  live:=h.live
  idle:=h.idle
  old:=λr ah aB=>(hold r (Nat.lt_of_lt_of_le ah h.size)).trans (h.old r ah aB)
  new:=λc i h1 aa=>by
   by_cases e:c=b
   · subst e;rw[e5] at aa;cases aa;exact⟨ad,.inl h.size⟩
   · rw[fP _ _ e] at aa;exact h.new c i h1 aa
  ro:=λc o i ab ah ag=>by
   obtain⟨h1,aa⟩:=h.ro c o i ab ah ag
   exact⟨h1,(hold _ (Nat.lt_of_lt_of_le (af.lt c i ag).2 h.size)).trans aa⟩
  os:=h.os
  out:=h.out
  tape:=h.tape
  drawn:=h.drawn}
theorem n2.early{μ:aW}{H:J}{w:World}(h:a8 μ H w){b c:Nat}{bX:b2}{O:Obj}{sz:Nat}(hm:μ b=none)(aZ:n2 μ w c bX):n2 (eJ μ b ⟨w.heap.size,0,sz⟩) (w.alloc O) c bX:=by
 obtain⟨i,Av,h1,aa,ao,aM⟩:=aZ
 have cj:c≠b:=by intro e;subst e;rw[hm] at h1;cases h1
 have bN:=(h.lt c i h1).2
 have hle:dm μ (eJ μ b ⟨w.heap.size,0,sz⟩):=λc i ag=>by
  rw[fP];exact ag
  intro e;subst e;rw[hm] at ag;cases ag
 refine⟨i,Av,by rw[fP _ _ cj];exact h1,?_,λaz w' aq hO=>ao az w' (hle.trans aq) hO,λd j al aG=>?_⟩
 · simp only[World.alloc,Array.getElem?_push];rw[if_neg (by omega)];exact aa
 · by_cases e:d=b
   · subst e;rw[e5] at aG;cases aG;simp only;omega
   · rw[fP _ _ e] at aG;exact aM d j al aG
theorem n2.nc{μ az:aW}{H ax:J}{w w':World}(af:a8 μ H w)(aH:bE μ H w az ax w'){c:Nat}{bX:b2}(aj:H.get c=none)(aZ:n2 μ w c bX):n2 az w' c bX:=by
 obtain⟨i,Av,h1,aa,ao,aM⟩:=aZ
 have bN:=(af.lt c i h1).2
 refine⟨i,Av,aH.le _ _ h1,?_,λwP cf aq hO=>ao wP cf (aH.le.trans aq) hO,λd j al aG=>?_⟩
 · rw[aH.old i.aT bN]
   · exact aa
   · intro d j aq aG
     exact aM d j (λe=>by subst e;exact aq aj) aG
 · cases nZ:μ d with
   |some Aw=>
    have:=aH.le d Aw nZ
    rw[aG] at this;cases this
    exact aM d j al nZ
   |none=>
    obtain⟨_,aB|⟨e,o,k,he,_,hk,L1⟩⟩:=aH.new d j nZ aG
    · omega
    · rw[<-L1]
      exact aM e k (λb_=>by subst b_;rw[aj] at he;cases he) hk
end
end aU
namespace aU
open Go
section
variable {X:gh}
def pd(X:gh)(i:Nat)(s:DStep)(v:I)(bX:b2):Prop:=
 i<X.N/\kindOf X.P s.o.op=.alloc/\c8 (eg X.P X.need X.ops X.r s.i (X.f i).env s)=some true/\gI X.P s.o.op (im X.P X.need X.r s (X.f i).env) (X.H.n+i)=some (v,bX)
structure Inv(X:gh)(S:List Nat)(c:Nat)(μ:aW)(w:World)(a:Act)(cs:List Frame):Prop where
 ab:c<=X.N
 closed:xB X.ops S
 sub:∀i∈S,i<X.N
 dk:∀i s,X.steps[i]? =some s->i<X.N->kindOf X.P s.o.op=.dk->(i∈S<->i<c)
 rel:a8 μ (X.f c).h w
 nc:bE X.k0 X.H X.ih μ (X.f c).h w
 qL:eb μ (X.f c).d a.defers
 qr:fE μ X.b.kind X.cs0 (X.f c).q cs
 dy:∀i,i<X.ops.size->i∉S->μ (X.H.n+i)=none
 lay:∀i s v bX,X.steps[i]? =some s->pd X i s v bX->i∉S->i<c->(X.f c).h.get (X.H.n+i)=some bX
 sw:∀i,c<=i->i<X.ops.size->(X.f c).h.get (X.H.n+i)=none
 nd:X.H.n+X.ops.size<=(X.f c).h.n
 ey:∀i s v bX,X.steps[i]? =some s->pd X i s v bX->i∈S->c<=i->n2 μ w (X.H.n+i) bX
 j9:X.qK S μ a.tmps
 sz:a.tmps.size=X.bk
theorem Inv.pass(ba:eC X){S:List Nat}{c:Nat}{μ:aW}{w:World}{a:Act}{cs:List Frame}(h:Inv X S c μ w a cs)(bN:c<X.N){s:DStep}(ae:X.steps[c]? =some s)(hk:kindOf X.P s.o.op≠ .dk):Inv X S (c+1) μ w a cs:=by
 obtain⟨dU,gi,eB,js,jt⟩:=ba.jd ae
 have bd:=ba.pb c s bN ae
 have E1:∀i aD,X.steps[i]? =some aD->i<X.N->kindOf X.P aD.o.op=.dk->(i∈S<->i<c+1):=λi aD h1 aa ao=>by
  rw[h.dk i aD h1 aa ao]
  have:i≠c:=by intro e;subst e;rw[ae] at h1;cases h1;exact hk ao
  omega
 have same:(X.f (c+1)).h=(X.f c).h->(X.f (c+1)).d=(X.f c).d->(X.f (c+1)).q=(X.f c).q->(∀v bX,¬pd X c s v bX)->Inv X S (c+1) μ w a cs:=λaw ar bn Ax=>by
  refine⟨bN,h.closed,h.sub,E1,by rw[aw];exact h.rel,by rw[aw];exact h.nc,by rw[ar];exact h.qL,by rw[bn];exact h.qr,h.dy,λi aD v bX h1 aa ao aM=>?_,λi h1 aa=>(by rw[aw];exact h.sw i (by omega) aa),by rw[aw];exact h.nd,λi aD v bX h1 aa ao aM=>h.ey i aD v bX h1 aa ao (by omega),h.j9,h.sz⟩
  by_cases e:i=c
  · subst e;rw[ae] at h1;cases h1;exact absurd aa (Ax v bX)
  · rw[aw];exact h.lay i aD v bX h1 aa ao (by omega)
 generalize hf:X.f (c+1)=st at bd
 cases bd with
 |qJ eh hw=>
  refine same (by rw[hf]) (by rw[hf]) (by rw[hf]) λv bX e7=>?_
  have:=e7.2.2.1
  rw[hw] at this;cases this
 |pure eh he=>
  refine same (by rw[hf]) (by rw[hf]) (by rw[hf]) λv bX e7=>?_
  have:=e7.2.1
  rw[eh] at this;cases this
 |dk eh aN he=>exact absurd eh hk
 |alloc eh hw aH=>
  rename_i v bX
  have aw:(X.f (c+1)).h=(X.f c).h.set (X.H.n+c) (some bX):=by rw[hf,gi]
  have ar:(X.f (c+1)).d=(X.f c).d:=by rw[hf]
  have bn:(X.f (c+1)).q=(X.f c).q:=by rw[hf]
  have e7:pd X c s v bX:=⟨bN,eh,hw,by rw[<-gi];rw[<-gi] at aH;exact aH⟩
  have ad:X.H.n+c<(X.f c).h.n:=by have:=h.nd;omega
  have aZ:μ (X.H.n+c)=none\/n2 μ w (X.H.n+c) bX:=by
   by_cases E2:c∈S
   · exact .inr (h.ey c s v bX ae e7 E2 (Nat.le_refl _))
   · exact .inl (h.dy c dU E2)
  refine⟨bN,h.closed,h.sub,E1,by rw[aw];exact h.rel.xK ad aZ,by rw[aw];exact h.nc.xK ba.xD bX (by omega),by rw[ar];exact h.qL,by rw[bn];exact h.qr,h.dy,λi aD v' Ay h1 aa ao aM=>?_,λi h1 aa=>?_,by rw[aw];simpa using h.nd,λi aD v bX h1 aa ao aM=>h.ey i aD v bX h1 aa ao (by omega),h.j9,h.sz⟩
  · rw[aw,J.cv]
    by_cases e:i=c
    · subst e
      rw[ae] at h1;cases h1
      have:=aa.2.2.2.symm.trans e7.2.2.2
      cases this
      rw[if_pos rfl]
    · rw[if_neg (by omega)];exact h.lay i aD v' Ay h1 aa ao (by omega)
  · rw[aw,J.cv,if_neg (by omega)]
    exact h.sw i (by omega) aa
def Norm(X:gh)(c:Nat):Prop:=c=X.N\/∃s,X.steps[c]? =some s/\kindOf X.P s.o.op=.dk
theorem Inv.norm(ba:eC X){S:List Nat}{μ:aW}{w:World}{a:Act}{cs:List Frame}:∀(k c:Nat),X.N-c=k->Inv X S c μ w a cs->∃c',Norm X c'/\Inv X S c' μ w a cs
 |0,c,hk,h=>⟨c,.inl (by have:=h.ab;omega),h⟩
 |k+1,c,hk,h=>by
  obtain⟨s,ae,_⟩:=ba.ko (i:=c) (by have:=ba.hX;omega)
  by_cases he:kindOf X.P s.o.op=.dk
  · exact⟨c,.inr ⟨s,ae,he⟩,h⟩
  · exact Inv.norm ba k (c+1) (by omega) (h.pass ba (by omega) ae he)
def sx(ops:Array Oper)(o:Oper)(g:Operand->I):Operand->I
 |.tmp t=>if(ka ops o).contains t then g (.tmp t) else .bad
 |x=>g x
theorem uV{ops:Array Oper}{o:Oper}{g:Operand->I}:∀x∈o.op.operands,g x=sx ops o g x:=by
 intro x U
 cases x with
 |tmp t=>
  have:(ka ops o).contains t=true:=by
   have h1:t∈o.op.operands.toList.filterMap λ|.tmp t=>some t|_=>none:=List.mem_filterMap.2 ⟨.tmp t,by simpa using U,rfl⟩
   simp only[ka,List.contains_iff_mem,List.mem_append]
   exact .inl (.inr h1)
  simp only[sx,this,if_true]
 |_=>rfl
theorem Az(ba:eC X){S:List Nat}{c:Nat}{μ:aW}{w:World}{a:Act}{cs:List Frame}(h:Inv X S c μ w a cs){i:Nat}(ag:i<=X.N)(cY:i∉S)(bR:jc X.ops S i){s:DStep}(ae:X.steps[i]? =some s):
  ∀x,aS μ (sx X.ops s.o (im X.P X.need X.r s (X.f i).env) x) (a.eval x):=by
 obtain⟨dU,gi,eB,js,jt⟩:=ba.jd ae
 intro x
 cases x with
 |tmp t=>
  simp only[sx]
  split
  · rename_i bd
    have:=ba.EX h.closed h.j9 ag cY bR ae (t:=t) (by simpa using bd)
    unfold im;rw[gi];exact this
  · trivial
 |const v=>exact iG μ v
 |global g=>
  simp only[sx,im,bM,Act.eval]
  cases ad:Nat.blt g X.P.globals.size with
  |false=>exact trivial
  |true=>
   obtain⟨i,h1,aa,ao⟩:=ba.lR.mono h.nc.le g (by simpa using ad)
   obtain⟨fR,i0,uv⟩:=i
   simp only at aa ao
   subst aa;subst ao
   exact⟨_,h1,rfl⟩
 |func f=>exact⟨[],[],rfl,rfl,rfl⟩
theorem xM(ba:eC X){S:List Nat}{c:Nat}{μ:aW}{w:World}{a:Act}{cs:List Frame}(h:Inv X S c μ w a cs){i:Nat}(ag:i<=X.N)(cY:i∉S)(bR:jc X.ops S i){s:DStep}(ae:X.steps[i]? =some s):
  ∀kS,c8 (eg X.P X.need X.ops X.r s.i (X.f i).env s)=some kS->Region.wanted s.o (yielded X.ops a.tmps)=kS:=by
 obtain⟨dU,gi,eB,js,jt⟩:=ba.jd ae
 intro kS hw
 unfold eg hg at hw
 unfold Region.wanted
 cases aj:s.o.guard with
 |none=>rw[aj] at hw;simp only[c8] at hw;cases hw;rfl
 |some p=>
  obtain⟨j,er⟩:=p
  rw[aj] at hw
  simp only at hw⊢
  cases bd:(X.ops[j]?).bind (·.dst) with
  |none=>rw[bd] at hw;simp only[b9,c8] at hw;cases hw
  |some t=>
   rw[bd] at hw
   simp only at hw
   have ah:=ba.EX h.closed h.j9 ag cY bR ae (t:=t) (by
    simp only[ka,List.mem_append]
    refine .inr ?_
    rw[aj];simp only[bd];simp)
   rw[Ei bd]
   rw[gi] at hw
   generalize b9 i (X.f i).env X.r (bM X.P X.need s.loc (.tmp t))=v at hw ah
   unfold c8 at hw
   split at hw
   · rename_i he;cases he
   · rename_i he;cases he;cases hw
     have uE:a.tmps.getD t undef=_:=ah
     rw[uE];rfl
   · rename_i he;cases he;cases hw
     obtain⟨l,aq,kk⟩:=ah
     cases kk
     rw[aq];rfl
   · cases hw
theorem qM{P:Program}{inR:Bool}{call:cM->List I->J->bL}{gd:Option (I×Bool)}{o:Oper}{g cb:Operand->I}{d:List bo}{q:aJ}{H:J}(h:∀x∈o.op.operands,g x=cb x):c5 P inR call gd o g d q H=c5 P inR call gd o cb d q H:=by
 unfold c5;rw[uM o H h]
theorem Inv.one(ba:eC X){S:List Nat}{c:Nat}{μ:aW}{w:World}{a:Act}{cs:List Frame}(h:Inv X S c μ w a cs){i:Nat}(ag:i<=X.N)(cY:i∉S)(bR:jc X.ops S i){s:DStep}(ae:X.steps[i]? =some s)(rest:List Nat)(k:List Item):
  xl X.P μ (X.f c).h w X.b a X.ops s.o i rest k X.cs0 cs (c5 X.P X.inR X.call (eg X.P X.need X.ops X.r s.i (X.f i).env s) s.o (im X.P X.need X.r s (X.f i).env) (X.f c).d (X.f c).q (X.f c).h):=by
 obtain⟨dU,gi,eB,js,jt⟩:=ba.jd ae
 rw[qM (uV (ops:=X.ops))]
 exact Ee ba.ab h.rel (ba.lR.mono h.nc.le) eB (xM ba h ag cY bR ae) (Az ba h ag cY bR ae) h.qL h.qr ba.dU
theorem Inv.uW(ba:eC X){S:List Nat}{c c':Nat}{μ az:aW}{w w':World}{a:Act}{cs bq:List Frame}(h:Inv X S c μ w a cs){i:Nat}(ag:i<X.N)(cY:i∉S)(bR:jc X.ops S i){s:DStep}(ae:X.steps[i]? =some s)(hk:∀v bX,¬pd X i s v bX)
  {u:Value}{ds:List Deferred}(aI:aS az (X.val i) u)(jN:a8 az (X.f c').h w')(ij:bE μ (X.f c).h w az (X.f c').h w')(al:eb az (X.f c').d ds)(bj:fE az X.b.kind X.cs0 (X.f c').q bq)
  (sy:(c'=c/\kindOf X.P s.o.op≠ .dk)\/(c'=c+1/\i=c)):Inv X (i::S) c' az w' {tmps:=(a.put s.o.dst u).tmps,defers:=ds} bq:=by
 obtain⟨dU,gi,eB,js,jt⟩:=ba.jd ae
 have hle:=ij.le
 have uX:c<=c':=by rcases sy with⟨e,_⟩|⟨e,_⟩<;>omega
 have AA:=h.nd
 refine⟨?_,λj aG=>?_,λj aG=>?_,λj aD h1 aa ao=>?_,jN,bE.trans ba.xD h.rel h.nc ij,al,bj,λj h1 aa=>?_,λj aD v bX h1 aa ao aM=>?_,λj h1 aa=>?_,?_,λj aD v bX h1 aa ao aM=>?_,?_,?_⟩
 · rcases sy with⟨e,_⟩|⟨e,ar⟩
   · rw[e];exact h.ab
   · omega
 · have hm:jc X.ops S j->jc X.ops (i::S) j:=λaf o aN e he ad=>List.mem_cons_of_mem _ (af o aN e he ad)
   rcases List.mem_cons.1 aG with rfl|aG
   · exact hm bR
   · exact hm (h.closed j aG)
 · rcases List.mem_cons.1 aG with rfl|aG
   · exact ag
   · exact h.sub j aG
 · have:=h.dk j aD h1 aa ao
   rw[List.mem_cons,this]
   rcases sy with⟨e,ar⟩|⟨e,ar⟩
   · subst e
     have:j≠i:=by intro e;subst e;rw[ae] at h1;cases h1;exact ar ao
     simp[this]
   · omega
 · have xN:j∉S:=λaf=>aa (List.mem_cons_of_mem _ af)
   cases hm:az (X.H.n+j) with
   |none=>rfl
   |some dy=>
    have:=(ij.new _ dy (h.dy j h1 xN) hm).1
    omega
 · have xN:j∉S:=λaf=>ao (List.mem_cons_of_mem _ af)
   have mm:j≠i:=λe=>ao (by simp[e])
   have T9:=aa.1
   have Dw:j<c:=by rcases sy with⟨e,_⟩|⟨e,ar⟩<;>omega
   rw[ij.idle _ (by have:=ba.hX;omega) (h.dy j (by have:=ba.hX;omega) xN)]
   exact h.lay j aD v bX h1 aa xN Dw
 · have ay:=h.sw j (by omega) aa
   cases aj:(X.f c').h.get (X.H.n+j) with
   |none=>rfl
   |some o=>exact absurd ay (ij.live _ (by omega) (by rw[aj];simp))
 · exact Nat.le_trans AA ij.n
 · have mm:j≠i:=by
     intro e;subst e;rw[ae] at h1;cases h1;exact hk v bX aa
   have sv:j∈S:=by
    rcases List.mem_cons.1 ao with e|af
    · exact absurd e mm
    · exact af
   have uY:=aa.1
   exact(h.ey j aD v bX h1 aa sv (by omega)).nc h.rel ij (h.sw j (by omega) (by have:=ba.hX;omega))
 · exact ba.E0 (a:=a) h.closed h.sz (h.j9.mono hle) cY bR ae aI
 · simpa using(qx a s.o.dst u).trans h.sz
theorem uZ{s:DStep}{v:I}(ba:eC X):∀(m:Nat),m<=X.N->∀(nx:Option Nat) (sA:J),jk X.P X.need X.ops X.r X.N (X.f X.N).env s v nx sA (X.f m).aV=true->
  ∀c aD,c<m->X.steps[c]? =some aD->kindOf X.P aD.o.op=.dk->∃aV,aV=(X.f c).aV/\jk X.P X.need X.ops X.r X.N (X.f X.N).env s v (some c) (X.f c).h aV=true
 |0,_,nx,sA,h,c,aD,ab,_,_=>by omega
 |m+1,hm,nx,sA,h,c,aD,ab,cZ,hk=>by
  obtain⟨bT,aK,a_,_⟩:=ba.ko (i:=m) (by have:=ba.hX;omega)
  have bd:=ba.pb m bT (by omega) aK
  by_cases e:c=m
  · subst e
    rw[aK] at cZ;cases cZ
    generalize hf:X.f (c+1)=st at bd h
    cases bd with
    |qJ eh=>rw[hk] at eh;cases eh
    |alloc eh=>rw[hk] at eh;cases eh
    |pure eh=>rw[hk] at eh;cases eh
    |dk eh aN he=>
     unfold jk at h
     rw[Bool.and_eq_true] at h
     have aa:=h.2
     simp only[a_] at aa
     exact⟨_,rfl,aa⟩
  · have bN:c<m:=by omega
    generalize hf:X.f (m+1)=st at bd h
    cases bd with
    |qJ eh=>exact uZ ba m (by omega) nx sA h c aD bN cZ hk
    |alloc eh=>exact uZ ba m (by omega) nx sA h c aD bN cZ hk
    |pure eh=>exact uZ ba m (by omega) nx sA h c aD bN cZ hk
    |dk eh aN he=>
     unfold jk at h
     rw[Bool.and_eq_true] at h
     have aa:=h.2
     simp only at aa
     exact uZ ba m (by omega) _ _ aa c aD bN cZ hk
theorem AB(ba:eC X):∀(m:Nat),m<=X.N->∀e mk ay l,(X.f m).aV=(e,mk,ay)::l->e<m/\∃aD,X.steps[e]? =some aD/\kindOf X.P aD.o.op=.dk/\mk=aD.dF
 |0,_,e,mk,ay,l,h=>by rw[ba.pc] at h;cases h
 |m+1,hm,e,mk,ay,l,h=>by
  obtain⟨bT,aK,a_,_⟩:=ba.ko (i:=m) (by have:=ba.hX;omega)
  have bd:=ba.pb m bT (by omega) aK
  generalize hf:X.f (m+1)=st at bd h
  cases bd with
  |dk eh aN he=>
   simp only[List.cons.injEq,Prod.mk.injEq] at h
   obtain⟨⟨rfl,rfl,rfl⟩,rfl⟩:=h
   exact⟨by omega,bT,by rw[a_];exact aK,eh,rfl⟩
  |_=>obtain⟨h1,aa⟩:=AB ba m (by omega) e mk ay l h;exact⟨by omega,aa⟩
theorem Inv.looks(ba:eC X){S:List Nat}{c:Nat}{μ:aW}{w:World}{a:Act}{cs:List Frame}(h:Inv X S c μ w a cs)(aB:Norm X c){i:Nat}(ag:i<X.N)(cY:i∉S)(bR:jc X.ops S i){s:DStep}(ae:X.steps[i]? =some s)(hk:kindOf X.P s.o.op=.pure):
  fC X.P X.need X.ops X.r X.N (X.f X.N).env s (X.val i) (X.f c).h=true\/fC X.P X.need X.ops X.r X.N (X.f X.N).env s (X.val i) (kM X.P X.need X.ops X.r X.N (X.f X.N).env s (some c) (X.f c).h)=true:=by
 obtain⟨dU,gi,eB,js,jt⟩:=ba.jd ae
 obtain⟨nx,h1,aa⟩:=ba.looks i s ag ae hk
 have off:∀(nx:Option Nat),(∀e,nx=some e->e=c/\c∉S)->jk X.P X.need X.ops X.r X.N (X.f X.N).env s (X.val i) nx (X.f c).h (X.f c).aV=true->fC X.P X.need X.ops X.r X.N (X.f X.N).env s (X.val i) (X.f c).h=true\/fC X.P X.need X.ops X.r X.N (X.f X.N).env s (X.val i) (kM X.P X.need X.ops X.r X.N (X.f X.N).env s (some c) (X.f c).h)=true:=by
  intro nx u0 b0
  unfold jk at b0
  rw[Bool.and_eq_true] at b0
  have ao:=b0.1
  split at ao
  · rename_i ad
    exfalso
    rw[Bool.or_eq_true] at ad
    rcases ad with ad|ad
    · cases nx with
      |none=>cases ad
      |some e=>
       obtain⟨rfl,q⟩:=u0 e rfl
       exact q (jt S h.closed bR _ ad)
    · cases pe:(X.f c).aV with
      |nil=>rw[pe] at ad;cases ad
      |cons p l=>
       obtain⟨e,mk,ay⟩:=p
       rw[pe] at ad
       obtain⟨aK,aD,a_,bO,rfl⟩:=AB ba c h.ab e mk ay l pe
       have AD:=(h.dk e aD a_ (by have:=h.ab;omega) bO).2 aK
       exact cY ((ba.jd a_).2.2.2.2 S h.closed (h.closed e AD) i (by rw[gi] at ad;exact ad))
  · rw[Bool.or_eq_true] at ao
    rcases ao with ao|ao
    · exact .inl ao
    · cases nx with
      |none=>exact .inl (by simpa only[kM] using ao)
      |some e=>
       obtain⟨rfl,_⟩:=u0 e rfl
       exact .inr ao
 have E3:∀e aD,X.steps[e]? =some aD->e=X.N->e∉S:=λe aD _ he af=>by have:=h.sub e af;omega
 by_cases uX:c=X.N
 · subst uX
   exact off nx (λe he=>⟨(aa e he).1,λaf=>by have:=h.sub _ af;omega⟩) h1
 · have E4:c<X.N:=by have:=h.ab;omega
   rcases aB with e|⟨aD,aK,a_⟩
   · exact absurd e uX
   · obtain⟨aV,rfl,aM⟩:=uZ ba X.N (Nat.le_refl _) nx _ h1 c aD E4 aK a_
     refine off (some c) (λe he=>⟨by cases he;rfl,λaf=>?_⟩) aM
     have:=(h.dk c aD aK E4 a_).1 af
     omega
end
end aU
namespace aU
open Go
section
variable {X:gh}
theorem E5(ba:eC X):∀(m:Nat),m<=X.N->
  (∀e mk ay l,(X.f m).aV=(e,mk,ay)::l->∀j aD,e<j->j<m->X.steps[j]? =some aD->kindOf X.P aD.o.op≠ .dk)/\
  ((X.f m).aV=[]->∀j aD,j<m->X.steps[j]? =some aD->kindOf X.P aD.o.op≠ .dk)
 |0,_=>⟨λe mk ay l h=>(by rw[ba.pc] at h;cases h),λ_ j aD aG=>(by omega)⟩
 |m+1,hm=>by
  obtain⟨xG,xH⟩:=E5 ba m (by omega)
  obtain⟨bT,aK,a_,_⟩:=ba.ko (i:=m) (by have:=ba.hX;omega)
  have bd:=ba.pb m bT (by omega) aK
  have same:kindOf X.P bT.o.op≠ .dk->(X.f (m+1)).aV=(X.f m).aV->_:=λhk he=>(⟨λe mk ay l h j aD h1 aa ao=>by
    by_cases b_:j=m
    · subst b_;rw[aK] at ao;cases ao;exact hk
    · exact xG e mk ay l (he▸h) j aD h1 (by omega) ao,λh j aD aa ao=>by
    by_cases b_:j=m
    · subst b_;rw[aK] at ao;cases ao;exact hk
    · exact xH (he▸h) j aD (by omega) ao⟩:
   (∀e mk ay l,(X.f (m+1)).aV=(e,mk,ay)::l->∀j aD,e<j->j<m+1->X.steps[j]? =some aD->kindOf X.P aD.o.op≠ .dk)/\((X.f (m+1)).aV=[]->∀j aD,j<m+1->X.steps[j]? =some aD->kindOf X.P aD.o.op≠ .dk))
  generalize hf:X.f (m+1)=st at bd same⊢
  clear hf
  cases bd with
  |qJ eh=>exact same (by rw[eh];simp) rfl
  |alloc eh=>exact same (by rw[eh];simp) rfl
  |pure eh=>exact same (by rw[eh];simp) rfl
  |dk eh aN he=>
   refine⟨λe mk ay l h j aD h1 aa ao=>?_,λh=>by cases h⟩
   simp only[List.cons.injEq,Prod.mk.injEq] at h
   obtain⟨⟨rfl,_,_⟩,_⟩:=h
   omega
theorem Inv.E6(ba:eC X){S:List Nat}{c:Nat}{μ:aW}{w:World}{a:Act}{cs:List Frame}(h:Inv X S c μ w a cs)(aB:Norm X c){i:Nat}(ag:i<=X.N)(cY:i∉S)(bR:jc X.ops S i){s:DStep}(ae:X.steps[i]? =some s)
  (hk:kindOf X.P s.o.op=.dk)(aN:∀e m ay l,(X.f i).aV=(e,m,ay)::l->Nat.testBit s.dF e=true):i=c:=by
 obtain⟨dU,gi,eB,js,jt⟩:=ba.jd ae
 have uy:c<=i:=by
  rcases Nat.lt_or_ge i X.N with h1|h1
  · have:=h.dk i s ae h1 hk
    rcases Nat.lt_or_ge i c with aa|aa
    · exact absurd (this.2 aa) cY
    · exact aa
  · have:=h.ab;omega
 rcases Nat.lt_or_ge c i with bN|pf
 · exfalso
   rcases aB with e|⟨aD,aK,a_⟩
   · omega
   · obtain⟨aX,bx⟩:=E5 ba i ag
     cases pe:(X.f i).aV with
     |nil=>exact bx pe c aD bN aK a_
     |cons p l=>
      obtain⟨e,mk,ay⟩:=p
      obtain⟨di,s2,dC,gf,_⟩:=AB ba i ag e mk ay l pe
      have AD:=jt S h.closed bR e (aN e mk ay l pe)
      have L2:=(h.dk e s2 dC (by omega) gf).1 AD
      exact aX e mk ay l pe c aD L2 bN aK a_
 · omega
theorem Inv.lays(ba:eC X){S:List Nat}{c:Nat}{μ:aW}{w:World}{a:Act}{cs:List Frame}(h:Inv X S c μ w a cs){i:Nat}(ag:i<X.N)(cY:i∉S)(bR:jc X.ops S i){s:DStep}(ae:X.steps[i]? =some s){v:I}{bX:b2}(e7:pd X i s v bX)(aI:X.val i=v)(rest:List Nat)(k:List Item):
  ∃az w' b1,Steps X.P (lone (X.b.atR a (.inRegion X.ops (i::rest)::k)) cs w) (lone (X.b.atR b1 (.inRegion X.ops rest::k)) cs w')/\Inv X (i::S) c az w' b1 cs:=by
 obtain⟨dU,gi,eB,js,jt⟩:=ba.jd ae
 obtain⟨_,hk,hw,aH⟩:=e7
 have qw:=xM ba h (Nat.le_of_lt ag) cY bR ae _ hw
 rw[uN _ _ (uV (ops:=X.ops))] at aH
 obtain⟨u,O,sz,aq⟩:=Le (P:=X.P) (w:=w) s.o (Az ba h (Nat.le_of_lt ag) cY bR ae) aH
 have b0:=stepGR_op (P:=X.P) (b:=X.b) (a:=a) (k:=k) (cs:=cs) (w:=w) (rest:=rest) eB qw
 have kT:s.o.semAt X.b.roundOf a.eval=execOp a.eval s.o:=Oper.semAt_eq _ _ _ λqN e=>by rw[e] at hk;cases hk
 rw[kT] at b0
 obtain⟨g1,_⟩:=qv b0
 have e8:=g1 _ _ aq.run
 have hn:(X.b.atR a (.inRegion X.ops (i::rest)::k)).finish u=X.b.atR (a.put s.o.dst u) (.inRegion X.ops rest::k):=by
  rw[Frame.finish_atR,eB];rfl
 rw[hn] at e8
 have ft:=h.dy i dU cY
 have AA:=h.nd
 have gZ:∀o,(X.f c).h.get (X.H.n+i)=some o->o=bX:=λo aj=>by
  rcases Nat.lt_or_ge i c with bN|pf
  · have:=h.lay i s v bX ae ⟨ag,hk,hw,by rw[uN _ _ (uV (ops:=X.ops))];exact aH⟩ cY bN
    rw[aj] at this;cases this;rfl
  · rw[h.sw i pf dU] at aj;cases aj
 obtain⟨hle,jN⟩:=h.rel.early (b:=X.H.n+i) (by omega) ft gZ aq.obj
 have ij:=h.nc.early ba.xD (b:=X.H.n+i) (by omega) ft (O:=O) (sz:=sz)
 have xO:aS (eJ μ (X.H.n+i) ⟨w.heap.size,0,sz⟩) (X.val i) u:=by rw[aI];exact aq.val _ hle (e5 _ _ _)
 refine⟨eJ μ (X.H.n+i) ⟨w.heap.size,0,sz⟩,_,_,e8,?_⟩
 have hm:∀{j},jc X.ops S j->jc X.ops (i::S) j:=λaf o aN e he ad=>List.mem_cons_of_mem _ (af o aN e he ad)
 refine⟨h.ab,λj aG=>?_,λj aG=>?_,λj aD h1 aa ao=>?_,jN,ij,?_,h.qr.mono hle,λj h1 aa=>?_,λj aD v bX h1 aa ao aM=>h.lay j aD v bX h1 aa (λaf=>ao (List.mem_cons_of_mem _ af)) aM,h.sw,h.nd,λj aD v' Ay h1 aa ao aM=>?_,ba.E0 h.closed h.sz (h.j9.mono hle) cY bR ae xO,(qx _ _ _).trans h.sz⟩
 · rcases List.mem_cons.1 aG with rfl|aG
   · exact hm bR
   · exact hm (h.closed j aG)
 · rcases List.mem_cons.1 aG with rfl|aG
   · exact ag
   · exact h.sub j aG
 · have mm:j≠i:=by intro e;subst e;rw[ae] at h1;cases h1;rw[hk] at ao;cases ao
   rw[List.mem_cons]
   simp only[mm,false_or]
   exact h.dk j aD h1 aa ao
 · rw[put_defers];exact h.qL.mono hle
 · have mm:j≠i:=λe=>aa (by simp[e])
   rw[fP _ _ (by omega)]
   exact h.dy j h1 (λaf=>aa (List.mem_cons_of_mem _ af))
 · rcases List.mem_cons.1 ao with e|ao
   · subst e
     rw[ae] at h1;cases h1
     have:=aa.2.2.2
     rw[uN _ _ (uV (ops:=X.ops)),aH] at this
     cases this
     refine⟨⟨w.heap.size,0,sz⟩,O,e5 _ _ _,World.heap_alloc_new _ _,λaz w' oT hO=>aq.obj az w' (hle.trans oT) hO,λd hi al aG=>?_⟩
     rw[fP _ _ al] at aG
     have:=(h.rel.lt d hi aG).2
     simp only;omega
   · exact(h.ey j aD v' Ay h1 aa ao aM).early h.rel ft
theorem u1(ba:eC X){i:Nat}(ag:i<=X.N):z8 i (hh (X.ops.toList.take i) 0 []):=λt a aH=>by
 obtain⟨j,o,h1,rfl,_⟩:=(uS X.ops.toList t i (by have:=ba.hX;simp;omega)).1 a aH
 exact h1
theorem L3{P:Program}{need:Nat}{ops:Array Oper}{r:aC}{n:Nat}{env:List I}{s:DStep}{nx:Option Nat}{h:J}:kM P need ops r n env s nx h=h\/
  ∃e src dst x j aD t l c b off m cp v bX,nx=some e/\s.o.op=.convert src dst x/\bM P need s.loc x=.env j/\e<j/\Nat.testBit s.dF j=true/\nth j (dR ops.toList 0 [] [])=some aD/\aD.o.op=.makeSlice t l c/\
   b9 n env r (.env j)=.slice b off m cp/\c8 (eg P need ops r n env aD)=some true/\gI P (.makeSlice t l c) (λy=>b9 n env r (bM P need aD.loc y)) b=some (v,bX)/\kM P need ops r n env s nx h=h.set b (some bX):=by
 unfold kM
 split
 · rename_i e src dst x U
   split
   · rename_i j aG
     split
     · rename_i aD ad cZ
       split
       · rename_i t l c b off m cp h1 aa ao
         split
         · rename_i v bX aH
           rw[Bool.and_eq_true,Nat.blt_eq] at ad
           exact .inr ⟨e,src,dst,x,j,aD,t,l,c,b,off,m,cp,v,bX,rfl,U,aG,ad.1,ad.2,cZ,h1,aa,ao,aH,rfl⟩
         · exact .inl rfl
       · exact .inl rfl
     · exact .inl rfl
   · exact .inl rfl
 · exact .inl rfl
theorem L4{P:Program}{t:TypeId}{l c:Operand}{g:Operand->I}{b ib off m:Nat}{cp:cy}{o:b2}(h:gI P (.makeSlice t l c) g b=some (.slice ib off m cp,o)):ib=b:=by
 unfold gI at h
 simp only at h
 split at h
 · split at h
   · split at h
     · split at h
       · cases h;rfl
       · cases h
     · cases h
   · cases h
 · cases h
theorem L5{P:Program}{μ:aW}{H ax:J}{w:World}(af:a8 μ H w){src dst:TypeId}{x v:I}{bf:Value}(U:aS μ x bf)(al:∀e,P.underlying dst≠some (.slice e))(he:hQ P src dst x H=.val v ax):
  ∃u,(convert src dst bf).run P w=.ok u w/\aS μ v u:=by
 unfold hQ at he
 split at he
 · rename_i mv k bz n ae al
   cases U;cases he
   exact⟨.int k (k.wrap n),by simp[convert,bt ae,bt al,Conv.intToInt],rfl⟩
 · rename_i mv bz n ae al
   cases U;cases he
   exact⟨.string (Utf8.encode n),by simp[convert,bt ae,bt al,Conv.intToString],_,rfl,rfl⟩
 · rename_i s ae al
   obtain⟨t,rfl,rfl⟩:=U
   cases he
   exact⟨.string t,by simp[convert,bt ae,bt al],_,rfl,rfl⟩
 · rename_i e s ae lS
   exact absurd lS (al e)
 · rename_i e ae lS
   have key:P.underlying e=some (.int .u8)->∀a n c,(convert src dst (.slice a n c)).run P w=(Conv.bytesToString (.slice a n c)).run P w:=by
    intro he a n c
    simp[convert,bt ae,bt lS,bt he]
   split at he
   · rename_i n3
     cases U;cases he
     refine⟨.string .empty,?_,.empty,rfl,rfl⟩
     rw[key n3];rfl
   · rename_i b off n n3
     split at he
     · rename_i aB
       subst aB
       obtain⟨i,_,_,a,c,rfl⟩:=U
       cases he
       refine⟨.string .empty,?_,.empty,rfl,rfl⟩
       rw[key n3];rfl
     · cases he
   · rename_i b off n c hl n3
     split at he
     · rename_i cs aq
       split at he
       · rename_i bs ad
         cases he
         obtain⟨u,h1,aa⟩:=DC (P:=P) af (by intro e;subst e;exact hl rfl) U aq ad
         refine⟨u,?_,aa⟩
         have jn:∃a m k,bf=.slice a m k:=by
          obtain⟨i,_,ab⟩:=U
          cases c with
          |exact c=>cases ab;exact⟨_,_,_,rfl⟩
          |aE e1=>obtain⟨c,rfl,_⟩:=ab;exact⟨_,_,_,rfl⟩
          |dead=>obtain⟨_,a,c,rfl⟩:=ab;exact⟨_,_,_,rfl⟩
         obtain⟨a,m,k,rfl⟩:=jn
         rw[key n3];exact h1
       · cases he
     · cases he
   · cases he
 · rename_i u b off ae lS
   split at he
   · rename_i cs el k bF ag n aj aL
     split at he
     · rename_i bN
       cases he
       exact⟨bf,D4 af ae lS aL aj (by simpa using bN) U,U⟩
     · cases he
   · cases he
 · rename_i u b off ae lS
   split at he
   · rename_i cs el bF ag n aj aL
     split at he
     · rename_i ab
       cases he
       exact⟨bf,D5 af ae lS aL aj ab U,U⟩
     · cases he
   · cases he
 · cases he
theorem Inv.over(ba:eC X){S:List Nat}{c:Nat}{μ:aW}{w:World}{a:Act}{cs:List Frame}(h:Inv X S c μ w a cs){i:Nat}(bR:jc X.ops S i){s:DStep}(ae:X.steps[i]? =some s){src dst:TypeId}{x:Operand}{j:Nat}{aD:DStep}{t:TypeId}{l qN:Operand}{b off m:Nat}{cp:cy}{v:I}{bX:b2}
  (L6:c<j)(ad:Nat.testBit s.dF j=true)(cZ:nth j (dR X.ops.toList 0 [] [])=some aD)(aN:aD.o.op=.makeSlice t l qN)(aI:b9 X.N (X.f X.N).env X.r (.env j)=.slice b off m cp)(hw:c8 (eg X.P X.need X.ops X.r X.N (X.f X.N).env aD)=some true)
  (aH:gI X.P (.makeSlice t l qN) (λy=>b9 X.N (X.f X.N).env X.r (bM X.P X.need aD.loc y)) b=some (v,bX)):a8 μ ((X.f c).h.set b (some bX)) w:=by
 obtain⟨dU,gi,eB,js,jt⟩:=ba.jd ae
 have sv:j∈S:=jt S h.closed bR j ad
 have uY:j<X.N:=h.sub j sv
 have hle:=Nat.le_of_lt uY
 have gM:X.steps[j]? =some aD:=by rw[<-lE];exact cZ
 obtain⟨_,AE,_,E7,_⟩:=ba.jd gM
 have dN:eg X.P X.need X.ops X.r X.N (X.f X.N).env aD=eg X.P X.need X.ops X.r aD.i (X.f j).env aD:=by
  unfold eg hg
  cases xP:aD.o.guard with
  |none=>rfl
  |some p=>
   obtain⟨hi,er⟩:=p
   simp only
   cases L7:(X.ops[hi]?).bind (·.dst) with
   |none=>rfl
   |some t=>
    simp only
    rw[AE,ba.xF hle (by rw[E7];exact sk (u1 ba hle) _)]
 have mD:(λy=>b9 X.N (X.f X.N).env X.r (bM X.P X.need aD.loc y))=im X.P X.need X.r aD (X.f j).env:=funext λy=>by
  unfold im
  rw[AE,ba.xF hle (by rw[E7];exact sk (u1 ba hle) _)]
 rw[dN] at hw
 rw[mD] at aH
 have bd:=ba.pb j aD uY gM
 have kV:b9 X.N (X.f X.N).env X.r (.env j)=X.val j:=rfl
 generalize hf:X.f (j+1)=st at bd
 cases bd with
 |qJ hk qO=>rw[hw] at qO;cases qO
 |alloc hk qO k1=>
  rename_i v1 T_
  have pg:=ba.uR uY (v:=v1) (by rw[hf])
  rw[kV,pg] at aI
  rw[aN,aI,AE] at k1
  obtain rfl:=L4 k1
  rw[aH] at k1
  cases k1
  exact h.rel.xK (by have:=h.nd;omega) (.inr (h.ey j aD _ bX gM ⟨uY,hk,hw,by rw[aN];exact aH⟩ sv (Nat.le_of_lt L6)))
 |pure hk he=>rw[aN] at hk;cases hk
 |dk hk he=>rw[aN] at hk;cases hk
theorem Inv.step(ba:eC X){S:List Nat}{c:Nat}{μ:aW}{w:World}{a:Act}{cs:List Frame}(h:Inv X S c μ w a cs){i:Nat}(ag:i<X.N)(cY:i∉S)(bR:jc X.ops S i)(rest:List Nat)(k:List Item):
  ∃c' az w' b1 bq,Steps X.P (lone (X.b.atR a (.inRegion X.ops (i::rest)::k)) cs w) (lone (X.b.atR b1 (.inRegion X.ops rest::k)) bq w')/\Inv X (i::S) c' az w' b1 bq:=by
 obtain⟨c,aB,h⟩:=h.norm ba _ _ rfl
 obtain⟨s,ae,gi,eB,_⟩:=ba.ko (i:=i) (by have:=ba.hX;omega)
 have bd:=ba.pb i s ag ae
 have hle:=Nat.le_of_lt ag
 generalize hf:X.f (i+1)=st at bd
 cases bd with
 |qJ hk hw=>
  have aI:=ba.uR ag (v:=.aF []) (by rw[hf])
  have uB:=xM ba h hle cY bR ae _ hw
  have kd:=stepR_op_skip (P:=X.P) (b:=X.b) (a:=a) (k:=k) (cs:=cs) (w:=w) (ops:=X.ops) (i:=i) (rest:=rest) (by simp[eB,uB])
  rw[eB] at kd
  have he:a.put ((some s.o).bind (·.dst)) undef={tmps:=(a.put s.o.dst undef).tmps,defers:=a.defers}:=si a s.o.dst undef
  rw[he] at kd
  refine⟨c,μ,w,_,cs,.one kd,h.uW ba ag cY bR ae (λv bX e7=>?_) (by rw[aI];exact⟨[],rfl,rfl⟩) h.rel (bE.refl _ _ _) h.qL h.qr (.inl ⟨rfl,by rw[hk];simp⟩)⟩
  have:=e7.2.2.1
  rw[hw] at this;cases this
 |alloc hk hw aH=>
  rename_i v bX
  have aI:=ba.uR ag (v:=v) (by rw[hf])
  obtain⟨az,w',b1,h1,aa⟩:=h.lays ba ag cY bR ae ⟨ag,hk,hw,by rw[<-gi];rw[<-gi] at aH;exact aH⟩ aI rest k
  exact⟨c,az,w',b1,cs,h1,aa⟩
 |pure hk he=>
  rename_i v d' aR ai
  have aI:=ba.uR ag (v:=v) (by rw[hf])
  have eR:=h.looks ba aB ag cY bR ae hk
  have et:=h.one ba hle cY bR ae rest k
  have dN:eg X.P X.need X.ops X.r X.N (X.f X.N).env s=eg X.P X.need X.ops X.r s.i (X.f i).env s:=by
   unfold eg hg
   cases xP:s.o.guard with
   |none=>rfl
   |some p=>
    obtain⟨j,er⟩:=p
    simp only
    cases L7:(X.ops[j]?).bind (·.dst) with
    |none=>rfl
    |some t=>
     simp only
     rw[gi,ba.xF hle (by rw[(ba.jd ae).2.2.2.1];exact sk (u1 ba hle) _)]
  have ph:∀x,b9 X.N (X.f X.N).env X.r (bM X.P X.need s.loc x)=im X.P X.need X.r s (X.f i).env x:=λx=>by
   unfold im
   rw[gi,ba.xF hle (by rw[(ba.jd ae).2.2.2.1];exact sk (u1 ba hle) _)]
  have mD:(λx=>b9 X.N (X.f X.N).env X.r (bM X.P X.need s.loc x))=im X.P X.need X.r s (X.f i).env:=funext ph
  have u2:∀v bX,¬pd X i s v bX:=λv bX e7=>by have:=e7.2.1;rw[hk] at this;cases this
  have cj:kindOf X.P s.o.op≠ .dk:=by rw[hk];simp
  have eR:fC X.P X.need X.ops X.r X.N (X.f X.N).env s (X.val i) (X.f c).h=true\/∃u,Steps X.P (lone (X.b.atR a (.inRegion X.ops (i::rest)::k)) cs w) (lone (X.b.atR (a.put s.o.dst u) (.inRegion X.ops rest::k)) cs w)/\aS μ (X.val i) u:=by
   rcases eR with eR|eR
   · exact .inl eR
   rcases L3 (P:=X.P) (need:=X.need) (ops:=X.ops) (r:=X.r) (n:=X.N) (env:=(X.f X.N).env) (s:=s) (nx:=some c) (h:=(X.f c).h) with aN|⟨e,src,dst,x,j,aD,t,l,qN,b,off,m,cp,v',bX,h1,aa,ao,aM,bA,dB,eK,lG,qf,AF,AG⟩
   · rw[aN] at eR;exact .inl eR
   · cases h1
     have L8:=h.over ba bR ae (src:=src) (dst:=dst) (x:=x) aM bA dB eK lG qf AF
     rw[AG] at eR
     unfold fC at eR
     rw[dN,mD] at eR
     have uB:∀{er},c8 (eg X.P X.need X.ops X.r s.i (X.f i).env s)=some er->_:=λ{er} hw=>xM ba h hle cY bR ae _ hw
     split at eR
     · cases eR
     · rename_i sB
       left
       unfold fC
       rw[dN,sB]
     · rename_i sB
       have qw:=uB sB
       right
       split at eR
       · rename_i v1 ga dr
         have AH:=beq_eq _ _ eR
         have L9:hQ X.P src dst (im X.P X.need X.r s (X.f i).env x) ((X.f c).h.set b (some bX))=.val v1 ga:=by
          have:=dr
          unfold bV at this
          rw[aa] at this
          exact this
         have sC:=Az ba h hle cY bR ae x
         have L_:sx X.ops s.o (im X.P X.need X.r s (X.f i).env) x=im X.P X.need X.r s (X.f i).env x:=(uV (ops:=X.ops) x (by rw[aa];simp[Op.operands])).symm
         rw[L_] at sC
         obtain⟨u,aX,bx⟩:=L5 L8 sC (λb_ Ma=>by rw[aa] at hk;unfold kindOf at hk;simp only[Ma] at hk;cases hk) L9
         have b0:=stepGR_op (P:=X.P) (b:=X.b) (a:=a) (k:=k) (cs:=cs) (w:=w) (rest:=rest) eB qw
         have kT:s.o.semAt X.b.roundOf a.eval=execOp a.eval s.o:=Oper.semAt_eq _ _ _ λqN e=>by rw[e] at aa;cases aa
         rw[kT] at b0
         obtain⟨g1,_⟩:=qv b0
         have dw:(execOp a.eval s.o).run X.P w=.ok (.value u) w:=by
          unfold execOp
          rw[aa]
          simp[aX]
         have e8:=g1 _ _ dw
         have hn:(X.b.atR a (.inRegion X.ops (i::rest)::k)).finish u=X.b.atR (a.put s.o.dst u) (.inRegion X.ops rest::k):=by
          rw[Frame.finish_atR,eB];rfl
         rw[hn] at e8
         exact⟨u,e8,by rw[<-AH];exact bx⟩
       · cases eR
  rcases eR with eR|⟨u,s1,s2⟩
  rotate_left
  · refine⟨c,μ,w,_,cs,s1,?_⟩
    rw[si]
    exact h.uW ba ag cY bR ae u2 s2 h.rel (bE.refl _ _ _) h.qL h.qr (.inl ⟨rfl,cj⟩)
  unfold fC at eR
  rw[dN,mD] at eR
  unfold c5 at et he
  cases sB:c8 (eg X.P X.need X.ops X.r s.i (X.f i).env s) with
  |none=>rw[sB] at eR;cases eR
  |some er=>
   rw[sB] at eR et he
   cases er with
   |false=>
    simp only at et he
    cases he
    obtain⟨az,w',u,ig,bq,s1,s2,bw,bG,bP,cn⟩:=et
    exact⟨c,az,w',_,bq,s1,h.uW ba ag cY bR ae u2 (by rw[aI];exact s2) bw bG bP cn (.inl ⟨rfl,cj⟩)⟩
   |true=>
    simp only at eR et
    split at eR
    · rename_i v' AI dr
      rw[dr] at et
      simp only at et
      have AH:=beq_eq _ _ eR
      have Mb:=LS hk dr
      rw[Mb] at et
      obtain⟨az,w',u,ig,bq,s1,s2,bw,bG,bP,cn⟩:=et
      exact⟨c,az,w',_,bq,s1,h.uW ba ag cY bR ae u2 (by rw[<-AH];exact s2) bw bG bP cn (.inl ⟨rfl,cj⟩)⟩
    · cases eR
 |dk hk aN he=>
  rename_i v d' aR ai
  have aI:=ba.uR ag (v:=v) (by rw[hf])
  have jS:=h.E6 ba aB hle cY bR ae hk aN
  have et:=h.one ba hle cY bR ae rest k
  have u2:∀v bX,¬pd X i s v bX:=λv bX e7=>by have:=e7.2.1;rw[hk] at this;cases this
  rw[<-jS,he] at et
  obtain⟨az,w',u,ig,bq,s1,s2,bw,bG,bP,cn⟩:=et
  have aw:(X.f (c+1)).h=ai:=by rw[<-jS,hf]
  have ar:(X.f (c+1)).d=d':=by rw[<-jS,hf]
  have bn:(X.f (c+1)).q=aR:=by rw[<-jS,hf]
  exact⟨c+1,az,w',_,bq,s1,h.uW ba ag cY bR ae u2 (by rw[aI];exact s2) (by rw[aw];exact bw) (by rw[aw,<-jS];exact bG) (by rw[ar];exact bP) (by rw[bn];exact cn) (.inr ⟨rfl,jS⟩)⟩
end
end aU
namespace aU
open Go
section
variable {X:gh}
def gh.ends(X:gh)(k:List Item)(m0:Machine)(res:kL):Prop:=kW X.P X.need X.bk X.k0 X.r X.H X.ih X.b k X.cs0 m0 (hh X.ops.toList 0 []) res
theorem gh.AJ{k:List Item}{m0 m1:Machine}{res:kL}(h:Steps X.P m0 m1)(ai:X.ends k m1 res):X.ends k m0 res:=by
 unfold gh.ends at*
 cases res with
 |ok env d q ax=>obtain⟨az,w',b1,bq,s1,s2⟩:=ai;exact⟨az,w',b1,bq,h.trans s1,s2⟩
 |bm v d q ax=>obtain⟨az,w',b1,bq,u,cz,s1,s2⟩:=ai;exact⟨az,w',b1,bq,u,cz,h.trans s1,s2⟩
 |fail s=>trivial
structure AK(X:gh)(res:kL):Prop where
 ok:X.N=X.ops.size->res=.ok (X.f X.N).env (X.f X.N).d (X.f X.N).q (X.f X.N).h
 bm:X.N<X.ops.size->∀s,X.steps[X.N]? =some s->∃v d' aR ai,c5 X.P X.inR X.call (eg X.P X.need X.ops X.r s.i (X.f X.N).env s) s.o (im X.P X.need X.r s (X.f X.N).env) (X.f X.N).d (X.f X.N).q (X.f X.N).h=.bm v d' aR ai/\res=.bm v d' aR ai
theorem Inv.order(ba:eC X){res:kL}(dM:AK X res)(k:List Item):∀(L S:List Nat) (c:Nat) (μ:aW) (w:World) (a:Act) (cs:List Frame),qF X.ops S L->Inv X S c μ w a cs->X.ends k (lone (X.b.atR a (.inRegion X.ops L::k)) cs w) res
 |[],S,c,μ,w,a,cs,aN,h=>by
  have dn:∀i,i<X.ops.size->i∈S:=aN
  have hX:X.N=X.ops.size:=by
   have:=ba.hX
   rcases Nat.lt_or_ge X.N X.ops.size with bN|pf
   · have:=h.sub _ (dn _ bN);omega
   · omega
  obtain⟨c,aB,h⟩:=h.norm ba _ _ rfl
  have E3:c=X.N:=by
   rcases aB with e|⟨s,aK,a_⟩
   · exact e
   · have:=h.ab
     rcases Nat.lt_or_ge c X.N with bN|pf
     · have:=(h.dk c s aK bN a_).1 (dn c (by omega));omega
     · omega
  subst E3
  rw[dM.ok hX]
  have hlen:=ba.xE X.N (Nat.le_refl _)
  have E8:X.ops.toList.take X.N=X.ops.toList:=by rw[hX];exact List.take_of_length_le (by simp)
  have js:=u1 ba (Nat.le_refl X.N)
  rw[E8] at js
  refine⟨μ,w,a,cs,.one stepR_region_end,⟨by rw[hlen];exact js,λt=>?_⟩,h.sz,h.rel,h.nc,h.qL,h.qr⟩
  rw[hlen]
  obtain⟨f1,f2⟩:=uS X.ops.toList t X.N (by simp;omega)
  rw[E8] at f1 f2
  simp only[bM]
  cases hf:gx t (hh X.ops.toList 0 []) with
  |some ac=>
   obtain⟨j,o,aG,rfl,kP,al,mW⟩:=f1 ac hf
   have:=(h.j9 t).1 j o (dn j (by omega)) (by simpa using kP) al λk o' hk gO kU=>by
    rcases Nat.lt_or_ge j k with bN|pf
    · exact absurd kU (mW k o' bN (h.sub k hk) (by simpa using gO))
    · exact pf
   exact this
  |none=>
   simp only[]
   cases ad:Nat.testBit X.need t with
   |false=>trivial
   |true=>
    exact(h.j9 t).2 (λj o aG gO al=>f2 hf j o (h.sub j aG) (by simpa using gO) al) ad
 |i::L,S,c,μ,w,a,cs,aN,h=>by
  obtain⟨ag,cY,bR,jm⟩:=aN
  rcases Nat.lt_trichotomy i X.N with bN|heq|qP
  · obtain⟨c',az,w',b1,bq,h1,aa⟩:=h.step ba bN cY bR L k
    exact gh.AJ h1 (Inv.order ba dM k L (i::S) c' az w' b1 bq jm aa)
  ·
   obtain⟨s,ae,gi,eB,_⟩:=ba.ko ag
   obtain⟨c,aB,h⟩:=h.norm ba _ _ rfl
   rw[heq] at ae
   obtain⟨dx,l2,pj⟩:=ba.last s ae
   rw[<-heq] at ae l2
   have jS:=h.E6 ba aB (Nat.le_of_eq heq) cY bR ae dx l2
   have et:=h.one ba (Nat.le_of_eq heq) cY bR ae L k
   obtain⟨v,d',aR,ai,aw,ar⟩:=dM.bm (by omega) s (by rw[<-heq];exact ae)
   rw[<-heq] at aw
   rw[<-jS,aw] at et
   rw[ar]
   obtain⟨az,w',u,s1,s2,bw,bG,bP,cn⟩:=et
   rw[jS] at bG
   refine⟨az,w',a,cs,u,_,s1,trivial,s2,λt bd ad=>?_,h.sz,bw,bE.trans ba.xD h.rel h.nc bG,bP,cn⟩
   obtain⟨f1,f2⟩:=uS X.ops.toList t X.ops.toList.length (Nat.le_refl _)
   rw[List.take_length] at f2
   have:=(h.j9 t).2 (λj o aG gO al=>f2 bd j o (by have:=h.sub j aG;have:=ba.hX;simp;omega) (by simpa using gO) al) ad
   exact this.mono bG.le
  · exfalso
    obtain⟨s,ae,_⟩:=ba.ko (i:=X.N) (by omega)
    obtain⟨aD,cZ,_,_,_,jt⟩:=ba.ko ag
    have:=(ba.last s ae).2.2 i aD qP cZ
    rw[(ba.jd ae).2.1] at this
    have:=h.sub _ (jt S h.closed bR _ this)
    omega
end
section
variable {P:Program}
theorem E9{need:Nat}{ops:Array Oper}{r:aC}{n:Nat}{env:List I}{last:Option Nat}{h:J}{aV:List (Nat×Nat×J)}:∀{l:List DStep},jM P need ops r n env last h aV l=true->∀s∈l,s.i<n->kindOf P s.o.op=.pure->jk P need ops r n env s ((nth (n-1-s.i) env).getD .bad) last h aV=true
 |[],_,s,ae,_,_=>by cases ae
 |x::l,aq,s,ae,ag,hk=>by
  simp only[jM,Bool.and_eq_true] at aq
  rcases List.mem_cons.1 ae with rfl|ae
  · have h1:=aq.1
    have ad:Nat.blt s.i n=true:=by simpa using ag
    rw[ad,hk] at h1
    exact h1
  · exact E9 aq.2 s ae ag hk
theorem sD(hm:P.follows .mixedOrders=true){call:cM->List I->J->bL}(ab:ie P call)(need bk:Nat):jq P need bk call:=by
 intro ops id g_ hdr b inR r d q H μ w a k cs0 cs dU ah bg af aj al bj
 unfold p9
 simp only
 obtain⟨nb,fU⟩:∃nb:qH,nb=⟨[],d,q,⟨H.t,H.n+ops.size⟩,[]⟩:=⟨_,rfl⟩
 obtain⟨res,eQ⟩:∃res,e4 P need inR call ops r H.n (dR ops.toList 0 [] []) [] d q ⟨H.t,H.n+ops.size⟩ []=res:=⟨_,rfl⟩
 rw[eQ]
 by_cases E_:∃sE,res=.fail sE
 · obtain⟨sE,e⟩:=E_;subst e;trivial
 have u3:∀sE,res≠ .fail sE:=λsE e=>E_ ⟨sE,e⟩
 have Mc:e4 P need inR call ops r H.n (dR ops.toList 0 [] []) nb.env nb.d nb.q nb.h nb.aV=res:=by rw[fU];exact eQ
 obtain⟨f,N,f0,hX,Fa,sy⟩:=EU _ _ _ Mc u3
 have hlen:(dR ops.toList 0 [] []).length=ops.size:=by rw[Aq];simp
 rw[hlen] at hX
 have Fb:∀m,m<=N->(f m).env.length=m:=λm=>by
  induction m with
  |zero=>intro _;rw[f0,fU];rfl
  |succ m a7=>
   intro oS
   have ae:(dR ops.toList 0 [] [])[m]? =some (dR ops.toList 0 [] [])[m]:=List.getElem?_eq_getElem (by omega)
   have bd:=Fa m _ (by omega) ae
   have Md:=a7 (by omega)
   generalize f (m+1)=st at bd
   cases bd<;>simp[Md]
 let X:gh:={P:=P,need:=need,bk:=bk,inR:=inR,call:=call,ops:=ops,r:=r,b:=b,k0:=μ,H:=H,ih:=w,cs0:=cs0,N:=N,f:=f}
 let cK:World:={w with drawn:=w.drawn+1}
 have pa:∀o i,ops[i]? =some o->mi o i=true:=λo i aN=>by
  have ag:i<ops.size:=(Array.getElem?_eq_some_iff.1 aN).1
  have gO:ops.toList[i]? =some o:=by simpa using aN
  obtain⟨s,h1,aa,ao,_⟩:=uP (ops:=ops) ops.toList 0 [] [] (λk=>by simp) (sr hdr) (λj aG=>by omega) i o gO
  have:=sr hdr s (List.mem_of_getElem? h1)
  rw[ao] at this
  have n4:s.i=i:=by omega
  rw[n4] at this;exact this
 have jT:=LR pa (w.tape w.drawn (.order b.fn id))
 have dw:Steps P (lone (b.atR a (.code (.region id ops true)::k)) cs w) (lone (b.atR a (.inRegion ops (Region.schedule true ops (w.tape w.drawn (.order b.fn id)))::k)) cs cK):=by
  have:=stepR_region_draw (P:=P) (b:=b) (a:=a) (k:=k) (cs:=cs) (w:=w) (ops:=ops) (id:=id)
  rw[hm] at this
  exact .one this
 have hinv:Inv X [] 0 μ cK a cs:=by
  refine⟨Nat.zero_le _,(λj aG=>by cases aG),(λj aG=>by cases aG),(λi s h1 aa ao=>⟨λaG=>(by cases aG),λaG=>(by omega)⟩),?_,?_,?_,?_,λi ag _=>?_,(λi s v bX h1 aa ao aM=>by omega),λi ag aa=>?_,?_,(λi s v bX h1 aa ao aM=>by cases ao),?_,bg⟩
  · show a8 μ (f 0).h cK
    rw[f0,fU]
    exact⟨λer o i ad ag=>(af.rel er o i ad ag).mono (dm.refl μ) rfl,af.inj,λer i ag=>⟨Nat.lt_of_lt_of_le (af.lt er i ag).1 (Nat.le_add_right _ _),(af.lt er i ag).2⟩,λer ad=>af.bound er (Nat.le_trans (Nat.le_add_right _ _) ad)⟩
  · show bE μ H w μ (f 0).h cK
    rw[f0,fU]
    exact⟨dm.refl μ,Nat.le_refl _,Nat.le_add_right _ _,λ_ _ aq=>aq,λ_ _ _=>rfl,λ_ _ _=>rfl,(λer i h1 aa=>by rw[h1] at aa;cases aa),λ_ _ _ ad _ _=>⟨ad,rfl⟩,rfl,rfl,rfl,Nat.le_succ _⟩
  · show eb μ (f 0).d a.defers
    rw[f0,fU];exact al
  · show fE μ b.kind cs0 (f 0).q cs
    rw[f0,fU];exact bj
  · show μ (H.n+i)=none
    cases e:μ (H.n+i) with
    |none=>rfl
    |some dy=>have:=(af.lt _ dy e).1;omega
  · show(f 0).h.get (H.n+i)=none
    rw[f0,fU]
    exact af.bound (H.n+i) (Nat.le_add_right _ _)
  · show H.n+ops.size<=(f 0).h.n
    rw[f0,fU];exact Nat.le_refl _
  · intro t
    exact⟨λj o aG=>(by cases aG),λ_ ad=>ah t ad⟩
 have Fc:∀(nx:Option Nat) (eR:jM P need ops r (f N).env.length (f N).env nx (f N).h (f N).aV (dR ops.toList 0 [] [])=true) (u0:∀e,nx=some e->e=N/\N<ops.size)
   (mW:∀s,(dR ops.toList 0 [] [])[N]? =some s->kindOf P s.o.op=.dk/\(∀e m ay l,(f N).aV=(e,m,ay)::l->Nat.testBit s.dF e=true)/\∀k aD,N<k->(dR ops.toList 0 [] [])[k]? =some aD->Nat.testBit aD.dF s.i=true),eC X:=by
  intro nx eR u0 mW
  refine⟨ab,dU,g_,hdr,hX,Fa,by show(f 0).env=[];rw[f0,fU],by show(f 0).aV=[];rw[f0,fU],λi s ag ae hk=>?_,mW,aj,af⟩
  have gi:s.i=i:=by
   have AL:i<ops.size:=Nat.lt_of_lt_of_le ag hX
   obtain⟨aD,h1,aa,_⟩:=uP (ops:=ops) ops.toList 0 [] [] (λk=>by simp) (sr hdr) (λj aG=>by omega) i _ (show ops.toList[i]? =some ops[i] by simp[AL])
   have gM:(dR ops.toList 0 [] [])[i]? =some s:=ae
   rw[h1] at gM;cases gM;omega
  have:=E9 eR s (List.mem_of_getElem? ae) (by rw[Fb N (Nat.le_refl _),gi];exact ag) hk
  rw[Fb N (Nat.le_refl _),gi] at this
  exact⟨nx,this,u0⟩
 rcases sy with⟨Ua,U⟩|⟨s,ae,hk,aN,Me,v,d',aR,ai,he,U⟩
 · subst U
   simp only
   cases eR:jM P need ops r (f N).env.length (f N).env none (f N).h (f N).aV (dR ops.toList 0 [] []) with
   |false=>trivial
   |true=>
    simp only
    have ba:=Fc none eR (λe he=>by cases he) (λs ae=>by rw[List.getElem?_eq_none (by omega)] at ae;cases ae)
    have dM:AK X (.ok (f N).env (f N).d (f N).q (f N).h):=⟨λ_=>rfl,λbN=>by
     have zu:N<ops.size:=bN
     omega⟩
    exact gh.AJ (X:=X) dw (Inv.order ba dM k _ [] 0 μ cK a cs jT hinv)
 · subst U
   simp only
   have gi:s.i=N:=by
    have AL:N<ops.size:=by have:=(List.getElem?_eq_some_iff.1 ae).1;omega
    obtain⟨aD,h1,aa,_⟩:=uP (ops:=ops) ops.toList 0 [] [] (λk=>by simp) (sr hdr) (λj aG=>by omega) N _ (show ops.toList[N]? =some ops[N] by simp[AL])
    rw[h1] at ae;cases ae;omega
   have Mf:N<ops.size:=by have:=(List.getElem?_eq_some_iff.1 ae).1;omega
   cases eR:jM P need ops r (f N).env.length (f N).env (some s.i) (f N).h (f N).aV (dR ops.toList 0 [] []) with
   |false=>trivial
   |true=>
    simp only
    have ba:=Fc (some s.i) eR (λe he=>by cases he;exact⟨gi,Mf⟩) (λaD cZ=>by rw[ae] at cZ;cases cZ;exact⟨hk,aN,Me⟩)
    have dM:AK X (.bm v d' aR ai):=⟨λe=>by
     have b_:N=ops.size:=e
     omega,λ_ aD cZ=>by
     have gM:(dR ops.toList 0 [] [])[N]? =some aD:=cZ
     rw[ae] at gM;cases gM
     exact⟨v,d',aR,ai,he,rfl⟩⟩
    exact gh.AJ (X:=X) dw (Inv.order ba dM k _ [] 0 μ cK a cs jT hinv)
structure Fit(P:Program):Prop where
 mixed:P.follows .mixedOrders=true
 code:sm P
 ext:xy P
theorem qQ(hf:Fit P){intr:Nat->List I->J->Option (I×J)}(ag:gN P intr)(n:Nat):ie P (cu P intr n):=
 EN ag (λcall ab need bk=>sD hf.mixed ab need bk) hf.code hf.ext n
end
end aU
namespace aU
open Go Go.RowKit Go.ChangeShapes Go.WideShapes
section
variable {P:Program}
def Mg(P:Program):Bool:=P.funcs.toList.all λfn=>match fn.body with
 |some c=>fg fn.ntmps c&&!(fn.name== "runtime.NumGoroutine")
 |none=>true
def Mh(P:Program):Bool:=P.funcs.toList.all λfn=>match fn.body with
 |some _=>true
 |none=>!o_.contains fn.name||(Extern.findNext fn).isNone
theorem Fe{g:FuncId}{fZ:Func}(h:P.funcs[g]? =some fZ):fZ∈P.funcs.toList:=by
 rw[<-Array.getElem?_toList] at h;exact List.mem_of_getElem? h
theorem Mi(hm:P.follows .mixedOrders=true)(ab:Mg P=true)(he:Mh P=true):Fit P where
 mixed:=hm
 code:=λg fZ gc aj ad=>by
  have:=List.all_eq_true.1 ab fZ (Fe aj)
  rw[ad] at this
  simp only[Bool.and_eq_true,Bool.not_eq_true'] at this
  exact this
 ext:=λg fZ aj ad aB=>by
  have:=List.all_eq_true.1 he fZ (Fe aj)
  rw[ad] at this
  simp only[Bool.or_eq_true,Bool.not_eq_true',List.contains_eq_mem,decide_eq_false_iff_not] at this
  rcases this with h|h
  · exact absurd aB h
  · simpa using h
def qR(H:J):Prop:=∀b o,H.get b=some o->o.ml=true
theorem bE.below{μ az:aW}{H ax:J}{W fF:World}(ah:qR H)(af:a8 μ H W)(h:bE μ H W az ax fF):Below W.heap.size W fF:=by
 refine⟨h.os,h.tape,h.out,h.size,λr bN=>?_⟩
 by_cases he:∃b i,H.get b≠none/\μ b=some i/\i.aT=r
 · obtain⟨b,i,h1,aa,rfl⟩:=he
   cases aj:H.get b with
   |none=>exact absurd aj h1
   |some o=>exact(h.ro b o i aj (ah b o aj) aa).2
 · exact h.old r bN λb i h1 aa ao=>he ⟨b,i,h1,aa,ao⟩
def sF(G:Nat):aW:=λb=>if b<G then some ⟨b,0,0⟩ else none
theorem AM{W:World}(iL:P.globals.size<=W.heap.size):a8 (sF P.globals.size) (lC P.globals.size) W/\fi P (sF P.globals.size)/\qR (lC P.globals.size):=by
 have aB:∀b,(lC P.globals.size).get b=none:=λb=>rfl
 refine⟨⟨λb o i h=>(by rw[aB] at h;cases h),λb c i j h=>absurd (aB b) h,λb i h=>?_,λb _=>aB b⟩,λg aj=>⟨⟨g,0,0⟩,by simp[sF,aj],rfl,rfl⟩,λb o h=>(by rw[aB] at h;cases h)⟩
 unfold sF at h
 split at h
 · rename_i ad;cases h;exact⟨ad,Nat.lt_of_lt_of_le ad iL⟩
 · cases h
theorem Ff(hf:Fit P){intr:Nat->List I->J->Option (I×J)}(ag:gN P intr){n:Nat}{f:Nat}{fn:Func}{c:Code}(lQ:P.funcs[f]? =some fn)(ad:fn.body=some c){args:List I}{H:J}{v:I}{ax:J}
  (dw:cu P intr n (.fn f) args H=.ret v ax){μ:aW}{W:World}{vs:List Value}(af:a8 μ H W)(aj:fi P μ)(aI:bD μ args vs):
  Calls P f ⟨vs⟩ W λe fF=>∃az u,e=.returned u/\aS az v u/\a8 az ax fF/\bE μ H W az ax fF:=by
 have h1:=(qQ hf ag n).fn f args H (by rw[dw];rfl) μ W vs af aj aI
 rw[dw] at h1
 obtain⟨_,Am⟩:=hf.code f fn c lQ ad
 have he:=uH lQ ad Am ⟨vs⟩ W
 rcases h1 with⟨v',w',aK,_⟩|⟨_,a_⟩
 · rw[he] at aK;cases aK
 · exact a_.mono λe fF h=>h
def xQ:bL->Bool
 |.ret (.bool true) _=>true
 |_=>false
theorem Mj{r:bL}(h:xQ r=true):∃H,r=.ret (.bool true) H:=by
 unfold xQ at h
 split at h
 · exact⟨_,rfl⟩
 · cases h
theorem Mk(hf:Fit P){intr:Nat->List I->J->Option (I×J)}(ag:gN P intr){n:Nat}{f:Nat}{fn:Func}{c:Code}(lQ:P.funcs[f]? =some fn)(ad:fn.body=some c){args:List I}{H:J}
  (dw:xQ (cu P intr n (.fn f) args H)=true){μ:aW}{W:World}{vs:List Value}(af:a8 μ H W)(ah:qR H)(aj:fi P μ)(aI:bD μ args vs):
  Calls P f ⟨vs⟩ W λe fF=>e=.returned (.bool true)/\Below W.heap.size W fF:=by
 obtain⟨ax,e⟩:=Mj dw
 exact(Ff hf ag lQ ad e af aj aI).mono λe fF ⟨az,u,h1,aa,ao,aM⟩=>⟨by cases aa;exact h1,aM.below ah af⟩
def AN(P:Program):Bool:=match P.globals.size with
 |0=>true
 |g+1=>(((begin P (λ_ _=>0) default).world.heap[g]?).bind Obj.row?).isSome
theorem Ml{W:World}(ae:W.ShapedOpen P)(ad:AN P=true):P.globals.size<=W.heap.size:=by
 unfold AN at ad
 cases aj:P.globals.size with
 |zero=>exact Nat.zero_le _
 |succ g=>
  rw[aj] at ad
  simp only at ad
  obtain⟨⟨zero,t⟩,U⟩:=Option.isSome_iff_exists.1 ad
  obtain⟨cs,h1,_⟩:=ae.1 g zero t (by omega) U
  have:=(Array.getElem?_eq_some_iff.1 h1).1
  omega
variable {H:Type} {enc:TypeId×Value->H}
theorem Fg(aq:laidOutB P=true){W fF:World}(ad:Below W.heap.size W fF){sp:Nat->Bool}:∀{ts:List TypeId} {vs:List Value} {ds:List (DataW H)} {ps:List MemPlace},(∀t∈ts,P.readableRec t=true/\t<P.types.size)->
  DataW.TrodAll enc P W 0 (λ_=>true) true ts vs ds ps->(∀x∈ps,x.block<W.heap.size/\sp x.block=true)->DataW.TrodAll enc P fF 0 sp true ts vs ds ps
 |[],[],[],_,_,h,_=>h
 |_::_,_::_,_::_,_,mG,⟨p,q,h1,aa,e⟩,ae=>
  ⟨p,q,WideElems.Trod_stays aq (mG _ (by simp)).1 (mG _ (by simp)).2 h1 (λx U=>ad.same (ae x (by rw[e];simp[U])).1) (λx U=>(ae x (by rw[e];simp[U])).2),
    Fg aq ad (λt bd=>mG t (by simp[bd])) aa (λx U=>ae x (by rw[e];simp[U])),e⟩
theorem Mm{f:Func}{s:ChangeSpec}{apart fresh handsOn again:Bool}{W fF:World}{args:Array Value}{ds gs:List (DataW H)}{before:List MemPlace}{lT:TypeId}
  (aq:laidOutB P=true)(mG:∀t∈f.params.toList,P.readableRec t=true/\t<P.types.size)(eQ:f.resultTypes=#[lT])(xR:P.underlying lT=some .bool)(AO:s.vars=[])
  (iL:DataW.Whole enc P f.params.toList s.vars apart W args.toList ds gs before)(lQ:s.fn H ds={results:=[.lit (.bool true)],args:=ds})(ad:Below W.heap.size W fF):
  s.post enc P f apart fresh handsOn again W args (.bool true) fF:=by
 have bN:∀p∈before,p.block<W.heap.size:=λp aZ=>iL.lt p aZ
 have Mn:=iL
 obtain⟨ef,zW,eM,pk,rfl,aL,aB⟩:=iL
 rw[AO] at pk
 obtain⟨rfl,rfl⟩:=trodVars_none pk
 have e:s.fn H (ds++[])={results:=[.lit (.bool true)],args:=ds}:=by rw[List.append_nil];exact lQ
 have fG:∀sp:Nat->Bool,(∀p∈ef++[],sp p.block=true)->DataW.TrodAll enc P fF 0 sp true f.params.toList args.toList ds ef:=λsp Mo=>
  Fg aq ad mG eM (λx U=>⟨bN x (by simp[U]),Mo x (by simp[U])⟩)
 have et:∀(b:Nat) (sp:Nat->Bool) (al:Bool),DataW.TrodAll enc P fF b sp al f.resultTypes.toList ((Value.bool true).resultList f.resultTypes.size) [.lit (.bool true)] []:=λb sp al=>by
  rw[eQ];exact trodAll_mk1 (shut_bool xR true)
 refine⟨ds,[],ef++[],[],ef,[],Mn,?_,?_,?_,World.keptBut_mono (λp aZ=>⟨aZ,?_⟩) (ad.frame (· ∈ef++[])),λ_=>?_⟩
 · rw[e];exact et _ _ _
 · rw[e];exact fG _ λp aZ=>by simpa using bN p aZ
 · rw[e,AO];rfl
 · exact Or.inr (by simpa using aZ)
 · refine⟨ok_one eQ rfl (okWide_bool_mk xR true),_,_,([]++ef)++[],⟨[]++ef,[],trodAll_append (fG _ (λ_ _=>rfl)) (et _ _ _),show DataW.TrodVars enc P fF (λ_=>true) s.vars [] [] from by rw[AO];rfl,rfl,?_,?_⟩,?_⟩
   · intro b off aZ
     have dU:MemPlace.cell b off∈ef++[]:=by simpa using aZ
     rw[ad.frozen (bN _ dU)]
     exact aL b off dU
   · intro aH
     simpa using aB aH
   · intro p aZ _
     simpa using aZ
theorem Mp{a:Assume}{C:Checked}{os:Os}{f:FuncId}{fn:Func}{s:ChangeSpec}{conds:List PathCond}{apart fresh handsOn again:Bool}{X:World->Array Value->Prop}
  (ba:∀(w w':World) (args:Array Value),w.heap=w'.heap->X w args->X w' args)
  (own:ownKnob C.prog.godebug=none)(started:os.Started)(Mq:C.prog.inits.idxOf? f=none)(lQ:C.prog.funcs[f]? =some fn)
  (witness:∃(w:World) (tape:Tape) (i:Input),w.os=os/\(w.forCall tape i).Shaped C.prog/\i.vars=[]/\Input.okWide C.prog (w.forCall tape i) .any w.heap.size f i/\
   ((s.pre enc C.prog fn conds apart (w.forCall tape i).memory i.args/\X (w.forCall tape i).memory i.args)/\sizedMet enc C.prog fn (OpenSpec.ofChange s) apart (w.forCall tape i).memory i.args)/\a.holds C.prog (lone (Frame.enter C.prog f i.args .normal) [] (w.forCall tape i)))
  (Mr:∀(W:World) (base:Nat) (args:Array Value) (ds gs:List (DataW H)) (before:List MemPlace),
   (∀(j:Nat) t v,fn.params[j]? =some t->args[j]? =some v->Value.okWide C.prog W .any base t v)->
   DataW.Whole enc C.prog fn.params.toList s.vars apart W args.toList ds gs before->
   (DataW.weightsEach C.prog (fn.params.toList++s.plain.varTypes C.prog) (ds++gs)).all (· <=reachBytes)=true->X W args->W.ShapedOpen C.prog->
   Calls C.prog f args W λe fF=>∃v,e=.returned v/\s.post enc C.prog fn apart fresh handsOn again W args v fF):
  ReturnsInHanded a C os f .any (λw args=>(s.pre enc C.prog fn conds apart w args/\X w args)/\sizedMet enc C.prog fn (OpenSpec.ofChange s) apart w args) (s.post enc C.prog fn apart fresh handsOn again):=by
 refine returnsInHanded_of_calls own started Mq witness ?_
 intro w tape i _ Ms _ cD u4 Ub
 obtain⟨_,_,_,zk,Mt,_,_,_,_,kV⟩:=cD
 have e:zk=fn:=Option.some.inj (Mt.symm.trans lQ)
 subst e
 obtain⟨⟨⟨ds,gs,before,hw,ab⟩,U⟩,aL⟩:=u4
 have qO:=DataW.Whole.of_heap (w':=w.forCall tape i) (by rfl) hw
 refine(Mr (w.forCall tape i) w.heap.size i.args ds gs before kV qO (aL.weights hw) (ba _ _ _ (by rfl) U) Ms).mono λe fF ⟨v,he,aZ⟩=>?_
 subst he
 exact ChangeSpec.post_blind aZ
end
end aU
namespace aU
open Go Go.RowKit
mutual
def jU:I->Bool
 |.bool _=>true
 |.int _ _=>true
 |.str _=>true
 |.d_=>true
 |.bK=>true
 |.gw=>true
 |.h8=>true
 |.dY=>true
 |.fn _ a b=>kp a&&kp b
 |.iface _ v=>jU v
 |.agg cs=>kp cs
 |.aF vs=>kp vs
 |_=>false
def kp:List I->Bool
 |[]=>true
 |v::vs=>jU v&&kp vs
end
mutual
theorem u5{μ az:aW}:∀(a:I) (v:Value),jU a=true->aS μ a v->aS az a v
 |.bool _,v,_,h=>h
 |.int _ _,v,_,h=>h
 |.str _,v,_,h=>h
 |.d_,v,_,h=>h
 |.bK,v,_,h=>h
 |.gw,v,_,h=>h
 |.h8,v,_,h=>h
 |.dY,v,_,h=>h
 |.fn f a b,v,ah,h=>by
  simp only[jU,Bool.and_eq_true] at ah
  obtain⟨aP,cs,e,h1,aa⟩:=h
  exact⟨aP,cs,e,sG _ _ ah.1 h1,sG _ _ ah.2 aa⟩
 |.iface t x,v,ah,h=>by
  simp only[jU] at ah
  obtain⟨y,e,h1⟩:=h
  exact⟨y,e,u5 _ _ ah h1⟩
 |.agg cs,v,ah,h=>by
  simp only[jU] at ah
  obtain⟨l,e,h1⟩:=h
  exact⟨l,e,sG _ _ ah h1⟩
 |.aF cs,v,ah,h=>by
  simp only[jU] at ah
  obtain⟨l,e,h1⟩:=h
  exact⟨l,e,sG _ _ ah h1⟩
 |.bad,v,ah,h=>by simp[jU] at ah
 |.ptr _ _,v,ah,h=>by simp[jU] at ah
 |.slice _ _ _ _,v,ah,h=>by simp[jU] at ah
 |.map _,v,ah,h=>by simp[jU] at ah
 |.bY _,v,ah,h=>by simp[jU] at ah
theorem sG{μ az:aW}:∀(as:List I) (vs:List Value),kp as=true->bD μ as vs->bD az as vs
 |[],vs,_,h=>h
 |a::as,vs,ah,h=>by
  simp only[kp,Bool.and_eq_true] at ah
  obtain⟨v,xv,e,h1,aa⟩:=h
  exact⟨v,xv,e,u5 a v ah.1 h1,sG as xv ah.2 aa⟩
end
structure n5 where
 f:Nat
 args:List I
 v:I
def n9:List n5->Nat->List I->J->Option (I×J)
 |[],_,_,_=>none
 |e::T,f,args,h=>match Nat.beq f e.f with
  |true=>match I.lx args e.args with
   |true=>some (e.v,h)
   |false=>n9 T f args h
  |false=>n9 T f args h
theorem Fh:∀(T:List n5) (f:Nat) (args:List I) (h:J) (v:I) (ai:J),n9 T f args h=some (v,ai)->ai=h/\∃e∈T,e.f=f/\e.args=args/\e.v=v
 |[],f,args,h,v,ai,U=>by cases U
 |e::T,f,args,h,v,ai,U=>by
  simp only[n9] at U
  have rest:n9 T f args h=some (v,ai)->ai=h/\∃b_∈e::T,b_.f=f/\b_.args=args/\b_.v=v:=λU=>by
   obtain⟨h1,b_,aa,ao⟩:=Fh T f args h v ai U
   exact⟨h1,b_,List.mem_cons_of_mem _ aa,ao⟩
  split at U
  · rename_i hf
    split at U
    · rename_i aH
      cases U
      exact⟨rfl,e,by simp,(Nat.eq_of_beq_eq_true hf).symm,(ss _ _ aH).symm,rfl⟩
    · exact rest U
  · exact rest U
section
variable {P:Program}
def AP(P:Program)(intr:Nat->List I->J->Option (I×J))(n:Nat)(e:n5):Bool:=
 match cu P intr n (.fn e.f) e.args (lC P.globals.size) with
 |.ret v _=>I.beq v e.v&&jU e.v&&kp e.args
 |_=>false
def u6(P:Program)(e:n5):Prop:=∃(intr:Nat->List I->J->Option (I×J)) (n:Nat),gN P intr/\AP P intr n e=true
theorem o7.mono{f:FuncId}{vs:List Value}{w:World}{R Fi:Ending->World->Prop}(h:∀e w',R e w'->Fi e w')(aj:o7 P f vs w R):o7 P f vs w Fi:=by
 rcases aj with⟨v,w',h1,aa⟩|⟨h1,aa⟩
 · exact .inl ⟨v,w',h1,h _ _ aa⟩
 · exact .inr ⟨h1,aa.mono λe w' he=>h e w' he⟩
theorem Fj(hf:Fit P){T:List n5}(mG:∀e∈T,u6 P e):gN P (n9 T):=by
 intro f args H v ax U μ w vs af aj aI
 obtain⟨rfl,e,he,rfl,rfl,rfl⟩:=Fh T f args H v ax U
 obtain⟨intr,n,ag,ad⟩:=mG e he
 unfold AP at ad
 split at ad
 · rename_i v1 H1 dw
   simp only[Bool.and_eq_true] at ad
   obtain⟨⟨ju,eI⟩,Mu⟩:=ad
   have pg:=beq_eq _ _ ju
   subst pg
   have lU:P.globals.size<=w.heap.size:=by
    cases bg:P.globals.size with
    |zero=>exact Nat.zero_le _
    |succ g=>
     obtain⟨i,h1,aa,ao⟩:=aj g (by omega)
     have:=(af.lt _ i h1).2
     omega
   obtain⟨s1,s2,bw⟩:=AM (P:=P) lU
   have gZ:=(qQ hf ag n).fn e.f e.args (lC P.globals.size) (by rw[dw];rfl) (sF P.globals.size) w vs s1 s2 (sG _ _ Mu aI)
   rw[dw] at gZ
   refine gZ.mono λlP w' ur=>?_
   obtain⟨az,u,rfl,aK,a_,bO⟩:=ur
   have hold:∀r,r<w.heap.size->w'.heap[r]? =w.heap[r]? :=λr ah=>bO.old r ah λb i aq=>absurd rfl aq
   refine⟨μ,u,rfl,u5 _ _ eI aK,⟨λb o i ad ag=>(af.rel b o i ad ag).mono (dm.refl μ) (hold _ (af.lt b i ag).2),af.inj,λb i ag=>⟨(af.lt b i ag).1,Nat.lt_of_lt_of_le (af.lt b i ag).2 bO.size⟩,af.bound⟩,?_⟩
   exact⟨dm.refl μ,bO.size,Nat.le_refl _,λ_ _ aq=>aq,λ_ _ _=>rfl,λr ah _=>hold r ah,(λb i h1 aa=>by rw[h1] at aa;cases aa),λb o i ad _ ag=>⟨ad,hold _ (af.lt b i ag).2⟩,bO.os,bO.out,bO.tape,bO.drawn⟩
 · cases ad
def u7(P:Program):List n5->Prop
 |[]=>True
 |e::T=>u6 P e/\u7 P T
theorem u7.ok:∀{T:List n5},u7 P T->∀e∈T,u6 P e
 |[],_,e,he=>by cases he
 |x::T,h,e,he=>by
  rcases List.mem_cons.1 he with rfl|he
  · exact h.1
  · exact u7.ok h.2 e he
theorem Mv(hf:Fit P){T:List n5}(mG:u7 P T){n:Nat}{e:n5}(h:AP P (n9 T) n e=true):u6 P e:=⟨n9 T,n,Fj hf mG.ok,h⟩
end
end aU
namespace aU
open Go
def kq(G:Nat)(i:fl):aW:=λb=>if b<G then some ⟨b,0,0⟩ else if b=G then some i else none
def pn(G:Nat)(cs:List I)(el:Nat):J:=(lC G).push (.cells cs el .ro 0 0)
theorem u9(G:Nat)(cs:List I)(el b:Nat):(pn G cs el).get b=if b=G then some (.cells cs el .ro 0 0) else none:=by
 unfold pn
 rw[J.fO]
 have aB:(lC G).n=G:=rfl
 rw[aB]
 by_cases h:b=G
 · rw[if_pos h,if_pos h]
 · rw[if_neg h,if_neg h];rfl
theorem Mw{P:Program}{W:World}(iL:P.globals.size<=W.heap.size){i:fl}{c:Array Value}{el:Nat}{fz:Nat×Nat}(ad:W.heap[i.aT]? =some (.cells c el fz))(cs:List I)(fr:r_ (kq P.globals.size i) cs c i.base)(bg:i.base+i.size=c.size):
  a8 (kq P.globals.size i) (pn P.globals.size cs el) W/\fi P (kq P.globals.size i)/\qR (pn P.globals.size cs el):=by
 have bN:i.aT<W.heap.size:=(Array.getElem?_eq_some_iff.1 ad).1
 refine⟨⟨λb o j h aG=>?_,λb c' j k h1 aa ao aM _=>?_,λb j h=>?_,λb h=>?_⟩,λg aj=>⟨⟨g,0,0⟩,by simp[kq,aj],rfl,rfl⟩,λb o h=>?_⟩
 · rw[u9] at h
   split at h
   · rename_i Mx
     cases h
     subst Mx
     simp only[kq,Nat.lt_irrefl,if_false,if_true,Option.some.injEq] at aG
     subst aG
     exact⟨c,fz.1,fz.2,ad,fr,bg,trivial⟩
   · cases h
 · rw[u9] at h1 aa
   split at h1
   · split at aa
     · rename_i aK a_;rw[aK,a_]
     · obtain⟨_,aa,_⟩:=aa;cases aa
   · exact absurd rfl h1
 · unfold kq at h
   have aB:(pn P.globals.size cs el).n=P.globals.size+1:=rfl
   split at h
   · rename_i ad;cases h;exact⟨by omega,Nat.lt_of_lt_of_le ad iL⟩
   · split at h
     · rename_i ad;cases h;exact⟨by omega,bN⟩
     · cases h
 · have aB:(pn P.globals.size cs el).n=P.globals.size+1:=rfl
   rw[u9,if_neg (by omega)]
 · rw[u9] at h
   split at h
   · cases h;rfl
   · cases h
end aU
namespace aU
open Go
theorem My{P:Program}{W:World}{r:Reach}{base t:Nat}{v:Value}{ts:List TypeId}(hu:jJ P t=some true)(bd:P.cellTypes P.depth t=some ts)(aB:P.cellsOf t=ts.length)(h:Value.okWide P W r base t v):
  ∃cs:List Value,v=.agg ⟨cs⟩/\cs.length=ts.length/\∀(i:Nat) (x:Value) (u:TypeId),cs[i]? =some x->ts[i]? =some u->Cell.okWide P W r base u x:=by
 have key:∃cs,v=.agg cs/\cs.size=P.cellsOf t/\Row.okWide P W r base t cs:=by
  unfold jJ at hu
  unfold Value.okWide at h
  cases U:P.underlying t with
  |none=>rw[U] at hu;cases hu
  |some x=>
   rw[U] at hu h
   cases x<;>first|exact h|simp at hu
 obtain⟨⟨cs⟩,rfl,ae,Uc,h1,_,ao⟩:=key
 rw[bd] at h1;cases h1
 have cZ:cs.length=ts.length:=by simpa[aB] using ae
 refine⟨cs,rfl,cZ,λi x u U hu=>?_⟩
 obtain⟨po,mo,ab⟩:=ao i x (by simpa using U)
 have ag:i<ts.length:=(List.getElem?_eq_some_iff.1 hu).1
 rw[Nat.mod_eq_of_lt ag,hu] at mo
 cases mo
 exact ab
theorem u_{P:Program}{W:World}{r:Reach}{base u:Nat}{v:Value}{k:IntKind}(hu:P.underlying u=some (.int k))(h:Cell.okWide P W r base u v):∃n,v=.int k n/\k.has n:=by
 simp only[Cell.okWide,hu] at h
 cases v<;>simp_all [Cell.ok]
end aU
