/-
  THE ABSTRACT EVALUATOR (drawn regions; a run of the evaluator is a run of the program): a deterministic semantics of loaded code, and the proof that its runs are runs of the program in the model, whatever the tape draws. No condition.
-/
import Derived.Test.YtfooahfebojldaaGreatDoorAec
import Derived.Handed
import Derived.ProofKit
import Derived.Below
import Derived.ChangeSame
import Derived.SliceStrings
import Derived.WideShapes
set_option linter.unusedVariables false
set_option linter.unusedSimpArgs false
namespace ay
open Go
structure hE where
 P:Program
 need:Nat
 ck:Nat
 inR:Bool
 call:aO->List J->aa->ax
 ops:Array Oper
 r:aU
 b:Frame
 mz:bl
 H:aa
 df:World
 cs0:List Frame
 N:Nat
 f:Nat->tv
def hE.steps(X:hE):List DStep:=fk X.ops.toList 0 [] []
def hE.val(X:hE)(j:Nat):J:=(nth (X.N-1-j) (X.f X.N).env).getD .bad
structure fZ(X:hE):Prop where
 ah:l2 X.P X.call
 dL:X.inR=X.b.roundOf.isSome
 pv:∀o∈X.ops.toList,∀t,o.dst=some t->t<X.ck
 hdr:ql X.ops X.steps=true
 im:X.N<=X.ops.size
 tx:∀k s,k<X.N->X.steps[k]? =some s->tw X.P X.need X.inR X.call X.ops X.r X.H.n s (X.f k) (X.f (k+1))
 Ty:(X.f 0).env=[]
 r4:(X.f 0).a9=[]
 looks:∀i s,i<X.N->X.steps[i]? =some s->kindOf X.P s.o.op=.pure->∃en,k0 X.P X.need X.ops X.r X.N (X.f X.N).env s (X.val i) en (X.f X.N).h (X.f X.N).a9=true/\(∀e,en=some e->e=X.N/\X.N<X.ops.size)
 last:∀s,X.steps[X.N]? =some s->kindOf X.P s.o.op=.ey/\(∀e m h0 l,(X.f X.N).a9=(e,m,h0)::l->Nat.testBit s.e9 e=true)/\∀k a4,X.N<k->X.steps[k]? =some a4->Nat.testBit a4.e9 s.i=true
 pq:h3 X.P X.mz
 Bo:bm X.mz X.H X.df
section
variable {X:hE}
theorem fZ.l6(bn:fZ X){i:Nat}(af:i<X.ops.size):∃s,X.steps[i]? =some s/\s.i=i/\X.ops[i]? =some s.o/\s.loc=iP (X.ops.toList.take i) 0 []/\Sound X.ops i s.e9:=by
 have a8:X.ops.toList[i]? =some X.ops[i]:=by simp[af]
 obtain⟨s,ab,ae,av,aK,bU⟩:=yg (ops:=X.ops) X.ops.toList 0 [] [] (λk=>by simp) (vI bn.hdr) (λj aI=>by omega) i _ a8
 refine⟨s,ab,by omega,by rw[av];exact Array.getElem?_eq_getElem af,aK,by simpa using bU⟩
theorem fZ.lq(bn:fZ X){i:Nat}{s:DStep}(h:X.steps[i]? =some s):i<X.ops.size/\s.i=i/\X.ops[i]? =some s.o/\s.loc=iP (X.ops.toList.take i) 0 []/\Sound X.ops i s.e9:=by
 have af:i<X.ops.size:=by
  have ab:=(List.getElem?_eq_some_iff.1 h).1
  rw[hE.steps,EI] at ab
  simpa using ab
 obtain⟨a4,ab,ae⟩:=bn.l6 af
 rw[h] at ab;cases ab
 exact⟨af,ae⟩
theorem fZ.apart(bn:fZ X){i j:Nat}{s a4:DStep}(r3:i<j)(ab:X.steps[i]? =some s)(ae:X.steps[j]? =some a4)(h:(∃t,s.o.dst=some t/\t∈lU X.ops a4.o)\/(∃t,a4.o.dst=some t/\t∈lU X.ops s.o)):Nat.testBit a4.e9 i=true:=by
 have:=Kp bn.hdr i j s a4 r3 ab ae h
 rw[(bn.lq ab).2.1] at this;exact this
theorem fZ.Bp(bn:fZ X):∀k,k<=X.N->(X.f k).env.length=k
 |0,_=>by rw[bn.Ty];rfl
 |k+1,au=>by
  obtain⟨s,ab,_⟩:=bn.l6 (i:=k) (by have:=bn.im;omega)
  have bp:=bn.Bp k (by omega)
  have a2:=bn.tx k s (by omega) ab
  generalize X.f (k+1)=st at a2
  cases a2<;>simp[bp]
theorem fZ.Ks(bn:fZ X)(k:Nat):∀m,k<=m->m<=X.N->∃l,(X.f m).env=l++(X.f k).env
 |0,ab,ae=>⟨[],by obtain rfl:k=0:=by omega
                  rfl⟩
 |m+1,ab,ae=>by
  by_cases e:k=m+1
  · exact⟨[],by rw[e];rfl⟩
  · obtain⟨l,aw⟩:=bn.Ks k m (by omega) (by omega)
    obtain⟨s,hs,_⟩:=bn.l6 (i:=m) (by have:=bn.im;omega)
    have a2:=bn.tx m s (by omega) hs
    have:∃v,(X.f (m+1)).env=v::(X.f m).env:=by
     generalize X.f (m+1)=st at a2
     cases a2<;>exact⟨_,rfl⟩
    obtain⟨v,aH⟩:=this
    exact⟨v::l,by rw[aH,aw];rfl⟩
theorem Kt{α:Type}:∀(l m:List α) (k:Nat),nth (l.length+k) (l++m)=nth k m
 |[],m,k=>by simp
 |a::l,m,k=>by
  have:(a::l).length+k=(l.length+k)+1:=by simp;omega
  rw[this];exact Kt l m k
theorem fZ.EJ(bn:fZ X){k j:Nat}(au:k<=X.N)(aI:j<k):nth (k-1-j) (X.f k).env=nth (X.N-1-j) (X.f X.N).env:=by
 obtain⟨l,aw⟩:=bn.Ks k X.N au (Nat.le_refl _)
 have ab:=bn.Bp k au
 have ae:=bn.Bp X.N (Nat.le_refl _)
 rw[aw] at ae⊢
 simp only[List.length_append,ab] at ae
 have:X.N-1-j=l.length+(k-1-j):=by omega
 rw[this,Kt]
theorem fZ.Bq(bn:fZ X){k:Nat}(au:k<X.N){v:J}(h:(X.f (k+1)).env=v::(X.f k).env):X.val k=v:=by
 have ab:=bn.EJ (k:=k+1) (j:=k) au (Nat.lt_succ_self k)
 unfold hE.val
 rw[<-ab,h]
 simp[nth]
theorem fZ.Ku(bn:fZ X){k:Nat}(au:k<=X.N){a:Acc}(a5:a.below k):d_ k (X.f k).env X.r a=d_ X.N (X.f X.N).env X.r a:=by
 cases a with
 |env j=>simp only[d_];rw[bn.EJ au a5]
 |lh p=>rfl
 |val v=>rfl
theorem yh(l:List Oper)(t:Nat):∀k,k<=l.length->
  (∀a,iC t (iP (l.take k) 0 [])=some a->∃j o,j<k/\a=.env j/\l[j]? =some o/\o.dst=some t/\∀jS o',j<jS->jS<k->l[jS]? =some o'->o'.dst≠some t)/\
  (iC t (iP (l.take k) 0 [])=none->∀j o,j<k->l[j]? =some o->o.dst≠some t)
 |0,_=>⟨λa h=>by simp[iP,iC] at h,λ_ j o aI=>by omega⟩
 |k+1,au=>by
  obtain⟨Br,Bs⟩:=yh l t k (by omega)
  have a8:l[k]? =some l[k]:=List.getElem?_eq_getElem (by omega)
  rw[Kn l 0 [] k l[k] a8,Nat.zero_add]
  unfold lS
  cases aq:(l[k]).dst with
  |none=>
   refine⟨λa h=>?_,λh j o aI mo=>?_⟩
   · obtain⟨j,o,ab,ae,av,aK,bU⟩:=Br a h
     refine⟨j,o,by omega,ae,av,aK,λjS o' aR aT bP=>?_⟩
     by_cases e:jS=k
     · subst e;rw[a8] at bP;cases bP;rw[aq];simp
     · exact bU jS o' aR (by omega) bP
   · by_cases e:j=k
     · subst e;rw[a8] at mo;cases mo;rw[aq];simp
     · exact Bs h j o (by omega) mo
  |some d=>
   simp only[oj]
   by_cases e:t=d
   · subst e
     refine⟨λa h=>?_,λh=>by simp at h⟩
     simp at h;subst h
     exact⟨k,_,by omega,rfl,a8,aq,λjS o' aR aT=>by omega⟩
   · simp only[e,if_false]
     refine⟨λa h=>?_,λh j o aI mo=>?_⟩
     · obtain⟨j,o,ab,ae,av,aK,bU⟩:=Br a h
       refine⟨j,o,by omega,ae,av,aK,λjS o' aR aT bP=>?_⟩
       by_cases aC:jS=k
       · subst aC;rw[a8] at bP;cases bP;rw[aq];simp;exactλcI=>e cI.symm
       · exact bU jS o' aR (by omega) bP
     · by_cases aC:j=k
       · subst aC;rw[a8] at mo;cases mo;rw[aq];simp;exactλcI=>e cI.symm
       · exact Bs h j o (by omega) mo
def hE.tz(X:hE)(S:List Nat)(μ:bl)(b_:Array Value):Prop:=∀t,
 (∀j o,j∈S->X.ops[j]? =some o->o.dst=some t->(∀k o',k∈S->X.ops[k]? =some o'->o'.dst=some t->k<=j)->bd μ (X.val j) (b_.getD t undef))/\
 ((∀j o,j∈S->X.ops[j]? =some o->o.dst≠some t)->Nat.testBit X.need t=true->bd μ (X.r.get (hc t)) (b_.getD t undef))
theorem hE.tz.mono{S:List Nat}{μ aP:bl}{b_:Array Value}(hle:fa μ aP)(h:X.tz S μ b_):X.tz S aP b_:=λt=>⟨λj o ab ae av aK=>((h t).1 j o ab ae av aK).mono hle,λab ae=>((h t).2 ab ae).mono hle⟩
theorem fZ.Kv(bn:fZ X){S:List Nat}(hd:Bn X.ops S){μ:bl}{b_:Array Value}(ai:X.tz S μ b_){i:Nat}(af:i<=X.N)(ec:i∉S)(db:k2 X.ops S i){s:DStep}(hs:X.steps[i]? =some s){t:Nat}(a2:t∈lU X.ops s.o):
  bd μ (d_ i (X.f i).env X.r (cP X.P X.need s.loc (.tmp t))) (b_.getD t undef):=by
 obtain⟨dL,hS,fL,mA,l7⟩:=bn.lq hs
 obtain⟨f1,f2⟩:=yh X.ops.toList t i (by simp;omega)
 have Kw:∀k o',k∈S->X.ops[k]? =some o'->o'.dst=some t->k<i:=λk o' au il aq=>by
  have vK:k<X.ops.size:=(Array.getElem?_eq_some_iff.1 il).1
  rcases Nat.lt_trichotomy k i with h|h|h
  · exact h
  · subst h;exact absurd au ec
  · obtain⟨a4,aR,aT,bP,eR,ll⟩:=bn.l6 vK
    rw[il] at bP;cases bP
    have:=bn.apart h hs aR (.inr ⟨t,aq,a2⟩)
    exact absurd (ll S hd (hd k au) i this) ec
 simp only[cP,mA]
 cases hf:iC t (iP (X.ops.toList.take i) 0 []) with
 |some a=>
  obtain⟨j,o,aI,rfl,mo,aq,rB⟩:=f1 a hf
  have Kx:X.ops[j]? =some o:=by simpa using mo
  obtain⟨a4,aR,aT,bP,eR,ll⟩:=bn.l6 (i:=j) (by omega)
  rw[Kx] at bP;cases bP
  have EK:j∈S:=l7 S hd db j (bn.apart aI aR hs (.inl ⟨t,aq,a2⟩))
  have:=(ai t).1 j _ EK Kx aq λk o' au il mw=>by
   have Tz:=Kw k o' au il mw
   rcases Nat.lt_or_ge j k with h|h
   · exact absurd mw (rB k o' h Tz (by simpa using il))
   · exact h
  have aH:d_ i (X.f i).env X.r (.env j)=X.val j:=by
   simp only[d_,hE.val]
   rw[bn.EJ af aI]
  simp only[aH];exact this
 |none=>
  simp only[]
  cases ag:Nat.testBit X.need t with
  |false=>trivial
  |true=>
   exact(ai t).2 (λj o aI a8 aq=>f2 hf j o (Kw j o aI a8 aq) (by simpa using a8) aq) ag
theorem fZ.Ky(bn:fZ X){S:List Nat}(hd:Bn X.ops S){μ:bl}{a:Act}(bE:a.tmps.size=X.ck)(ai:X.tz S μ a.tmps){i:Nat}(ec:i∉S)(db:k2 X.ops S i){s:DStep}(hs:X.steps[i]? =some s){u:Value}(hu:bd μ (X.val i) u):
  X.tz (i::S) μ (a.put s.o.dst u).tmps:=by
 obtain⟨dL,hS,fL,mA,l7⟩:=bn.lq hs
 have cx:∀t,s.o.dst=some t->t<a.tmps.size:=λt h=>by
  rw[bE];exact bn.pv s.o (by rw[<-Array.getElem?_toList] at fL;exact List.mem_of_getElem? fL) t h
 intro t
 by_cases aq:s.o.dst=some t
 · have fR:(a.put s.o.dst u).tmps.getD t undef=u:=by
     rw[aq];simp only[Act.put];rw[x6 (cx t aq),if_pos rfl]
   have TA:∀k o',k∈S->X.ops[k]? =some o'->o'.dst=some t->k<i:=λk o' au il mw=>by
    have vK:k<X.ops.size:=(Array.getElem?_eq_some_iff.1 il).1
    rcases Nat.lt_trichotomy k i with h|h|h
    · exact h
    · subst h;exact absurd au ec
    · obtain⟨a4,aR,aT,bP,eR,ll⟩:=bn.l6 vK
      rw[il] at bP;cases bP
      have:=bn.apart h hs aR (.inr ⟨t,mw,by simp[lU,aq]⟩)
      exact absurd (ll S hd (hd k au) i this) ec
   refine⟨λj o aI a8 Bt xZ=>?_,λtA=>absurd aq (tA i s.o (by simp) fL)⟩
   have r3:=xZ i s.o (by simp) fL aq
   rcases List.mem_cons.1 aI with rfl|aI
   · rw[fR];exact hu
   · have:=TA j o aI a8 Bt;omega
 · have fR:(a.put s.o.dst u).tmps.getD t undef=a.tmps.getD t undef:=by
     cases vL:s.o.dst with
     |none=>rfl
     |some d=>
      simp only[Act.put]
      rw[x6 (cx d vL),if_neg (λe=>aq (by rw[vL,e]))]
   rw[fR]
   refine⟨λj o aI a8 Bt xZ=>?_,λtA ag=>(ai t).2 (λj o aI a8=>tA j o (by simp[aI]) a8) ag⟩
   rcases List.mem_cons.1 aI with rfl|aI
   · rw[fL] at a8;cases a8;exact absurd Bt aq
   · exact(ai t).1 j o aI a8 Bt λk o' au il mw=>xZ k o' (by simp[au]) il mw
def qw(μ:bl)(w:World)(b:Nat)(ob:b3):Prop:=∃i O,μ b=some i/\w.heap[i.bg]? =some O/\(∀aP w',fa μ aP->w'.heap[i.bg]? =some O->ng aP ob i w')/\(∀c j,c≠b->μ c=some j->j.bg≠i.bg)
theorem bm.EL{μ:bl}{H:aa}{w:World}(h:bm μ H w){b:Nat}{ob:b3}(ag:b<H.n)(aY:μ b=none\/qw μ w b ob):bm μ (H.set b (some ob)) w:=by
 refine⟨λc o i ah af=>?_,λc d i j ah aq af aI e=>?_,λc i af=>h.lt c i af,λc ah=>?_⟩
 · rw[aa.bH] at ah
   by_cases e:c=b
   · subst e
     rw[if_pos rfl] at ah;cases ah
     rcases aY with aY|⟨tB,O,ab,ae,av,aK⟩
     · rw[aY] at af;cases af
     · rw[ab] at af;cases af
       exact av μ w (fa.refl μ) ae
   · rw[if_neg e] at ah;exact h.rel c o i ah af
 · rw[aa.bH] at ah aq
   by_cases aE:c=b
   · by_cases aC:d=b
     · rw[aE,aC]
     · subst aE
       rcases aY with aY|⟨tB,O,ab,ae,av,aK⟩
       · rw[aY] at af;cases af
       · rw[ab] at af;cases af
         exact absurd e.symm (aK d j aC aI)
   · by_cases aC:d=b
     · subst aC
       rcases aY with aY|⟨tB,O,ab,ae,av,aK⟩
       · rw[aY] at aI;cases aI
       · rw[ab] at aI;cases aI
         exact absurd e (aK c i aE af)
     · rw[if_neg aE] at ah;rw[if_neg aC] at aq
       exact h.inj c d i j ah aq af aI e
 · rw[aa.bH,if_neg (by simp at ah;omega)];exact h.bound c (by simpa using ah)
theorem b4.EL{mz μ:bl}{H yi:aa}{df w:World}(aj:bm mz H df)(h:b4 mz H df μ yi w){b:Nat}(ob:b3)(ag:H.n<=b):b4 mz H df μ (yi.set b (some ob)) w where
 le:=h.le
 size:=h.size
 n:=by simpa using h.n
 live:=λc ah aw=>h.live c ah (by rw[aa.bH,if_neg (by omega)] at aw;exact aw)
 idle:=λc ah hm=>by rw[aa.bH,if_neg (by omega)];exact h.idle c ah hm
 old:=h.old
 new:=h.new
 ro:=λc o i ah ai af=>by
  have:=(aj.lt c i af).1
  rw[aa.bH,if_neg (by omega)];exact h.ro c o i ah ai af
 os:=h.os
 out:=h.out
 tape:=h.tape
 drawn:=h.drawn
theorem bm.early{μ:bl}{H:aa}{w:World}(h:bm μ H w){b:Nat}{ob:b3}{O:Obj}{sz:Nat}(ag:b<H.n)(hm:μ b=none)(a8:∀o,H.get b=some o->o=ob)
  (TB:∀aP w',fa μ aP->w'.heap[w.heap.size]? =some O->ng aP ob ⟨w.heap.size,0,sz⟩ w'):fa μ (gy μ b ⟨w.heap.size,0,sz⟩)/\bm (gy μ b ⟨w.heap.size,0,sz⟩) H (w.alloc O):=by
 have hle:fa μ (gy μ b ⟨w.heap.size,0,sz⟩):=λc i af=>by
  rw[ho];exact af
  intro e;subst e;rw[hm] at af;cases af
 have hold:∀r,r<w.heap.size->(w.alloc O).heap[r]? =w.heap[r]? :=λr ai=>by
  simp only[World.alloc,Array.getElem?_push];rw[if_neg (by omega)]
 refine⟨hle,λc o i ah af=>?_,λc d i j ah aq af aI e=>?_,λc i af=>?_,h.bound⟩
 · by_cases e:c=b
   · subst e
     rw[gz] at af;cases af
     rw[a8 o ah]
     exact TB _ _ hle (World.heap_alloc_new _ _)
   · rw[ho _ _ e] at af
     exact(h.rel c o i ah af).mono hle (hold _ (h.lt c i af).2)
 · by_cases aE:c=b
   · by_cases aC:d=b
     · rw[aE,aC]
     · subst aE;rw[gz] at af;cases af
       rw[ho _ _ aC] at aI
       have:=(h.lt d j aI).2
       simp only at e;omega
   · by_cases aC:d=b
     · subst aC;rw[gz] at aI;cases aI
       rw[ho _ _ aE] at af
       have:=(h.lt c i af).2
       simp only at e;omega
     · rw[ho _ _ aE] at af;rw[ho _ _ aC] at aI
       exact h.inj c d i j ah aq af aI e
 · by_cases e:c=b
   · subst e;rw[gz] at af;cases af
     exact⟨ag,by simp⟩
   · rw[ho _ _ e] at af
     have:=h.lt c i af
     simp only[World.size_alloc];omega
theorem b4.early{mz μ:bl}{H yi:aa}{df w:World}(aj:bm mz H df)(h:b4 mz H df μ yi w){b:Nat}(ag:H.n<=b)(hm:μ b=none){O:Obj}{sz:Nat}:b4 mz H df (gy μ b ⟨w.heap.size,0,sz⟩) yi (w.alloc O):=by
 have hold:∀r,r<w.heap.size->(w.alloc O).heap[r]? =w.heap[r]? :=λr ai=>by
  simp only[World.alloc,Array.getElem?_push];rw[if_neg (by omega)]
 exact{
  le:=λc i af=>by
   have ab:=h.le c i af
   rw[ho];exact ab
   intro e;subst e;rw[hm] at ab;cases ab
  size:=by have:=h.size;simp only[World.size_alloc];omega
  n:=h.n
  live:=h.live
  idle:=h.idle
  old:=λr ai aJ=>(hold r (Nat.lt_of_lt_of_le ai h.size)).trans (h.old r ai aJ)
  new:=λc i ab ae=>by
   by_cases e:c=b
   · subst e;rw[gz] at ae;cases ae;exact⟨ag,.inl h.size⟩
   · rw[ho _ _ e] at ae;exact h.new c i ab ae
  ro:=λc o i ah ai af=>by
   obtain⟨ab,ae⟩:=h.ro c o i ah ai af
   exact⟨ab,(hold _ (Nat.lt_of_lt_of_le (aj.lt c i af).2 h.size)).trans ae⟩
  os:=h.os
  out:=h.out
  tape:=h.tape
  drawn:=h.drawn}
theorem qw.early{μ:bl}{H:aa}{w:World}(h:bm μ H w){b c:Nat}{ob:b3}{O:Obj}{sz:Nat}(hm:μ b=none)(aY:qw μ w c ob):qw (gy μ b ⟨w.heap.size,0,sz⟩) (w.alloc O) c ob:=by
 obtain⟨i,EM,ab,ae,av,aK⟩:=aY
 have dK:c≠b:=by intro e;subst e;rw[hm] at ab;cases ab
 have cx:=(h.lt c i ab).2
 have hle:fa μ (gy μ b ⟨w.heap.size,0,sz⟩):=λc i af=>by
  rw[ho];exact af
  intro e;subst e;rw[hm] at af;cases af
 refine⟨i,EM,by rw[ho _ _ dK];exact ab,?_,λaP w' aw qx=>av aP w' (hle.trans aw) qx,λd j aq aI=>?_⟩
 · simp only[World.alloc,Array.getElem?_push];rw[if_neg (by omega)];exact ae
 · by_cases e:d=b
   · subst e;rw[gz] at aI;cases aI;simp only;omega
   · rw[ho _ _ e] at aI;exact aK d j aq aI
theorem qw.pB{μ aP:bl}{H aZ:aa}{w w':World}(aj:bm μ H w)(a5:b4 μ H w aP aZ w'){c:Nat}{ob:b3}(ao:H.get c=none)(aY:qw μ w c ob):qw aP w' c ob:=by
 obtain⟨i,EM,ab,ae,av,aK⟩:=aY
 have cx:=(aj.lt c i ab).2
 refine⟨i,EM,a5.le _ _ ab,?_,λAJ cp aw qx=>av AJ cp (a5.le.trans aw) qx,λd j aq aI=>?_⟩
 · rw[a5.old i.bg cx]
   · exact ae
   · intro d j aw aI
     exact aK d j (λe=>by subst e;exact aw ao) aI
 · cases qt:μ d with
   |some TC=>
    have:=a5.le d TC qt
    rw[aI] at this;cases this
    exact aK d j aq qt
   |none=>
    obtain⟨_,aJ|⟨e,o,k,he,_,au,EN⟩⟩:=a5.new d j qt aI
    · omega
    · rw[<-EN]
      exact aK e k (λcI=>by subst cI;rw[ao] at he;cases he) au
end
end ay
namespace ay
open Go
section
variable {X:hE}
def r5(X:hE)(i:Nat)(s:DStep)(v:J)(ob:b3):Prop:=
 i<X.N/\kindOf X.P s.o.op=.alloc/\eH (g0 X.P X.need X.ops X.r s.i (X.f i).env s)=some true/\kb X.P s.o.op (l5 X.P X.need X.r s (X.f i).env) (X.H.n+i)=some (v,ob)
structure Inv(X:hE)(S:List Nat)(c:Nat)(μ:bl)(w:World)(a:Act)(cs:List Frame):Prop where
 ah:c<=X.N
 closed:Bn X.ops S
 sub:∀i∈S,i<X.N
 ey:∀i s,X.steps[i]? =some s->i<X.N->kindOf X.P s.o.op=.ey->(i∈S<->i<c)
 rel:bm μ (X.f c).h w
 pB:b4 X.mz X.H X.df μ (X.f c).h w
 vM:gS μ (X.f c).d a.defers
 qr:ik μ X.b.kind X.cs0 (X.f c).q cs
 eB:∀i,i<X.ops.size->i∉S->μ (X.H.n+i)=none
 lay:∀i s v ob,X.steps[i]? =some s->r5 X i s v ob->i∉S->i<c->(X.f c).h.get (X.H.n+i)=some ob
 ou:∀i,c<=i->i<X.ops.size->(X.f c).h.get (X.H.n+i)=none
 qy:X.H.n+X.ops.size<=(X.f c).h.n
 gb:∀i s v ob,X.steps[i]? =some s->r5 X i s v ob->i∈S->c<=i->qw μ w (X.H.n+i) ob
 mj:X.tz S μ a.tmps
 sz:a.tmps.size=X.ck
theorem Inv.pass(bn:fZ X){S:List Nat}{c:Nat}{μ:bl}{w:World}{a:Act}{cs:List Frame}(h:Inv X S c μ w a cs)(cx:c<X.N){s:DStep}(hs:X.steps[c]? =some s)(au:kindOf X.P s.o.op≠ .ey):Inv X S (c+1) μ w a cs:=by
 obtain⟨dL,hS,fL,mA,l7⟩:=bn.lq hs
 have a2:=bn.tx c s cx hs
 have Kz:∀i a4,X.steps[i]? =some a4->i<X.N->kindOf X.P a4.o.op=.ey->(i∈S<->i<c+1):=λi a4 ab ae av=>by
  rw[h.ey i a4 ab ae av]
  have:i≠c:=by intro e;subst e;rw[hs] at ab;cases ab;exact au av
  omega
 have same:(X.f (c+1)).h=(X.f c).h->(X.f (c+1)).d=(X.f c).d->(X.f (c+1)).q=(X.f c).q->(∀v ob,¬r5 X c s v ob)->Inv X S (c+1) μ w a cs:=λaE aC bu TD=>by
  refine⟨cx,h.closed,h.sub,Kz,by rw[aE];exact h.rel,by rw[aE];exact h.pB,by rw[aC];exact h.vM,by rw[bu];exact h.qr,h.eB,λi a4 v ob ab ae av aK=>?_,λi ab ae=>(by rw[aE];exact h.ou i (by omega) ae),by rw[aE];exact h.qy,λi a4 v ob ab ae av aK=>h.gb i a4 v ob ab ae av (by omega),h.mj,h.sz⟩
  by_cases e:i=c
  · subst e;rw[hs] at ab;cases ab;exact absurd ae (TD v ob)
  · rw[aE];exact h.lay i a4 v ob ab ae av (by omega)
 generalize hf:X.f (c+1)=st at a2
 cases a2 with
 |vJ fJ hw=>
  refine same (by rw[hf]) (by rw[hf]) (by rw[hf]) λv ob iU=>?_
  have:=iU.2.2.1
  rw[hw] at this;cases this
 |pure fJ he=>
  refine same (by rw[hf]) (by rw[hf]) (by rw[hf]) λv ob iU=>?_
  have:=iU.2.1
  rw[fJ] at this;cases this
 |ey fJ a8 he=>exact absurd fJ au
 |alloc fJ hw a5=>
  rename_i v ob
  have aE:(X.f (c+1)).h=(X.f c).h.set (X.H.n+c) (some ob):=by rw[hf,hS]
  have aC:(X.f (c+1)).d=(X.f c).d:=by rw[hf]
  have bu:(X.f (c+1)).q=(X.f c).q:=by rw[hf]
  have iU:r5 X c s v ob:=⟨cx,fJ,hw,by rw[<-hS];rw[<-hS] at a5;exact a5⟩
  have ag:X.H.n+c<(X.f c).h.n:=by have:=h.qy;omega
  have aY:μ (X.H.n+c)=none\/qw μ w (X.H.n+c) ob:=by
   by_cases KA:c∈S
   · exact .inr (h.gb c s v ob hs iU KA (Nat.le_refl _))
   · exact .inl (h.eB c dL KA)
  refine⟨cx,h.closed,h.sub,Kz,by rw[aE];exact h.rel.EL ag aY,by rw[aE];exact h.pB.EL bn.Bo ob (by omega),by rw[aC];exact h.vM,by rw[bu];exact h.qr,h.eB,λi a4 v' EO ab ae av aK=>?_,λi ab ae=>?_,by rw[aE];simpa using h.qy,λi a4 v ob ab ae av aK=>h.gb i a4 v ob ab ae av (by omega),h.mj,h.sz⟩
  · rw[aE,aa.bH]
    by_cases e:i=c
    · subst e
      rw[hs] at ab;cases ab
      have:=ae.2.2.2.symm.trans iU.2.2.2
      cases this
      rw[if_pos rfl]
    · rw[if_neg (by omega)];exact h.lay i a4 v' EO ab ae av (by omega)
  · rw[aE,aa.bH,if_neg (by omega)]
    exact h.ou i (by omega) ae
def Norm(X:hE)(c:Nat):Prop:=c=X.N\/∃s,X.steps[c]? =some s/\kindOf X.P s.o.op=.ey
theorem Inv.norm(bn:fZ X){S:List Nat}{μ:bl}{w:World}{a:Act}{cs:List Frame}:∀(k c:Nat),X.N-c=k->Inv X S c μ w a cs->∃c',Norm X c'/\Inv X S c' μ w a cs
 |0,c,au,h=>⟨c,.inl (by have:=h.ah;omega),h⟩
 |k+1,c,au,h=>by
  obtain⟨s,hs,_⟩:=bn.l6 (i:=c) (by have:=bn.im;omega)
  by_cases he:kindOf X.P s.o.op=.ey
  · exact⟨c,.inr ⟨s,hs,he⟩,h⟩
  · exact Inv.norm bn k (c+1) (by omega) (h.pass bn (by omega) hs he)
def yj(ops:Array Oper)(o:Oper)(g:Operand->J):Operand->J
 |.tmp t=>if(lU ops o).contains t then g (.tmp t) else .bad
 |x=>g x
theorem Bu{ops:Array Oper}{o:Oper}{g:Operand->J}:∀x∈o.op.operands,g x=yj ops o g x:=by
 intro x ad
 cases x with
 |tmp t=>
  have:(lU ops o).contains t=true:=by
   have ab:t∈o.op.operands.toList.filterMap λ|.tmp t=>some t|_=>none:=List.mem_filterMap.2 ⟨.tmp t,by simpa using ad,rfl⟩
   simp only[lU,List.contains_iff_mem,List.mem_append]
   exact .inl (.inr ab)
  simp only[yj,this,if_true]
 |_=>rfl
theorem KB(bn:fZ X){S:List Nat}{c:Nat}{μ:bl}{w:World}{a:Act}{cs:List Frame}(h:Inv X S c μ w a cs){i:Nat}(af:i<=X.N)(ec:i∉S)(db:k2 X.ops S i){s:DStep}(hs:X.steps[i]? =some s):
  ∀x,bd μ (yj X.ops s.o (l5 X.P X.need X.r s (X.f i).env) x) (a.eval x):=by
 obtain⟨dL,hS,fL,mA,l7⟩:=bn.lq hs
 intro x
 cases x with
 |tmp t=>
  simp only[yj]
  split
  · rename_i a2
    have:=bn.Kv h.closed h.mj af ec db hs (t:=t) (by simpa using a2)
    unfold l5;rw[hS];exact this
  · trivial
 |const v=>exact ke μ v
 |global g=>
  simp only[yj,l5,cP,Act.eval]
  cases ag:Nat.blt g X.P.globals.size with
  |false=>exact trivial
  |true=>
   obtain⟨i,ab,ae,av⟩:=bn.pq.mono h.pB.le g (by simpa using ag)
   obtain⟨jD,i0,A3⟩:=i
   simp only at ae av
   subst ae;subst av
   exact⟨_,ab,rfl⟩
 |func f=>exact⟨[],[],rfl,rfl,rfl⟩
theorem EP(bn:fZ X){S:List Nat}{c:Nat}{μ:bl}{w:World}{a:Act}{cs:List Frame}(h:Inv X S c μ w a cs){i:Nat}(af:i<=X.N)(ec:i∉S)(db:k2 X.ops S i){s:DStep}(hs:X.steps[i]? =some s):
  ∀mv,eH (g0 X.P X.need X.ops X.r s.i (X.f i).env s)=some mv->Region.wanted s.o (yielded X.ops a.tmps)=mv:=by
 obtain⟨dL,hS,fL,mA,l7⟩:=bn.lq hs
 intro mv hw
 unfold g0 j8 at hw
 unfold Region.wanted
 cases ao:s.o.guard with
 |none=>rw[ao] at hw;simp only[eH] at hw;cases hw;rfl
 |some p=>
  obtain⟨j,dT⟩:=p
  rw[ao] at hw
  simp only at hw⊢
  cases a2:(X.ops[j]?).bind (·.dst) with
  |none=>rw[a2] at hw;simp only[d_,eH] at hw;cases hw
  |some t=>
   rw[a2] at hw
   simp only at hw
   have ai:=bn.Kv h.closed h.mj af ec db hs (t:=t) (by
    simp only[lU,List.mem_append]
    refine .inr ?_
    rw[ao];simp only[a2];simp)
   rw[JU a2]
   rw[hS] at hw
   generalize d_ i (X.f i).env X.r (cP X.P X.need s.loc (.tmp t))=v at hw ai
   unfold eH at hw
   split at hw
   · rename_i he;cases he
   · rename_i he;cases he;cases hw
     have Ep:a.tmps.getD t undef=_:=ai
     rw[Ep];rfl
   · rename_i he;cases he;cases hw
     obtain⟨l,aw,kH⟩:=ai
     cases kH
     rw[aw];rfl
   · cases hw
theorem tC{P:Program}{inR:Bool}{call:aO->List J->aa->ax}{gd:Option (J×Bool)}{o:Oper}{g ez:Operand->J}{d:List bC}{q:bG}{H:aa}(h:∀x∈o.op.operands,g x=ez x):eb P inR call gd o g d q H=eb P inR call gd o ez d q H:=by
 unfold eb;rw[yd o H h]
theorem Inv.one(bn:fZ X){S:List Nat}{c:Nat}{μ:bl}{w:World}{a:Act}{cs:List Frame}(h:Inv X S c μ w a cs){i:Nat}(af:i<=X.N)(ec:i∉S)(db:k2 X.ops S i){s:DStep}(hs:X.steps[i]? =some s)(rest:List Nat)(k:List Item):
  Ej X.P μ (X.f c).h w X.b a X.ops s.o i rest k X.cs0 cs (eb X.P X.inR X.call (g0 X.P X.need X.ops X.r s.i (X.f i).env s) s.o (l5 X.P X.need X.r s (X.f i).env) (X.f c).d (X.f c).q (X.f c).h):=by
 obtain⟨dL,hS,fL,mA,l7⟩:=bn.lq hs
 rw[tC (Bu (ops:=X.ops))]
 exact JQ bn.ah h.rel (bn.pq.mono h.pB.le) fL (EP bn h af ec db hs) (KB bn h af ec db hs) h.vM h.qr bn.dL
theorem Inv.Bv(bn:fZ X){S:List Nat}{c c':Nat}{μ aP:bl}{w w':World}{a:Act}{cs bS:List Frame}(h:Inv X S c μ w a cs){i:Nat}(af:i<X.N)(ec:i∉S)(db:k2 X.ops S i){s:DStep}(hs:X.steps[i]? =some s)(au:∀v ob,¬r5 X i s v ob)
  {u:Value}{aV:List Deferred}(aH:bd aP (X.val i) u)(lo:bm aP (X.f c').h w')(oo:b4 μ (X.f c).h w aP (X.f c').h w')(aq:gS aP (X.f c').d aV)(a1:ik aP X.b.kind X.cs0 (X.f c').q bS)
  (vN:(c'=c/\kindOf X.P s.o.op≠ .ey)\/(c'=c+1/\i=c)):Inv X (i::S) c' aP w' {tmps:=(a.put s.o.dst u).tmps,defers:=aV} bS:=by
 obtain⟨dL,hS,fL,mA,l7⟩:=bn.lq hs
 have hle:=oo.le
 have yk:c<=c':=by rcases vN with⟨e,_⟩|⟨e,_⟩<;>omega
 have Bw:=h.qy
 refine⟨?_,λj aI=>?_,λj aI=>?_,λj a4 ab ae av=>?_,lo,b4.trans bn.Bo h.rel h.pB oo,aq,a1,λj ab ae=>?_,λj a4 v ob ab ae av aK=>?_,λj ab ae=>?_,?_,λj a4 v ob ab ae av aK=>?_,?_,?_⟩
 · rcases vN with⟨e,_⟩|⟨e,aC⟩
   · rw[e];exact h.ah
   · omega
 · have hm:k2 X.ops S j->k2 X.ops (i::S) j:=λaj o a8 e he ag=>List.mem_cons_of_mem _ (aj o a8 e he ag)
   rcases List.mem_cons.1 aI with rfl|aI
   · exact hm db
   · exact hm (h.closed j aI)
 · rcases List.mem_cons.1 aI with rfl|aI
   · exact af
   · exact h.sub j aI
 · have:=h.ey j a4 ab ae av
   rw[List.mem_cons,this]
   rcases vN with⟨e,aC⟩|⟨e,aC⟩
   · subst e
     have:j≠i:=by intro e;subst e;rw[hs] at ab;cases ab;exact aC av
     simp[this]
   · omega
 · have Bx:j∉S:=λaj=>ae (List.mem_cons_of_mem _ aj)
   cases hm:aP (X.H.n+j) with
   |none=>rfl
   |some eB=>
    have:=(oo.new _ eB (h.eB j ab Bx) hm).1
    omega
 · have Bx:j∉S:=λaj=>av (List.mem_cons_of_mem _ aj)
   have lV:j≠i:=λe=>av (by simp[e])
   have ac8:=ae.1
   have I7:j<c:=by rcases vN with⟨e,_⟩|⟨e,aC⟩<;>omega
   rw[oo.idle _ (by have:=bn.im;omega) (h.eB j (by have:=bn.im;omega) Bx)]
   exact h.lay j a4 v ob ab ae Bx I7
 · have h0:=h.ou j (by omega) ae
   cases ao:(X.f c').h.get (X.H.n+j) with
   |none=>rfl
   |some o=>exact absurd h0 (oo.live _ (by omega) (by rw[ao];simp))
 · exact Nat.le_trans Bw oo.n
 · have lV:j≠i:=by
     intro e;subst e;rw[hs] at ab;cases ab;exact au v ob ae
   have EK:j∈S:=by
    rcases List.mem_cons.1 av with e|aj
    · exact absurd e lV
    · exact aj
   have ac9:=ae.1
   exact(h.gb j a4 v ob ab ae EK (by omega)).pB h.rel oo (h.ou j (by omega) (by have:=bn.im;omega))
 · exact bn.Ky (a:=a) h.closed h.sz (h.mj.mono hle) ec db hs aH
 · simpa using(Ba a s.o.dst u).trans h.sz
theorem yl{s:DStep}{v:J}(bn:fZ X):∀(m:Nat),m<=X.N->∀(en:Option Nat) (vO:aa),k0 X.P X.need X.ops X.r X.N (X.f X.N).env s v en vO (X.f m).a9=true->
  ∀c a4,c<m->X.steps[c]? =some a4->kindOf X.P a4.o.op=.ey->∃a9,a9=(X.f c).a9/\k0 X.P X.need X.ops X.r X.N (X.f X.N).env s v (some c) (X.f c).h a9=true
 |0,_,en,vO,h,c,a4,ah,_,_=>by omega
 |m+1,hm,en,vO,h,c,a4,ah,dF,au=>by
  obtain⟨pC,aR,aT,_⟩:=bn.l6 (i:=m) (by have:=bn.im;omega)
  have a2:=bn.tx m pC (by omega) aR
  by_cases e:c=m
  · subst e
    rw[aR] at dF;cases dF
    generalize hf:X.f (c+1)=st at a2 h
    cases a2 with
    |vJ fJ=>rw[au] at fJ;cases fJ
    |alloc fJ=>rw[au] at fJ;cases fJ
    |pure fJ=>rw[au] at fJ;cases fJ
    |ey fJ a8 he=>
     unfold k0 at h
     rw[Bool.and_eq_true] at h
     have ae:=h.2
     simp only[aT] at ae
     exact⟨_,rfl,ae⟩
  · have cx:c<m:=by omega
    generalize hf:X.f (m+1)=st at a2 h
    cases a2 with
    |vJ fJ=>exact yl bn m (by omega) en vO h c a4 cx dF au
    |alloc fJ=>exact yl bn m (by omega) en vO h c a4 cx dF au
    |pure fJ=>exact yl bn m (by omega) en vO h c a4 cx dF au
    |ey fJ a8 he=>
     unfold k0 at h
     rw[Bool.and_eq_true] at h
     have ae:=h.2
     simp only at ae
     exact yl bn m (by omega) _ _ ae c a4 cx dF au
theorem ER(bn:fZ X):∀(m:Nat),m<=X.N->∀e mk h0 l,(X.f m).a9=(e,mk,h0)::l->e<m/\∃a4,X.steps[e]? =some a4/\kindOf X.P a4.o.op=.ey/\mk=a4.e9
 |0,_,e,mk,h0,l,h=>by rw[bn.r4] at h;cases h
 |m+1,hm,e,mk,h0,l,h=>by
  obtain⟨pC,aR,aT,_⟩:=bn.l6 (i:=m) (by have:=bn.im;omega)
  have a2:=bn.tx m pC (by omega) aR
  generalize hf:X.f (m+1)=st at a2 h
  cases a2 with
  |ey fJ a8 he=>
   simp only[List.cons.injEq,Prod.mk.injEq] at h
   obtain⟨⟨rfl,rfl,rfl⟩,rfl⟩:=h
   exact⟨by omega,pC,by rw[aT];exact aR,fJ,rfl⟩
  |_=>obtain⟨ab,ae⟩:=ER bn m (by omega) e mk h0 l h;exact⟨by omega,ae⟩
theorem Inv.looks(bn:fZ X){S:List Nat}{c:Nat}{μ:bl}{w:World}{a:Act}{cs:List Frame}(h:Inv X S c μ w a cs)(aJ:Norm X c){i:Nat}(af:i<X.N)(ec:i∉S)(db:k2 X.ops S i){s:DStep}(hs:X.steps[i]? =some s)(au:kindOf X.P s.o.op=.pure):
  lT X.P X.need X.ops X.r X.N (X.f X.N).env s (X.val i) (X.f c).h=true:=by
 obtain⟨dL,hS,fL,mA,l7⟩:=bn.lq hs
 obtain⟨en,ab,ae⟩:=bn.looks i s af hs au
 have off:∀(en:Option Nat),(∀e,en=some e->e=c/\c∉S)->k0 X.P X.need X.ops X.r X.N (X.f X.N).env s (X.val i) en (X.f c).h (X.f c).a9=true->lT X.P X.need X.ops X.r X.N (X.f X.N).env s (X.val i) (X.f c).h=true:=by
  intro en ym cr
  unfold k0 at cr
  rw[Bool.and_eq_true] at cr
  have av:=cr.1
  split at av
  · rename_i ag
    exfalso
    rw[Bool.or_eq_true] at ag
    rcases ag with ag|ag
    · cases en with
      |none=>cases ag
      |some e=>
       obtain⟨rfl,q⟩:=ym e rfl
       exact q (l7 S h.closed db _ ag)
    · cases r6:(X.f c).a9 with
      |nil=>rw[r6] at ag;cases ag
      |cons p l=>
       obtain⟨e,mk,h0⟩:=p
       rw[r6] at ag
       obtain⟨aR,a4,aT,bP,rfl⟩:=ER bn c h.ah e mk h0 l r6
       have ES:=(h.ey e a4 aT (by have:=h.ah;omega) bP).2 aR
       exact ec ((bn.lq aT).2.2.2.2 S h.closed (h.closed e ES) i (by rw[hS] at ag;exact ag))
  · exact av
 have KC:∀e a4,X.steps[e]? =some a4->e=X.N->e∉S:=λe a4 _ he aj=>by have:=h.sub e aj;omega
 by_cases yk:c=X.N
 · subst yk
   exact off en (λe he=>⟨(ae e he).1,λaj=>by have:=h.sub _ aj;omega⟩) ab
 · have KD:c<X.N:=by have:=h.ah;omega
   rcases aJ with e|⟨a4,aR,aT⟩
   · exact absurd e yk
   · obtain⟨a9,rfl,aK⟩:=yl bn X.N (Nat.le_refl _) en _ ab c a4 KD aR aT
     refine off (some c) (λe he=>⟨by cases he;rfl,λaj=>?_⟩) aK
     have:=(h.ey c a4 aR KD aT).1 aj
     omega
end
end ay
namespace ay
open Go
section
variable {X:hE}
theorem KE(bn:fZ X):∀(m:Nat),m<=X.N->
  (∀e mk h0 l,(X.f m).a9=(e,mk,h0)::l->∀j a4,e<j->j<m->X.steps[j]? =some a4->kindOf X.P a4.o.op≠ .ey)/\
  ((X.f m).a9=[]->∀j a4,j<m->X.steps[j]? =some a4->kindOf X.P a4.o.op≠ .ey)
 |0,_=>⟨λe mk h0 l h=>(by rw[bn.r4] at h;cases h),λ_ j a4 aI=>(by omega)⟩
 |m+1,hm=>by
  obtain⟨Br,Bs⟩:=KE bn m (by omega)
  obtain⟨pC,aR,aT,_⟩:=bn.l6 (i:=m) (by have:=bn.im;omega)
  have a2:=bn.tx m pC (by omega) aR
  have same:kindOf X.P pC.o.op≠ .ey->(X.f (m+1)).a9=(X.f m).a9->_:=λau he=>(⟨λe mk h0 l h j a4 ab ae av=>by
    by_cases cI:j=m
    · subst cI;rw[aR] at av;cases av;exact au
    · exact Br e mk h0 l (he▸h) j a4 ab (by omega) av,λh j a4 ae av=>by
    by_cases cI:j=m
    · subst cI;rw[aR] at av;cases av;exact au
    · exact Bs (he▸h) j a4 (by omega) av⟩:
   (∀e mk h0 l,(X.f (m+1)).a9=(e,mk,h0)::l->∀j a4,e<j->j<m+1->X.steps[j]? =some a4->kindOf X.P a4.o.op≠ .ey)/\((X.f (m+1)).a9=[]->∀j a4,j<m+1->X.steps[j]? =some a4->kindOf X.P a4.o.op≠ .ey))
  generalize hf:X.f (m+1)=st at a2 same⊢
  clear hf
  cases a2 with
  |vJ fJ=>exact same (by rw[fJ];simp) rfl
  |alloc fJ=>exact same (by rw[fJ];simp) rfl
  |pure fJ=>exact same (by rw[fJ];simp) rfl
  |ey fJ a8 he=>
   refine⟨λe mk h0 l h j a4 ab ae av=>?_,λh=>by cases h⟩
   simp only[List.cons.injEq,Prod.mk.injEq] at h
   obtain⟨⟨rfl,_,_⟩,_⟩:=h
   omega
theorem Inv.KF(bn:fZ X){S:List Nat}{c:Nat}{μ:bl}{w:World}{a:Act}{cs:List Frame}(h:Inv X S c μ w a cs)(aJ:Norm X c){i:Nat}(af:i<=X.N)(ec:i∉S)(db:k2 X.ops S i){s:DStep}(hs:X.steps[i]? =some s)
  (au:kindOf X.P s.o.op=.ey)(a8:∀e m h0 l,(X.f i).a9=(e,m,h0)::l->Nat.testBit s.e9 e=true):i=c:=by
 obtain⟨dL,hS,fL,mA,l7⟩:=bn.lq hs
 have JE:c<=i:=by
  rcases Nat.lt_or_ge i X.N with ab|ab
  · have:=h.ey i s hs ab au
    rcases Nat.lt_or_ge i c with ae|ae
    · exact absurd (this.2 ae) ec
    · exact ae
  · have:=h.ah;omega
 rcases Nat.lt_or_ge c i with cx|vP
 · exfalso
   rcases aJ with e|⟨a4,aR,aT⟩
   · omega
   · obtain⟨ba,bt⟩:=KE bn i af
     cases r6:(X.f i).a9 with
     |nil=>exact bt r6 c a4 cx aR aT
     |cons p l=>
      obtain⟨e,mk,h0⟩:=p
      obtain⟨di,s2,da,kD,_⟩:=ER bn i af e mk h0 l r6
      have ES:=l7 S h.closed db e (a8 e mk h0 l r6)
      have TE:=(h.ey e s2 da (by omega) kD).1 ES
      exact ba e mk h0 l r6 c a4 TE cx aR aT
 · omega
theorem Inv.TF(bn:fZ X){S:List Nat}{c:Nat}{μ:bl}{w:World}{a:Act}{cs:List Frame}(h:Inv X S c μ w a cs){i:Nat}(af:i<X.N)(ec:i∉S)(db:k2 X.ops S i){s:DStep}(hs:X.steps[i]? =some s){v:J}{ob:b3}(iU:r5 X i s v ob)(aH:X.val i=v)(rest:List Nat)(k:List Item):
  ∃aP w' dp,Steps X.P (lone (X.b.atR a (.inRegion X.ops (i::rest)::k)) cs w) (lone (X.b.atR dp (.inRegion X.ops rest::k)) cs w')/\Inv X (i::S) c aP w' dp cs:=by
 obtain⟨dL,hS,fL,mA,l7⟩:=bn.lq hs
 obtain⟨_,au,hw,a5⟩:=iU
 have Em:=EP bn h (Nat.le_of_lt af) ec db hs _ hw
 rw[ye _ _ (Bu (ops:=X.ops))] at a5
 obtain⟨u,O,sz,aw⟩:=SF (P:=X.P) (w:=w) s.o (KB bn h (Nat.le_of_lt af) ec db hs) a5
 have cr:=stepGR_op (P:=X.P) (b:=X.b) (a:=a) (k:=k) (cs:=cs) (w:=w) (rest:=rest) fL Em
 have x3:s.o.semAt X.b.roundOf a.eval=execOp a.eval s.o:=Oper.semAt_eq _ _ _ λfl e=>by rw[e] at au;cases au
 rw[x3] at cr
 obtain⟨al,_⟩:=Ei cr
 have gM:=al _ _ aw.run
 have oi:(X.b.atR a (.inRegion X.ops (i::rest)::k)).finish u=X.b.atR (a.put s.o.dst u) (.inRegion X.ops rest::k):=by
  rw[Frame.finish_atR,fL];rfl
 rw[oi] at gM
 have iS:=h.eB i dL ec
 have Bw:=h.qy
 have hp:∀o,(X.f c).h.get (X.H.n+i)=some o->o=ob:=λo ao=>by
  rcases Nat.lt_or_ge i c with cx|vP
  · have:=h.lay i s v ob hs ⟨af,au,hw,by rw[ye _ _ (Bu (ops:=X.ops))];exact a5⟩ ec cx
    rw[ao] at this;cases this;rfl
  · rw[h.ou i vP dL] at ao;cases ao
 obtain⟨hle,lo⟩:=h.rel.early (b:=X.H.n+i) (by omega) iS hp aw.obj
 have oo:=h.pB.early bn.Bo (b:=X.H.n+i) (by omega) iS (O:=O) (sz:=sz)
 have TG:bd (gy μ (X.H.n+i) ⟨w.heap.size,0,sz⟩) (X.val i) u:=by rw[aH];exact aw.val _ hle (gz _ _ _)
 refine⟨gy μ (X.H.n+i) ⟨w.heap.size,0,sz⟩,_,_,gM,?_⟩
 have hm:∀{j},k2 X.ops S j->k2 X.ops (i::S) j:=λaj o a8 e he ag=>List.mem_cons_of_mem _ (aj o a8 e he ag)
 refine⟨h.ah,λj aI=>?_,λj aI=>?_,λj a4 ab ae av=>?_,lo,oo,?_,h.qr.mono hle,λj ab ae=>?_,λj a4 v ob ab ae av aK=>h.lay j a4 v ob ab ae (λaj=>av (List.mem_cons_of_mem _ aj)) aK,h.ou,h.qy,λj a4 v' EO ab ae av aK=>?_,bn.Ky h.closed h.sz (h.mj.mono hle) ec db hs TG,(Ba _ _ _).trans h.sz⟩
 · rcases List.mem_cons.1 aI with rfl|aI
   · exact hm db
   · exact hm (h.closed j aI)
 · rcases List.mem_cons.1 aI with rfl|aI
   · exact af
   · exact h.sub j aI
 · have lV:j≠i:=by intro e;subst e;rw[hs] at ab;cases ab;rw[au] at av;cases av
   rw[List.mem_cons]
   simp only[lV,false_or]
   exact h.ey j a4 ab ae av
 · rw[put_defers];exact h.vM.mono hle
 · have lV:j≠i:=λe=>ae (by simp[e])
   rw[ho _ _ (by omega)]
   exact h.eB j ab (λaj=>ae (List.mem_cons_of_mem _ aj))
 · rcases List.mem_cons.1 av with e|av
   · subst e
     rw[hs] at ab;cases ab
     have:=ae.2.2.2
     rw[ye _ _ (Bu (ops:=X.ops)),a5] at this
     cases this
     refine⟨⟨w.heap.size,0,sz⟩,O,gz _ _ _,World.heap_alloc_new _ _,λaP w' AQ qx=>aw.obj aP w' (hle.trans AQ) qx,λd jS aq aI=>?_⟩
     rw[ho _ _ aq] at aI
     have:=(h.rel.lt d jS aI).2
     simp only;omega
   · exact(h.gb j a4 v' EO ab ae av aK).early h.rel iS
theorem ET(bn:fZ X){i:Nat}(af:i<=X.N):Eo i (iP (X.ops.toList.take i) 0 []):=λt a a5=>by
 obtain⟨j,o,ab,rfl,_⟩:=(yh X.ops.toList t i (by have:=bn.im;simp;omega)).1 a a5
 exact ab
theorem Inv.step(bn:fZ X){S:List Nat}{c:Nat}{μ:bl}{w:World}{a:Act}{cs:List Frame}(h:Inv X S c μ w a cs){i:Nat}(af:i<X.N)(ec:i∉S)(db:k2 X.ops S i)(rest:List Nat)(k:List Item):
  ∃c' aP w' dp bS,Steps X.P (lone (X.b.atR a (.inRegion X.ops (i::rest)::k)) cs w) (lone (X.b.atR dp (.inRegion X.ops rest::k)) bS w')/\Inv X (i::S) c' aP w' dp bS:=by
 obtain⟨c,aJ,h⟩:=h.norm bn _ _ rfl
 obtain⟨s,hs,hS,fL,_⟩:=bn.l6 (i:=i) (by have:=bn.im;omega)
 have a2:=bn.tx i s af hs
 have hle:=Nat.le_of_lt af
 generalize hf:X.f (i+1)=st at a2
 cases a2 with
 |vJ au hw=>
  have aH:=bn.Bq af (v:=.aD []) (by rw[hf])
  have El:=EP bn h hle ec db hs _ hw
  have xE:=stepR_op_skip (P:=X.P) (b:=X.b) (a:=a) (k:=k) (cs:=cs) (w:=w) (ops:=X.ops) (i:=i) (rest:=rest) (by simp[fL,El])
  rw[fL] at xE
  have he:a.put ((some s.o).bind (·.dst)) undef={tmps:=(a.put s.o.dst undef).tmps,defers:=a.defers}:=A8 a s.o.dst undef
  rw[he] at xE
  refine⟨c,μ,w,_,cs,.one xE,h.Bv bn af ec db hs (λv ob iU=>?_) (by rw[aH];exact⟨[],rfl,rfl⟩) h.rel (b4.refl _ _ _) h.vM h.qr (.inl ⟨rfl,by rw[au];simp⟩)⟩
  have:=iU.2.2.1
  rw[hw] at this;cases this
 |alloc au hw a5=>
  rename_i v ob
  have aH:=bn.Bq af (v:=v) (by rw[hf])
  obtain⟨aP,w',dp,ab,ae⟩:=h.TF bn af ec db hs ⟨af,au,hw,by rw[<-hS];rw[<-hS] at a5;exact a5⟩ aH rest k
  exact⟨c,aP,w',dp,cs,ab,ae⟩
 |pure au he=>
  rename_i v bx bq an
  have aH:=bn.Bq af (v:=v) (by rw[hf])
  have kJ:=h.looks bn aJ af ec db hs au
  have gL:=h.one bn hle ec db hs rest k
  have hg:g0 X.P X.need X.ops X.r X.N (X.f X.N).env s=g0 X.P X.need X.ops X.r s.i (X.f i).env s:=by
   unfold g0 j8
   cases EU:s.o.guard with
   |none=>rfl
   |some p=>
    obtain⟨j,dT⟩:=p
    simp only
    cases ac_:(X.ops[j]?).bind (·.dst) with
    |none=>rfl
    |some t=>
     simp only
     rw[hS,bn.Ku hle (by rw[(bn.lq hs).2.2.2.1];exact A_ (ET bn hle) _)]
  have r7:∀x,d_ X.N (X.f X.N).env X.r (cP X.P X.need s.loc x)=l5 X.P X.need X.r s (X.f i).env x:=λx=>by
   unfold l5
   rw[hS,bn.Ku hle (by rw[(bn.lq hs).2.2.2.1];exact A_ (ET bn hle) _)]
  unfold lT at kJ
  rw[hg] at kJ
  have rZ:(λx=>d_ X.N (X.f X.N).env X.r (cP X.P X.need s.loc x))=l5 X.P X.need X.r s (X.f i).env:=funext r7
  rw[rZ] at kJ
  have By:∀v ob,¬r5 X i s v ob:=λv ob iU=>by have:=iU.2.1;rw[au] at this;cases this
  have dK:kindOf X.P s.o.op≠ .ey:=by rw[au];simp
  unfold eb at gL he
  cases KG:eH (g0 X.P X.need X.ops X.r s.i (X.f i).env s) with
  |none=>rw[KG] at kJ;cases kJ
  |some dT=>
   rw[KG] at kJ gL he
   cases dT with
   |false=>
    simp only at gL he
    cases he
    obtain⟨aP,w',u,oh,bS,s1,s2,bV,cK,cY,dt⟩:=gL
    exact⟨c,aP,w',_,bS,s1,h.Bv bn af ec db hs By (by rw[aH];exact s2) bV cK cY dt (.inl ⟨rfl,dK⟩)⟩
   |true=>
    simp only at kJ gL
    split at kJ
    · rename_i v' ada gK
      rw[gK] at gL
      simp only at gL
      have TH:=beq_eq _ _ kJ
      have TI:=Tu au gK
      rw[TI] at gL
      obtain⟨aP,w',u,oh,bS,s1,s2,bV,cK,cY,dt⟩:=gL
      exact⟨c,aP,w',_,bS,s1,h.Bv bn af ec db hs By (by rw[<-TH];exact s2) bV cK cY dt (.inl ⟨rfl,dK⟩)⟩
    · cases kJ
 |ey au a8 he=>
  rename_i v bx bq an
  have aH:=bn.Bq af (v:=v) (by rw[hf])
  have qz:=h.KF bn aJ hle ec db hs au a8
  have gL:=h.one bn hle ec db hs rest k
  have By:∀v ob,¬r5 X i s v ob:=λv ob iU=>by have:=iU.2.1;rw[au] at this;cases this
  rw[<-qz,he] at gL
  obtain⟨aP,w',u,oh,bS,s1,s2,bV,cK,cY,dt⟩:=gL
  have aE:(X.f (c+1)).h=an:=by rw[<-qz,hf]
  have aC:(X.f (c+1)).d=bx:=by rw[<-qz,hf]
  have bu:(X.f (c+1)).q=bq:=by rw[<-qz,hf]
  exact⟨c+1,aP,w',_,bS,s1,h.Bv bn af ec db hs By (by rw[aH];exact s2) (by rw[aE];exact bV) (by rw[aE,<-qz];exact cK) (by rw[aC];exact cY) (by rw[bu];exact dt) (.inr ⟨rfl,qz⟩)⟩
end
end ay
namespace ay
open Go
section
variable {X:hE}
def hE.ends(X:hE)(k:List Item)(gp:Machine)(res:mm):Prop:=pt X.P X.need X.ck X.mz X.r X.H X.df X.b k X.cs0 gp (iP X.ops.toList 0 []) res
theorem hE.EV{k:List Item}{gp cE:Machine}{res:mm}(h:Steps X.P gp cE)(an:X.ends k cE res):X.ends k gp res:=by
 unfold hE.ends at*
 cases res with
 |ok env d q aZ=>obtain⟨aP,w',dp,bS,s1,s2⟩:=an;exact⟨aP,w',dp,bS,h.trans s1,s2⟩
 |bk v d q aZ=>obtain⟨aP,w',dp,bS,u,cd,s1,s2⟩:=an;exact⟨aP,w',dp,bS,u,cd,h.trans s1,s2⟩
 |fail s=>trivial
structure EW(X:hE)(res:mm):Prop where
 ok:X.N=X.ops.size->res=.ok (X.f X.N).env (X.f X.N).d (X.f X.N).q (X.f X.N).h
 bk:X.N<X.ops.size->∀s,X.steps[X.N]? =some s->∃v bx bq an,eb X.P X.inR X.call (g0 X.P X.need X.ops X.r s.i (X.f X.N).env s) s.o (l5 X.P X.need X.r s (X.f X.N).env) (X.f X.N).d (X.f X.N).q (X.f X.N).h=.bk v bx bq an/\res=.bk v bx bq an
theorem Inv.order(bn:fZ X){res:mm}(fY:EW X res)(k:List Item):∀(L:List Nat) (S:List Nat) (c:Nat) (μ:bl) (w:World) (a:Act) (cs:List Frame),tt X.ops S L->Inv X S c μ w a cs->X.ends k (lone (X.b.atR a (.inRegion X.ops L::k)) cs w) res
 |[],S,c,μ,w,a,cs,a8,h=>by
  have fI:∀i,i<X.ops.size->i∈S:=a8
  have im:X.N=X.ops.size:=by
   have:=bn.im
   rcases Nat.lt_or_ge X.N X.ops.size with cx|vP
   · have:=h.sub _ (fI _ cx);omega
   · omega
  obtain⟨c,aJ,h⟩:=h.norm bn _ _ rfl
  have KC:c=X.N:=by
   rcases aJ with e|⟨s,aR,aT⟩
   · exact e
   · have:=h.ah
     rcases Nat.lt_or_ge c X.N with cx|vP
     · have:=(h.ey c s aR cx aT).1 (fI c (by omega));omega
     · omega
  subst KC
  rw[fY.ok im]
  have hlen:=bn.Bp X.N (Nat.le_refl _)
  have KH:X.ops.toList.take X.N=X.ops.toList:=by rw[im];exact List.take_of_length_le (by simp)
  have mA:=ET bn (Nat.le_refl X.N)
  rw[KH] at mA
  refine⟨μ,w,a,cs,.one stepR_region_end,⟨by rw[hlen];exact mA,λt=>?_⟩,h.sz,h.rel,h.pB,h.vM,h.qr⟩
  rw[hlen]
  obtain⟨f1,f2⟩:=yh X.ops.toList t X.N (by simp;omega)
  rw[KH] at f1 f2
  simp only[cP]
  cases hf:iC t (iP X.ops.toList 0 []) with
  |some ac=>
   obtain⟨j,o,aI,rfl,mo,aq,rB⟩:=f1 ac hf
   have:=(h.mj t).1 j o (fI j (by omega)) (by simpa using mo) aq λk o' au il mw=>by
    rcases Nat.lt_or_ge j k with cx|vP
    · exact absurd mw (rB k o' cx (h.sub k au) (by simpa using il))
    · exact vP
   exact this
  |none=>
   simp only[]
   cases ag:Nat.testBit X.need t with
   |false=>trivial
   |true=>
    exact(h.mj t).2 (λj o aI il aq=>f2 hf j o (h.sub j aI) (by simpa using il) aq) ag
 |i::L,S,c,μ,w,a,cs,a8,h=>by
  obtain⟨af,ec,db,rC⟩:=a8
  rcases Nat.lt_trichotomy i X.N with cx|heq|tD
  · obtain⟨c',aP,w',dp,bS,ab,ae⟩:=h.step bn cx ec db L k
    exact hE.EV ab (Inv.order bn fY k L (i::S) c' aP w' dp bS rC ae)
  ·
   obtain⟨s,hs,hS,fL,_⟩:=bn.l6 af
   obtain⟨c,aJ,h⟩:=h.norm bn _ _ rfl
   rw[heq] at hs
   obtain⟨bD,bT,fu⟩:=bn.last s hs
   rw[<-heq] at hs bT
   have qz:=h.KF bn aJ (Nat.le_of_eq heq) ec db hs bD bT
   have gL:=h.one bn (Nat.le_of_eq heq) ec db hs L k
   obtain⟨v,bx,bq,an,aE,aC⟩:=fY.bk (by omega) s (by rw[<-heq];exact hs)
   rw[<-heq] at aE
   rw[<-qz,aE] at gL
   rw[aC]
   obtain⟨aP,w',u,s1,s2,bV,cK,cY,dt⟩:=gL
   rw[qz] at cK
   refine⟨aP,w',a,cs,u,_,s1,trivial,s2,λt a2 ag=>?_,h.sz,bV,b4.trans bn.Bo h.rel h.pB cK,cY,dt⟩
   obtain⟨f1,f2⟩:=yh X.ops.toList t X.ops.toList.length (Nat.le_refl _)
   rw[List.take_length] at f2
   have:=(h.mj t).2 (λj o aI il aq=>f2 a2 j o (by have:=h.sub j aI;have:=bn.im;simp;omega) (by simpa using il) aq) ag
   exact this.mono cK.le
  · exfalso
    obtain⟨s,hs,_⟩:=bn.l6 (i:=X.N) (by omega)
    obtain⟨a4,dF,_,_,_,l7⟩:=bn.l6 af
    have:=(bn.last s hs).2.2 i a4 tD dF
    rw[(bn.lq hs).2.1] at this
    have:=h.sub _ (l7 S h.closed db _ this)
    omega
end
section
variable {P:Program}
theorem KI{need:Nat}{ops:Array Oper}{r:aU}{n:Nat}{env:List J}{last:Option Nat}{h:aa}{a9:List (Nat×Nat×aa)}:∀{l:List DStep},lk P need ops r n env last h a9 l=true->∀s∈l,s.i<n->kindOf P s.o.op=.pure->k0 P need ops r n env s ((nth (n-1-s.i) env).getD .bad) last h a9=true
 |[],_,s,hs,_,_=>by cases hs
 |x::l,aw,s,hs,af,au=>by
  simp only[lk,Bool.and_eq_true] at aw
  rcases List.mem_cons.1 hs with rfl|hs
  · have ab:=aw.1
    have ag:Nat.blt s.i n=true:=by simpa using af
    rw[ag,au] at ab
    exact ab
  · exact KI aw.2 s hs af au
theorem TJ(hm:P.follows .mixedOrders=true){call:aO->List J->aa->ax}(ah:l2 P call)(need ck:Nat):rY P need ck call:=by
 intro ops id pv hdr b inR r d q H μ w a k cs0 cs dL ai bE aj ao aq a1
 unfold sZ
 simp only
 obtain⟨px,kK⟩:∃px:tv,px=⟨[],d,q,⟨H.t,H.n+ops.size⟩,[]⟩:=⟨_,rfl⟩
 obtain⟨res,hD⟩:∃res,gw P need inR call ops r H.n (fk ops.toList 0 [] []) [] d q ⟨H.t,H.n+ops.size⟩ []=res:=⟨_,rfl⟩
 rw[hD]
 by_cases KJ:∃vQ,res=.fail vQ
 · obtain⟨vQ,e⟩:=KJ;subst e;trivial
 have TK:∀vQ,res≠ .fail vQ:=λvQ e=>KJ ⟨vQ,e⟩
 have TL:gw P need inR call ops r H.n (fk ops.toList 0 [] []) px.env px.d px.q px.h px.a9=res:=by rw[kK];exact hD
 obtain⟨f,N,f0,im,KK,vN⟩:=Kq _ _ _ TL TK
 have hlen:(fk ops.toList 0 [] []).length=ops.size:=by rw[EI];simp
 rw[hlen] at im
 have KL:∀m,m<=N->(f m).env.length=m:=λm=>by
  induction m with
  |zero=>intro _;rw[f0,kK];rfl
  |succ m bp=>
   intro DR
   have hs:(fk ops.toList 0 [] [])[m]? =some (fk ops.toList 0 [] [])[m]:=List.getElem?_eq_getElem (by omega)
   have a2:=KK m _ (by omega) hs
   have TM:=bp (by omega)
   generalize f (m+1)=st at a2
   cases a2<;>simp[TM]
 let X:hE:={P:=P,need:=need,ck:=ck,inR:=inR,call:=call,ops:=ops,r:=r,b:=b,mz:=μ,H:=H,df:=w,cs0:=cs0,N:=N,f:=f}
 let cq:World:={w with drawn:=w.drawn+1}
 have r2:∀o i,ops[i]? =some o->n5 o i=true:=λo i a8=>by
  have af:i<ops.size:=(Array.getElem?_eq_some_iff.1 a8).1
  have il:ops.toList[i]? =some o:=by simpa using a8
  obtain⟨s,ab,ae,av,_⟩:=yg (ops:=ops) ops.toList 0 [] [] (λk=>by simp) (vI hdr) (λj aI=>by omega) i o il
  have:=vI hdr s (List.mem_of_getElem? ab)
  rw[av] at this
  have yn:s.i=i:=by omega
  rw[yn] at this;exact this
 have lr:=Tt r2 (w.tape w.drawn (.order b.fn id))
 have eL:Steps P (lone (b.atR a (.code (.region id ops true)::k)) cs w) (lone (b.atR a (.inRegion ops (Region.schedule true ops (w.tape w.drawn (.order b.fn id)))::k)) cs cq):=by
  have:=stepR_region_draw (P:=P) (b:=b) (a:=a) (k:=k) (cs:=cs) (w:=w) (ops:=ops) (id:=id)
  rw[hm] at this
  exact .one this
 have hinv:Inv X [] 0 μ cq a cs:=by
  refine⟨Nat.zero_le _,(λj aI=>by cases aI),(λj aI=>by cases aI),(λi s ab ae av=>⟨λaI=>(by cases aI),λaI=>(by omega)⟩),?_,?_,?_,?_,λi af _=>?_,(λi s v ob ab ae av aK=>by omega),λi af ae=>?_,?_,(λi s v ob ab ae av aK=>by cases av),?_,bE⟩
  · show bm μ (f 0).h cq
    rw[f0,kK]
    exact⟨λdT o i ag af=>(aj.rel dT o i ag af).mono (fa.refl μ) rfl,aj.inj,λdT i af=>⟨Nat.lt_of_lt_of_le (aj.lt dT i af).1 (Nat.le_add_right _ _),(aj.lt dT i af).2⟩,λdT ag=>aj.bound dT (Nat.le_trans (Nat.le_add_right _ _) ag)⟩
  · show b4 μ H w μ (f 0).h cq
    rw[f0,kK]
    exact⟨fa.refl μ,Nat.le_refl _,Nat.le_add_right _ _,λ_ _ aw=>aw,λ_ _ _=>rfl,λ_ _ _=>rfl,(λdT i ab ae=>by rw[ab] at ae;cases ae),λ_ _ _ ag _ _=>⟨ag,rfl⟩,rfl,rfl,rfl,Nat.le_succ _⟩
  · show gS μ (f 0).d a.defers
    rw[f0,kK];exact aq
  · show ik μ b.kind cs0 (f 0).q cs
    rw[f0,kK];exact a1
  · show μ (H.n+i)=none
    cases e:μ (H.n+i) with
    |none=>rfl
    |some eB=>have:=(aj.lt _ eB e).1;omega
  · show(f 0).h.get (H.n+i)=none
    rw[f0,kK]
    exact aj.bound (H.n+i) (Nat.le_add_right _ _)
  · show H.n+ops.size<=(f 0).h.n
    rw[f0,kK];exact Nat.le_refl _
  · intro t
    exact⟨λj o aI=>(by cases aI),λ_ ag=>ai t ag⟩
 have KM:∀(en:Option Nat) (kJ:lk P need ops r (f N).env.length (f N).env en (f N).h (f N).a9 (fk ops.toList 0 [] [])=true) (ym:∀e,en=some e->e=N/\N<ops.size)
   (rB:∀s,(fk ops.toList 0 [] [])[N]? =some s->kindOf P s.o.op=.ey/\(∀e m h0 l,(f N).a9=(e,m,h0)::l->Nat.testBit s.e9 e=true)/\∀k a4,N<k->(fk ops.toList 0 [] [])[k]? =some a4->Nat.testBit a4.e9 s.i=true),fZ X:=by
  intro en kJ ym rB
  refine⟨ah,dL,pv,hdr,im,KK,by show(f 0).env=[];rw[f0,kK],by show(f 0).a9=[];rw[f0,kK],λi s af hs au=>?_,rB,ao,aj⟩
  have hS:s.i=i:=by
   have EX:i<ops.size:=Nat.lt_of_lt_of_le af im
   obtain⟨a4,ab,ae,_⟩:=yg (ops:=ops) ops.toList 0 [] [] (λk=>by simp) (vI hdr) (λj aI=>by omega) i _ (show ops.toList[i]? =some ops[i] by simp[EX])
   have kh:(fk ops.toList 0 [] [])[i]? =some s:=hs
   rw[ab] at kh;cases kh;omega
  have:=KI kJ s (List.mem_of_getElem? hs) (by rw[KL N (Nat.le_refl _),hS];exact af) au
  rw[KL N (Nat.le_refl _),hS] at this
  exact⟨en,this,ym⟩
 rcases vN with⟨adb,ad⟩|⟨s,hs,au,a8,TN,v,bx,bq,an,he,ad⟩
 · subst ad
   simp only
   cases kJ:lk P need ops r (f N).env.length (f N).env none (f N).h (f N).a9 (fk ops.toList 0 [] []) with
   |false=>trivial
   |true=>
    simp only
    have bn:=KM none kJ (λe he=>by cases he) (λs hs=>by rw[List.getElem?_eq_none (by omega)] at hs;cases hs)
    have fY:EW X (.ok (f N).env (f N).d (f N).q (f N).h):=⟨λ_=>rfl,λcx=>by
     have DU:N<ops.size:=cx
     omega⟩
    exact hE.EV (X:=X) eL (Inv.order bn fY k _ [] 0 μ cq a cs lr hinv)
 · subst ad
   simp only
   have hS:s.i=N:=by
    have EX:N<ops.size:=by have:=(List.getElem?_eq_some_iff.1 hs).1;omega
    obtain⟨a4,ab,ae,_⟩:=yg (ops:=ops) ops.toList 0 [] [] (λk=>by simp) (vI hdr) (λj aI=>by omega) N _ (show ops.toList[N]? =some ops[N] by simp[EX])
    rw[ab] at hs;cases hs;omega
   have TO:N<ops.size:=by have:=(List.getElem?_eq_some_iff.1 hs).1;omega
   cases kJ:lk P need ops r (f N).env.length (f N).env (some s.i) (f N).h (f N).a9 (fk ops.toList 0 [] []) with
   |false=>trivial
   |true=>
    simp only
    have bn:=KM (some s.i) kJ (λe he=>by cases he;exact⟨hS,TO⟩) (λa4 dF=>by rw[hs] at dF;cases dF;exact⟨au,a8,TN⟩)
    have fY:EW X (.bk v bx bq an):=⟨λe=>by
     have cI:N=ops.size:=e
     omega,λ_ a4 dF=>by
     have kh:(fk ops.toList 0 [] [])[N]? =some a4:=dF
     rw[hs] at kh;cases kh
     exact⟨v,bx,bq,an,he,rfl⟩⟩
    exact hE.EV (X:=X) eL (Inv.order bn fY k _ [] 0 μ cq a cs lr hinv)
structure Fit(P:Program):Prop where
 mixed:P.follows .mixedOrders=true
 code:x7 P
 ext:Bj P
theorem EY(hf:Fit P){intr:Nat->List J->aa->Option (J×aa)}(af:l4 P intr)(n:Nat):l2 P (e_ P intr n):=
 Ki af (λcall ah need ck=>TJ hf.mixed ah need ck) hf.code hf.ext n
end
end ay
namespace ay
open Go Go.RowKit Go.ChangeShapes Go.WideShapes
section
variable {P:Program}
def TP(P:Program):Bool:=P.funcs.toList.all λfn=>match fn.body with
 |some c=>iQ fn.ntmps c&&!(fn.name== "runtime.NumGoroutine")
 |none=>true
def TQ(P:Program):Bool:=P.funcs.toList.all λfn=>match fn.body with
 |some _=>true
 |none=>!r1.contains fn.name||(Extern.findNext fn).isNone
theorem KN{g:FuncId}{eW:Func}(h:P.funcs[g]? =some eW):eW∈P.funcs.toList:=by
 rw[<-Array.getElem?_toList] at h;exact List.mem_of_getElem? h
theorem TR(hm:P.follows .mixedOrders=true)(ah:TP P=true)(he:TQ P=true):Fit P where
 mixed:=hm
 code:=λg eW gc ao ag=>by
  have:=List.all_eq_true.1 ah eW (KN ao)
  rw[ag] at this
  simp only[Bool.and_eq_true,Bool.not_eq_true'] at this
  exact this
 ext:=λg eW ao ag aJ=>by
  have:=List.all_eq_true.1 he eW (KN ao)
  rw[ag] at this
  simp only[Bool.or_eq_true,Bool.not_eq_true',List.contains_eq_mem,decide_eq_false_iff_not] at this
  rcases this with h|h
  · exact absurd aJ h
  · simpa using h
def yo(H:aa):Prop:=∀b o,H.get b=some o->o.nh=true
theorem b4.below{μ aP:bl}{H aZ:aa}{W iq:World}(ai:yo H)(aj:bm μ H W)(h:b4 μ H W aP aZ iq):Below W.heap.size W iq:=by
 refine⟨h.os,h.tape,h.out,h.size,λr cx=>?_⟩
 by_cases he:∃b i,H.get b≠none/\μ b=some i/\i.bg=r
 · obtain⟨b,i,ab,ae,rfl⟩:=he
   cases ao:H.get b with
   |none=>exact absurd ao ab
   |some o=>exact(h.ro b o i ao (ai b o ao) ae).2
 · exact h.old r cx λb i ab ae av=>he ⟨b,i,ab,ae,av⟩
def yp(G:Nat):bl:=λb=>if b<G then some ⟨b,0,0⟩ else none
theorem TS{W:World}(lu:P.globals.size<=W.heap.size):bm (yp P.globals.size) (iE P.globals.size) W/\h3 P (yp P.globals.size)/\yo (iE P.globals.size):=by
 have aJ:∀b,(iE P.globals.size).get b=none:=λb=>rfl
 refine⟨⟨λb o i h=>(by rw[aJ] at h;cases h),λb c i j h=>absurd (aJ b) h,λb i h=>?_,λb _=>aJ b⟩,λg ao=>⟨⟨g,0,0⟩,by simp[yp,ao],rfl,rfl⟩,λb o h=>(by rw[aJ] at h;cases h)⟩
 unfold yp at h
 split at h
 · rename_i ag;cases h;exact⟨ag,Nat.lt_of_lt_of_le ag lu⟩
 · cases h
theorem TT(hf:Fit P){intr:Nat->List J->aa->Option (J×aa)}(af:l4 P intr){n:Nat}{f:Nat}{fn:Func}{c:Code}(nu:P.funcs[f]? =some fn)(ag:fn.body=some c){args:List J}{H:aa}{v:J}{aZ:aa}
  (eL:e_ P intr n (.fn f) args H=.ret v aZ){μ:bl}{W:World}{vs:List Value}(aj:bm μ H W)(ao:h3 P μ)(aH:b9 μ args vs):
  Calls P f ⟨vs⟩ W λe iq=>∃aP u,e=.returned u/\bd aP v u/\bm aP aZ iq/\b4 μ H W aP aZ iq:=by
 have ab:=(EY hf af n).fn f args H (by rw[eL];rfl) μ W vs aj ao aH
 rw[eL] at ab
 obtain⟨_,yc⟩:=hf.code f fn c nu ag
 have he:=Ez nu ag yc ⟨vs⟩ W
 rcases ab with⟨v',w',aR,_⟩|⟨_,aT⟩
 · rw[he] at aR;cases aR
 · exact aT.mono λe iq h=>h
def Bz:ax->Bool
 |.ret (.bool true) _=>true
 |_=>false
theorem TU{r:ax}(h:Bz r=true):∃H,r=.ret (.bool true) H:=by
 unfold Bz at h
 split at h
 · exact⟨_,rfl⟩
 · cases h
theorem TV(hf:Fit P){intr:Nat->List J->aa->Option (J×aa)}(af:l4 P intr){n:Nat}{f:Nat}{fn:Func}{c:Code}(nu:P.funcs[f]? =some fn)(ag:fn.body=some c){args:List J}{H:aa}
  (eL:Bz (e_ P intr n (.fn f) args H)=true){μ:bl}{W:World}{vs:List Value}(aj:bm μ H W)(ai:yo H)(ao:h3 P μ)(aH:b9 μ args vs):
  Calls P f ⟨vs⟩ W λe iq=>e=.returned (.bool true)/\Below W.heap.size W iq:=by
 obtain⟨aZ,e⟩:=TU eL
 exact(TT hf af nu ag e aj ao aH).mono λe iq ⟨aP,u,ab,ae,av,aK⟩=>⟨by cases ae;exact ab,aK.below ai aj⟩
def EZ(P:Program):Bool:=match P.globals.size with
 |0=>true
 |g+1=>(((begin P (λ_ _=>0) default).world.heap[g]?).bind Obj.row?).isSome
theorem TW{W:World}(hs:W.ShapedOpen P)(ag:EZ P=true):P.globals.size<=W.heap.size:=by
 unfold EZ at ag
 cases ao:P.globals.size with
 |zero=>exact Nat.zero_le _
 |succ g=>
  rw[ao] at ag
  simp only at ag
  obtain⟨⟨zero,t⟩,ad⟩:=Option.isSome_iff_exists.1 ag
  obtain⟨cs,ab,_⟩:=hs.1 g zero t (by omega) ad
  have:=(Array.getElem?_eq_some_iff.1 ab).1
  omega
variable {H:Type} {enc:TypeId×Value->H}
theorem KO(aw:laidOutB P=true){W iq:World}(ag:Below W.heap.size W iq){sp:Nat->Bool}:∀{ts:List TypeId} {vs:List Value} {aV:List (DataW H)} {ps:List MemPlace},(∀t∈ts,P.readableRec t=true/\t<P.types.size)->
  DataW.TrodAll enc P W 0 (λ_=>true) true ts vs aV ps->(∀x∈ps,x.block<W.heap.size/\sp x.block=true)->DataW.TrodAll enc P iq 0 sp true ts vs aV ps
 |[],[],[],_,_,h,_=>h
 |_::_,_::_,_::_,_,lv,⟨p,q,ab,ae,e⟩,hs=>
  ⟨p,q,WideElems.Trod_stays aw (lv _ (by simp)).1 (lv _ (by simp)).2 ab (λx ad=>ag.same (hs x (by rw[e];simp[ad])).1) (λx ad=>(hs x (by rw[e];simp[ad])).2),
    KO aw ag (λt a2=>lv t (by simp[a2])) ae (λx ad=>hs x (by rw[e];simp[ad])),e⟩
theorem TX{f:Func}{s:ChangeSpec}{apart fresh handsOn again:Bool}{W iq:World}{args:Array Value}{aV gs:List (DataW H)}{before:List MemPlace}{KP:TypeId}
  (aw:laidOutB P=true)(lv:∀t∈f.params.toList,P.readableRec t=true/\t<P.types.size)(hD:f.resultTypes=#[KP])(KQ:P.underlying KP=some .bool)(E0:s.vars=[])
  (lu:DataW.Whole enc P f.params.toList s.vars apart W args.toList aV gs before)(nu:s.fn H aV={results:=[.lit (.bool true)],args:=aV})(ag:Below W.heap.size W iq):
  s.post enc P f apart fresh handsOn again W args (.bool true) iq:=by
 have cx:∀p∈before,p.block<W.heap.size:=λp aY=>lu.lt p aY
 have TY:=lu
 obtain⟨pD,Ee,jH,qA,rfl,a0,aJ⟩:=lu
 rw[E0] at qA
 obtain⟨rfl,rfl⟩:=trodVars_none qA
 have e:s.fn H (aV++[])={results:=[.lit (.bool true)],args:=aV}:=by rw[List.append_nil];exact nu
 have hF:∀sp:Nat->Bool,(∀p∈pD++[],sp p.block=true)->DataW.TrodAll enc P iq 0 sp true f.params.toList args.toList aV pD:=λsp TZ=>
  KO aw ag lv jH (λx ad=>⟨cx x (by simp[ad]),TZ x (by simp[ad])⟩)
 have gL:∀(b:Nat) (sp:Nat->Bool) (aq:Bool),DataW.TrodAll enc P iq b sp aq f.resultTypes.toList ((Value.bool true).resultList f.resultTypes.size) [.lit (.bool true)] []:=λb sp aq=>by
  rw[hD];exact trodAll_mk1 (shut_bool KQ true)
 refine⟨aV,[],pD++[],[],pD,[],TY,?_,?_,?_,World.keptBut_mono (λp aY=>⟨aY,?_⟩) (ag.frame (· ∈pD++[])),λ_=>?_⟩
 · rw[e];exact gL _ _ _
 · rw[e];exact hF _ λp aY=>by simpa using cx p aY
 · rw[e,E0];rfl
 · exact Or.inr (by simpa using aY)
 · refine⟨ok_one hD rfl (okWide_bool_mk KQ true),_,_,([]++pD)++[],⟨[]++pD,[],trodAll_append (hF _ (λ_ _=>rfl)) (gL _ _ _),show DataW.TrodVars enc P iq (λ_=>true) s.vars [] [] from by rw[E0];rfl,rfl,?_,?_⟩,?_⟩
   · intro b off aY
     have dL:MemPlace.cell b off∈pD++[]:=by simpa using aY
     rw[ag.frozen (cx _ dL)]
     exact a0 b off dL
   · intro a5
     simpa using aJ a5
   · intro p aY _
     simpa using aY
theorem T0{a:Assume}{C:Checked}{os:Os}{f:FuncId}{fn:Func}{s:ChangeSpec}{conds:List PathCond}{apart fresh handsOn again:Bool}{X:World->Array Value->Prop}
  (bn:∀(w w':World) (args:Array Value),w.heap=w'.heap->X w args->X w' args)
  (own:ownKnob C.prog.godebug=none)(started:os.Started)(T1:C.prog.inits.idxOf? f=none)(nu:C.prog.funcs[f]? =some fn)
  (witness:∃(w:World) (tape:Tape) (i:Input),w.os=os/\(w.forCall tape i).Shaped C.prog/\i.vars=[]/\Input.okWide C.prog (w.forCall tape i) .any w.heap.size f i/\
   ((s.pre enc C.prog fn conds apart (w.forCall tape i).memory i.args/\X (w.forCall tape i).memory i.args)/\sizedMet enc C.prog fn (OpenSpec.ofChange s) apart (w.forCall tape i).memory i.args)/\a.holds C.prog (lone (Frame.enter C.prog f i.args .normal) [] (w.forCall tape i)))
  (T2:∀(W:World) (base:Nat) (args:Array Value) (aV gs:List (DataW H)) (before:List MemPlace),
   (∀(j:Nat) t v,fn.params[j]? =some t->args[j]? =some v->Value.okWide C.prog W .any base t v)->
   DataW.Whole enc C.prog fn.params.toList s.vars apart W args.toList aV gs before->
   (DataW.weightsEach C.prog (fn.params.toList++s.plain.varTypes C.prog) (aV++gs)).all (· <=reachBytes)=true->X W args->W.ShapedOpen C.prog->
   Calls C.prog f args W λe iq=>∃v,e=.returned v/\s.post enc C.prog fn apart fresh handsOn again W args v iq):
  ReturnsInHanded a C os f .any (λw args=>(s.pre enc C.prog fn conds apart w args/\X w args)/\sizedMet enc C.prog fn (OpenSpec.ofChange s) apart w args) (s.post enc C.prog fn apart fresh handsOn again):=by
 refine returnsInHanded_of_calls own started T1 witness ?_
 intro w tape i _ h4 _ cR T3 ade
 obtain⟨_,_,_,DK,T4,_,_,_,_,nv⟩:=cR
 have e:DK=fn:=Option.some.inj (T4.symm.trans nu)
 subst e
 obtain⟨⟨⟨aV,gs,before,hw,ah⟩,ad⟩,a0⟩:=T3
 have T5:=DataW.Whole.of_heap (w':=w.forCall tape i) (by rfl) hw
 refine(T2 (w.forCall tape i) w.heap.size i.args aV gs before nv T5 (a0.weights hw) (bn _ _ _ (by rfl) ad) h4).mono λe iq ⟨v,he,aY⟩=>?_
 subst he
 exact ChangeSpec.post_blind aY
end
end ay
namespace ay
open Go Go.RowKit
mutual
def mB:J->Bool
 |.bool _=>true
 |.int _ _=>true
 |.str _=>true
 |.bc=>true
 |.az=>true
 |.hz=>true
 |.fi=>true
 |.eO=>true
 |.fn _ a b=>qB a&&qB b
 |.iface _ v=>mB v
 |.agg cs=>qB cs
 |.aD vs=>qB vs
 |_=>false
def qB:List J->Bool
 |[]=>true
 |v::vs=>mB v&&qB vs
end
mutual
theorem E1{μ aP:bl}:∀(a:J) (v:Value),mB a=true->bd μ a v->bd aP a v
 |.bool _,v,_,h=>h
 |.int _ _,v,_,h=>h
 |.str _,v,_,h=>h
 |.bc,v,_,h=>h
 |.az,v,_,h=>h
 |.hz,v,_,h=>h
 |.fi,v,_,h=>h
 |.eO,v,_,h=>h
 |.fn f a b,v,ai,h=>by
  simp only[mB,Bool.and_eq_true] at ai
  obtain⟨ct,cs,e,ab,ae⟩:=h
  exact⟨ct,cs,e,tE _ _ ai.1 ab,tE _ _ ai.2 ae⟩
 |.iface t x,v,ai,h=>by
  simp only[mB] at ai
  obtain⟨y,e,ab⟩:=h
  exact⟨y,e,E1 _ _ ai ab⟩
 |.agg cs,v,ai,h=>by
  simp only[mB] at ai
  obtain⟨l,e,ab⟩:=h
  exact⟨l,e,tE _ _ ai ab⟩
 |.aD cs,v,ai,h=>by
  simp only[mB] at ai
  obtain⟨l,e,ab⟩:=h
  exact⟨l,e,tE _ _ ai ab⟩
 |.bad,v,ai,h=>by simp[mB] at ai
 |.ptr _ _,v,ai,h=>by simp[mB] at ai
 |.slice _ _ _ _,v,ai,h=>by simp[mB] at ai
 |.map _,v,ai,h=>by simp[mB] at ai
 |.bR _,v,ai,h=>by simp[mB] at ai
theorem tE{μ aP:bl}:∀(as:List J) (vs:List Value),qB as=true->b9 μ as vs->b9 aP as vs
 |[],vs,_,h=>h
 |a::as,vs,ai,h=>by
  simp only[qB,Bool.and_eq_true] at ai
  obtain⟨v,vF,e,ab,ae⟩:=h
  exact⟨v,vF,e,E1 a v ai.1 ab,tE as vF ai.2 ae⟩
end
structure qC where
 f:Nat
 args:List J
 v:J
def qD:List qC->Nat->List J->aa->Option (J×aa)
 |[],_,_,_=>none
 |e::T,f,args,h=>match Nat.beq f e.f with
  |true=>match J.j_ args e.args with
   |true=>some (e.v,h)
   |false=>qD T f args h
  |false=>qD T f args h
theorem KR:∀(T:List qC) (f:Nat) (args:List J) (h:aa) (v:J) (an:aa),qD T f args h=some (v,an)->an=h/\∃e∈T,e.f=f/\e.args=args/\e.v=v
 |[],f,args,h,v,an,ad=>by cases ad
 |e::T,f,args,h,v,an,ad=>by
  simp only[qD] at ad
  have rest:qD T f args h=some (v,an)->an=h/\∃cI∈e::T,cI.f=f/\cI.args=args/\cI.v=v:=λad=>by
   obtain⟨ab,cI,ae,av⟩:=KR T f args h v an ad
   exact⟨ab,cI,List.mem_cons_of_mem _ ae,av⟩
  split at ad
  · rename_i hf
    split at ad
    · rename_i a5
      cases ad
      exact⟨rfl,e,by simp,(Nat.eq_of_beq_eq_true hf).symm,(qv _ _ a5).symm,rfl⟩
    · exact rest ad
  · exact rest ad
section
variable {P:Program}
def E2(P:Program)(intr:Nat->List J->aa->Option (J×aa))(n:Nat)(e:qC):Bool:=
 match e_ P intr n (.fn e.f) e.args (iE P.globals.size) with
 |.ret v _=>J.beq v e.v&&mB e.v&&qB e.args
 |_=>false
def tF(P:Program)(e:qC):Prop:=∃(intr:Nat->List J->aa->Option (J×aa)) (n:Nat),l4 P intr/\E2 P intr n e=true
theorem vD.mono{f:FuncId}{vs:List Value}{w:World}{R tG:Ending->World->Prop}(h:∀e w',R e w'->tG e w')(ao:vD P f vs w R):vD P f vs w tG:=by
 rcases ao with⟨v,w',ab,ae⟩|⟨ab,ae⟩
 · exact .inl ⟨v,w',ab,h _ _ ae⟩
 · exact .inr ⟨ab,ae.mono λe w' he=>h e w' he⟩
theorem KS(hf:Fit P){T:List qC}(lv:∀e∈T,tF P e):l4 P (qD T):=by
 intro f args H v aZ ad μ w vs aj ao aH
 obtain⟨rfl,e,he,rfl,rfl,rfl⟩:=KR T f args H v aZ ad
 obtain⟨intr,n,af,ag⟩:=lv e he
 unfold E2 at ag
 split at ag
 · rename_i v1 H1 eL
   simp only[Bool.and_eq_true] at ag
   obtain⟨⟨gh,dS⟩,mC⟩:=ag
   have E3:=beq_eq _ _ gh
   subst E3
   have gC:P.globals.size<=w.heap.size:=by
    cases bE:P.globals.size with
    |zero=>exact Nat.zero_le _
    |succ g=>
     obtain⟨i,ab,ae,av⟩:=ao g (by omega)
     have:=(aj.lt _ i ab).2
     omega
   obtain⟨s1,s2,bV⟩:=TS (P:=P) gC
   have hp:=(EY hf af n).fn e.f e.args (iE P.globals.size) (by rw[eL];rfl) (yp P.globals.size) w vs s1 s2 (tE _ _ mC aH)
   rw[eL] at hp
   refine hp.mono λkG w' qs=>?_
   obtain⟨aP,u,rfl,aR,aT,bP⟩:=qs
   have hold:∀r,r<w.heap.size->w'.heap[r]? =w.heap[r]? :=λr ai=>bP.old r ai λb i aw=>absurd rfl aw
   refine⟨μ,u,rfl,E1 _ _ dS aR,⟨λb o i ag af=>(aj.rel b o i ag af).mono (fa.refl μ) (hold _ (aj.lt b i af).2),aj.inj,λb i af=>⟨(aj.lt b i af).1,Nat.lt_of_lt_of_le (aj.lt b i af).2 bP.size⟩,aj.bound⟩,?_⟩
   exact⟨fa.refl μ,bP.size,Nat.le_refl _,λ_ _ aw=>aw,λ_ _ _=>rfl,λr ai _=>hold r ai,(λb i ab ae=>by rw[ab] at ae;cases ae),λb o i ag _ af=>⟨ag,hold _ (aj.lt b i af).2⟩,bP.os,bP.out,bP.tape,bP.drawn⟩
 · cases ag
def yq(P:Program):List qC->Prop
 |[]=>True
 |e::T=>tF P e/\yq P T
theorem yq.ok:∀{T:List qC},yq P T->∀e∈T,tF P e
 |[],_,e,he=>by cases he
 |x::T,h,e,he=>by
  rcases List.mem_cons.1 he with rfl|he
  · exact h.1
  · exact yq.ok h.2 e he
theorem E4(hf:Fit P){T:List qC}(lv:yq P T){n:Nat}{e:qC}(h:E2 P (qD T) n e=true):tF P e:=⟨qD T,n,KS hf lv.ok,h⟩
end
end ay
namespace ay
open Go
def r8(G:Nat)(is:List eX):bl:=λb=>if b<G then some ⟨b,0,0⟩ else is[b-G]?
def tH(h:aa)(r:List J×Nat):aa:=h.push (.cells r.1 r.2 .ro 0 0)
def tI(G:Nat)(rows:List (List J×Nat)):aa:=rows.foldl tH (iE G)
theorem BA:∀(rows:List (List J×Nat)) (h:aa),(∀b,h.n<=b->h.get b=none)->(rows.foldl tH h).n=h.n+rows.length/\∀b,(rows.foldl tH h).get b=if b<h.n then h.get b else(rows[b-h.n]?).map λr=>.cells r.1 r.2 .ro 0 0
 |[],h,ag=>⟨rfl,λb=>by
  split
  · rfl
  · rename_i aJ;simpa using ag b (by omega)⟩
 |r::rows,h,ag=>by
  have aJ:(tH h r).n=h.n+1:=rfl
  have ao:∀b,(tH h r).get b=if b=h.n then some (.cells r.1 r.2 .ro 0 0) else h.get b:=λb=>aa.eD _ _ _
  obtain⟨aR,aT⟩:=BA rows (tH h r) λb ab=>by rw[ao,if_neg (by omega)];exact ag b (by omega)
  refine⟨by rw[List.foldl_cons,aR,aJ,List.length_cons];omega,λb=>?_⟩
  rw[List.foldl_cons,aT,aJ,ao]
  by_cases ab:b<h.n
  · rw[if_pos (by omega),if_neg (by omega),if_pos ab]
  · rw[if_neg ab]
    by_cases ae:b=h.n
    · subst ae;rw[if_pos (by omega),if_pos rfl,Nat.sub_self];rfl
    · rw[if_neg (by omega)]
      obtain⟨k,rfl⟩:∃k,b=h.n+(k+1):=⟨b-h.n-1,by omega⟩
      have aE:h.n+(k+1)-(h.n+1)=k:=by omega
      have aC:h.n+(k+1)-h.n=k+1:=by omega
      rw[aE,aC];rfl
theorem E5(G:Nat)(rows:List (List J×Nat)):(tI G rows).n=G+rows.length:=(BA rows (iE G) λ_ _=>rfl).1
theorem E6(G:Nat)(rows:List (List J×Nat))(b:Nat):(tI G rows).get b=if b<G then none else(rows[b-G]?).map λr=>.cells r.1 r.2 .ro 0 0:=(BA rows (iE G) λ_ _=>rfl).2 b
def yr(W:World)(i:eX)(cs:List J)(el:Nat):Prop:=∃c fz,W.heap[i.bg]? =some (.cells c el fz)/\(∀μ,DI μ cs c i.base)/\i.base+i.size=c.size
theorem T6{P:Program}{W:World}(lu:P.globals.size<=W.heap.size)(l:List (eX×List J×Nat))(aw:∀x∈l,yr W x.1 x.2.1 x.2.2):
  bm (r8 P.globals.size (l.map (·.1))) (tI P.globals.size (l.map (·.2))) W/\h3 P (r8 P.globals.size (l.map (·.1)))/\yo (tI P.globals.size (l.map (·.2))):=by
 have ro:∀b o,(tI P.globals.size (l.map (·.2))).get b=some o->∃x,l[b-P.globals.size]? =some x/\¬b<P.globals.size/\o=.cells x.2.1 x.2.2 .ro 0 0:=by
  intro b o h
  rw[E6] at h
  split at h
  · cases h
  · rename_i ag
    rw[List.getElem?_map] at h
    cases ad:l[b-P.globals.size]? with
    |none=>rw[ad] at h;cases h
    |some x=>rw[ad] at h;cases h;exact⟨x,rfl,ag,rfl⟩
 refine⟨⟨λb o j h aI=>?_,λb c' j k ab ae=>?_,λb j h=>?_,λb h=>?_⟩,λg ao=>⟨⟨g,0,0⟩,by simp[r8,ao],rfl,rfl⟩,λb o h=>?_⟩
 · obtain⟨x,ad,ag,rfl⟩:=ro b o h
   unfold r8 at aI
   rw[if_neg ag,List.getElem?_map,ad] at aI
   cases aI
   obtain⟨c,fz,aR,aT,bP⟩:=aw x (List.mem_of_getElem? ad)
   exact⟨c,fz.1,fz.2,aR,aT _,bP,trivial⟩
 · obtain⟨o,ae,av⟩:=ae
   obtain⟨x,_,_,rfl⟩:=ro _ o ae
   cases av
 · rw[E5,List.length_map]
   unfold r8 at h
   split at h
   · rename_i ag;cases h;exact⟨by omega,Nat.lt_of_lt_of_le ag lu⟩
   · rw[List.getElem?_map] at h
     cases ad:l[b-P.globals.size]? with
     |none=>rw[ad] at h;cases h
     |some x=>
      rw[ad] at h;cases h
      obtain⟨c,fz,aR,_⟩:=aw x (List.mem_of_getElem? ad)
      have:=(List.getElem?_eq_some_iff.1 ad).1
      exact⟨by omega,(Array.getElem?_eq_some_iff.1 aR).1⟩
 · rw[E5,List.length_map] at h
   rw[E6,if_neg (by omega),List.getElem?_map,List.getElem?_eq_none (by omega)];rfl
 · obtain⟨x,_,_,rfl⟩:=ro b o h;rfl
theorem T7{P:Program}{l:List (eX×List J×Nat)}{k:Nat}{x:eX×List J×Nat}(h:l[k]? =some x):r8 P.globals.size (l.map (·.1)) (P.globals.size+k)=some x.1:=by
 unfold r8
 rw[if_neg (by omega),Nat.add_sub_cancel_left,List.getElem?_map,h];rfl
theorem T8{P:Program}{l:List (eX×List J×Nat)}{k:Nat}{x:eX×List J×Nat}(h:l[k]? =some x):(tI P.globals.size (l.map (·.2))).get (P.globals.size+k)=some (.cells x.2.1 x.2.2 .ro 0 0):=by
 rw[E6,if_neg (by omega),Nat.add_sub_cancel_left,List.getElem?_map,h];rfl
end ay
namespace ay
open Go
theorem T9{P:Program}{W:World}{r:Reach}{base t:Nat}{v:Value}{ts:List TypeId}(hu:lf P t=some true)(a2:P.cellTypes P.depth t=some ts)(aJ:P.cellsOf t=ts.length)(h:Value.okWide P W r base t v):
  ∃cs:List Value,v=.agg ⟨cs⟩/\cs.length=ts.length/\∀(i:Nat) (x:Value) (u:TypeId),cs[i]? =some x->ts[i]? =some u->Cell.okWide P W r base u x:=by
 have key:∃cs,v=.agg cs/\cs.size=P.cellsOf t/\Row.okWide P W r base t cs:=by
  unfold lf at hu
  unfold Value.okWide at h
  cases ad:P.underlying t with
  |none=>rw[ad] at hu;cases hu
  |some x=>
   rw[ad] at hu h
   cases x<;>first|exact h|simp at hu
 obtain⟨⟨cs⟩,rfl,hs,adf,ab,_,av⟩:=key
 rw[a2] at ab;cases ab
 have dF:cs.length=ts.length:=by simpa[aJ] using hs
 refine⟨cs,rfl,dF,λi x u ad hu=>?_⟩
 obtain⟨T_,n8,ah⟩:=av i x (by simpa using ad)
 have af:i<ts.length:=(List.getElem?_eq_some_iff.1 hu).1
 rw[Nat.mod_eq_of_lt af,hu] at n8
 cases n8
 exact ah
theorem Ua{P:Program}{W:World}{r:Reach}{base u:Nat}{v:Value}(hu:P.underlying u=some .string)(h:Cell.okWide P W r base u v):∃s,v=.string s:=by
 simp only[Cell.okWide,hu] at h
 cases v<;>simp_all [Cell.ok]
end ay
