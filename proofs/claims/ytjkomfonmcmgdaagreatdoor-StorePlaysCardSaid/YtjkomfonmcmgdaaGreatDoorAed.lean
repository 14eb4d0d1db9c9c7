/-
  THE ABSTRACT EVALUATOR (drawn regions; a run of the evaluator is a run of the program): a deterministic semantics of loaded code, and the proof that its runs are runs of the program in the model, whatever the tape draws. No condition.
-/
import Derived.Test.YtjkomfonmcmgdaaGreatDoorAec
import Derived.Handed
import Derived.ProofKit
import Derived.Below
import Derived.ChangeSame
import Derived.SliceStrings
import Derived.WideShapes
set_option linter.unusedVariables false
set_option linter.unusedSimpArgs false
namespace bg
open Go
structure iP where
 P:Program
 need:Nat
 b9:Nat
 inR:Bool
 call:ff->List ad->ab->bE
 ops:Array Oper
 r:ba
 b:Frame
 oW:bI
 H:ab
 h3:World
 cs0:List Frame
 N:Nat
 f:Nat->v8
def iP.steps(X:iP):List DStep:=f_ X.ops.toList 0 [] []
def iP.val(X:iP)(j:Nat):ad:=(nth (X.N-1-j) (X.f X.N).env).getD .bad
structure gQ(X:iP):Prop where
 ah:kM X.P X.call
 gp:X.inR=X.b.roundOf.isSome
 me:∀o∈X.ops.toList,∀t,o.dst=some t->t<X.b9
 hdr:sv X.ops X.steps=true
 hh:X.N<=X.ops.size
 v_:∀k s,k<X.N->X.steps[k]? =some s->v9 X.P X.need X.inR X.call X.ops X.r X.H.n s (X.f k) (X.f (k+1))
 Wz:(X.f 0).env=[]
 uz:(X.f 0).bu=[]
 looks:∀i s,i<X.N->X.steps[i]? =some s->kindOf X.P s.o.op=.pure->∃er,mI X.P X.need X.ops X.r X.N (X.f X.N).env s (X.val i) er (X.f X.N).h (X.f X.N).bu=true/\(∀e,er=some e->e=X.N/\X.N<X.ops.size)
 last:∀s,X.steps[X.N]? =some s->kindOf X.P s.o.op=.e3/\(∀e m h0 l,(X.f X.N).bu=(e,m,h0)::l->Nat.testBit s.fV e=true)/\∀k s',X.N<k->X.steps[k]? =some s'->Nat.testBit s'.fV s.i=true
 nX:iA X.P X.oW
 DV:bK X.oW X.H X.h3
section
variable {X:iP}
theorem gQ.n2(bO:gQ X){i:Nat}(hi:i<X.ops.size):∃s,X.steps[i]? =some s/\s.i=i/\X.ops[i]? =some s.o/\s.loc=kq (X.ops.toList.take i) 0 []/\Sound X.ops i s.fV:=by
 have bc:X.ops.toList[i]? =some X.ops[i]:=by simp[hi]
 obtain⟨s,I,ae,ax,aN,bS⟩:=AV (ops:=X.ops) X.ops.toList 0 [] [] (λk=>by simp) (ya bO.hdr) (λj aO=>by omega) i _ bc
 refine⟨s,I,by omega,by rw[ax];exact Array.getElem?_eq_getElem hi,aN,by simpa using bS⟩
theorem gQ.nh(bO:gQ X){i:Nat}{s:DStep}(h:X.steps[i]? =some s):i<X.ops.size/\s.i=i/\X.ops[i]? =some s.o/\s.loc=kq (X.ops.toList.take i) 0 []/\Sound X.ops i s.fV:=by
 have hi:i<X.ops.size:=by
  have I:=(List.getElem?_eq_some_iff.1 h).1
  rw[iP.steps,Hg] at I
  simpa using I
 obtain⟨s',I,ae⟩:=bO.n2 hi
 rw[h] at I;cases I
 exact⟨hi,ae⟩
theorem gQ.apart(bO:gQ X){i j:Nat}{s s':DStep}(uy:i<j)(I:X.steps[i]? =some s)(ae:X.steps[j]? =some s')(h:(∃t,s.o.dst=some t/\t∈nN X.ops s'.o)\/(∃t,s'.o.dst=some t/\t∈nN X.ops s.o)):Nat.testBit s'.fV i=true:=by
 have:=Nz bO.hdr i j s s' uy I ae h
 rw[(bO.nh I).2.1] at this;exact this
theorem gQ.DW(bO:gQ X):∀k,k<=X.N->(X.f k).env.length=k
 |0,_=>by rw[bO.Wz];rfl
 |k+1,ay=>by
  obtain⟨s,I,_⟩:=bO.n2 (i:=k) (by have:=bO.hh;omega)
  have bl:=bO.DW k (by omega)
  have bm:=bO.v_ k s (by omega) I
  generalize X.f (k+1)=st at bm
  cases bm<;>simp[bl]
theorem gQ.NB(bO:gQ X)(k:Nat):∀m,k<=m->m<=X.N->∃l,(X.f m).env=l++(X.f k).env
 |0,I,ae=>⟨[],by obtain rfl:k=0:=by omega
                 rfl⟩
 |m+1,I,ae=>by
  by_cases e:k=m+1
  · exact⟨[],by rw[e];rfl⟩
  · obtain⟨l,aA⟩:=bO.NB k m (by omega) (by omega)
    obtain⟨s,al,_⟩:=bO.n2 (i:=m) (by have:=bO.hh;omega)
    have bm:=bO.v_ m s (by omega) al
    have:∃v,(X.f (m+1)).env=v::(X.f m).env:=by
     generalize X.f (m+1)=st at bm
     cases bm<;>exact⟨_,rfl⟩
    obtain⟨v,aI⟩:=this
    exact⟨v::l,by rw[aI,aA];rfl⟩
theorem NC{α:Type}:∀(l m:List α) (k:Nat),nth (l.length+k) (l++m)=nth k m
 |[],m,k=>by simp
 |a::l,m,k=>by
  have:(a::l).length+k=(l.length+k)+1:=by simp;omega
  rw[this];exact NC l m k
theorem gQ.Hi(bO:gQ X){k j:Nat}(ay:k<=X.N)(aO:j<k):nth (k-1-j) (X.f k).env=nth (X.N-1-j) (X.f X.N).env:=by
 obtain⟨l,aA⟩:=bO.NB k X.N ay (Nat.le_refl _)
 have I:=bO.DW k ay
 have ae:=bO.DW X.N (Nat.le_refl _)
 rw[aA] at ae⊢
 simp only[List.length_append,I] at ae
 have:X.N-1-j=l.length+(k-1-j):=by omega
 rw[this,NC]
theorem gQ.DX(bO:gQ X){k:Nat}(ay:k<X.N){v:ad}(h:(X.f (k+1)).env=v::(X.f k).env):X.val k=v:=by
 have I:=bO.Hi (k:=k+1) (j:=k) ay (Nat.lt_succ_self k)
 unfold iP.val
 rw[<-I,h]
 simp[nth]
theorem gQ.ND(bO:gQ X){k:Nat}(ay:k<=X.N){a:Acc}(aV:a.below k):ep k (X.f k).env X.r a=ep X.N (X.f X.N).env X.r a:=by
 cases a with
 |env j=>simp only[ep];rw[bO.Hi ay aV]
 |reg p=>rfl
 |val v=>rfl
theorem AX(l:List Oper)(t:Nat):∀k,k<=l.length->
  (∀a,jx t (kq (l.take k) 0 [])=some a->∃j o,j<k/\a=.env j/\l[j]? =some o/\o.dst=some t/\∀j7 o',j<j7->j7<k->l[j7]? =some o'->o'.dst≠some t)/\
  (jx t (kq (l.take k) 0 [])=none->∀j o,j<k->l[j]? =some o->o.dst≠some t)
 |0,_=>⟨λa h=>by simp[kq,jx] at h,λ_ j o aO=>by omega⟩
 |k+1,ay=>by
  obtain⟨DY,DZ⟩:=AX l t k (by omega)
  have bc:l[k]? =some l[k]:=List.getElem?_eq_getElem (by omega)
  rw[Nx l 0 [] k l[k] bc,Nat.zero_add]
  unfold ix
  cases ai:(l[k]).dst with
  |none=>
   refine⟨λa h=>?_,λh j o aO oN=>?_⟩
   · obtain⟨j,o,I,ae,ax,aN,bS⟩:=DY a h
     refine⟨j,o,by omega,ae,ax,aN,λj7 o' a8 a2 bX=>?_⟩
     by_cases e:j7=k
     · subst e;rw[bc] at bX;cases bX;rw[ai];simp
     · exact bS j7 o' a8 (by omega) bX
   · by_cases e:j=k
     · subst e;rw[bc] at oN;cases oN;rw[ai];simp
     · exact DZ h j o (by omega) oN
  |some d=>
   simp only[qx]
   by_cases e:t=d
   · subst e
     refine⟨λa h=>?_,λh=>by simp at h⟩
     simp at h;subst h
     exact⟨k,_,by omega,rfl,bc,ai,λj7 o' a8 a2=>by omega⟩
   · simp only[e,if_false]
     refine⟨λa h=>?_,λh j o aO oN=>?_⟩
     · obtain⟨j,o,I,ae,ax,aN,bS⟩:=DY a h
       refine⟨j,o,by omega,ae,ax,aN,λj7 o' a8 a2 bX=>?_⟩
       by_cases aE:j7=k
       · subst aE;rw[bc] at bX;cases bX;rw[ai];simp;exactλdc=>e dc.symm
       · exact bS j7 o' a8 (by omega) bX
     · by_cases aE:j=k
       · subst aE;rw[bc] at oN;cases oN;rw[ai];simp;exactλdc=>e dc.symm
       · exact DZ h j o (by omega) oN
def iP.wa(X:iP)(S:List Nat)(μ:bI)(cH:Array Value):Prop:=∀t,
 (∀j o,j∈S->X.ops[j]? =some o->o.dst=some t->(∀k o',k∈S->X.ops[k]? =some o'->o'.dst=some t->k<=j)->bz μ (X.val j) (cH.getD t undef))/\
 ((∀j o,j∈S->X.ops[j]? =some o->o.dst≠some t)->Nat.testBit X.need t=true->bz μ (X.r.get (h_ t)) (cH.getD t undef))
theorem iP.wa.mono{S:List Nat}{μ a9:bI}{cH:Array Value}(hle:ga μ a9)(h:X.wa S μ cH):X.wa S a9 cH:=λt=>⟨λj o I ae ax aN=>((h t).1 j o I ae ax aN).mono hle,λI ae=>((h t).2 I ae).mono hle⟩
theorem gQ.NF(bO:gQ X){S:List Nat}(jb:AS X.ops S){μ:bI}{cH:Array Value}(ao:X.wa S μ cH){i:Nat}(hi:i<=X.N)(eN:i∉S)(c8:mS X.ops S i){s:DStep}(al:X.steps[i]? =some s){t:Nat}(bm:t∈nN X.ops s.o):
  bz μ (ep i (X.f i).env X.r (da X.P X.need s.loc (.tmp t))) (cH.getD t undef):=by
 obtain⟨gp,jh,fm,oX,n3⟩:=bO.nh al
 obtain⟨f1,f2⟩:=AX X.ops.toList t i (by simp;omega)
 have NG:∀k o',k∈S->X.ops[k]? =some o'->o'.dst=some t->k<i:=λk o' ay jN ai=>by
  have rL:k<X.ops.size:=(Array.getElem?_eq_some_iff.1 jN).1
  rcases Nat.lt_trichotomy k i with h|h|h
  · exact h
  · subst h;exact absurd ay eN
  · obtain⟨s',a8,a2,bX,eG,gi⟩:=bO.n2 rL
    rw[jN] at bX;cases bX
    have:=bO.apart h al a8 (.inr ⟨t,ai,bm⟩)
    exact absurd (gi S jb (jb k ay) i this) eN
 simp only[da,oX]
 cases hf:jx t (kq (X.ops.toList.take i) 0 []) with
 |some a=>
  obtain⟨j,o,aO,rfl,oN,ai,rD⟩:=f1 a hf
  have NH:X.ops[j]? =some o:=by simpa using oN
  obtain⟨s',a8,a2,bX,eG,gi⟩:=bO.n2 (i:=j) (by omega)
  rw[NH] at bX;cases bX
  have Hj:j∈S:=n3 S jb c8 j (bO.apart aO a8 al (.inl ⟨t,ai,bm⟩))
  have:=(ao t).1 j _ Hj NH ai λk o' ay jN oQ=>by
   have WA:=NG k o' ay jN oQ
   rcases Nat.lt_or_ge j k with h|h
   · exact absurd oQ (rD k o' h WA (by simpa using jN))
   · exact h
  have aI:ep i (X.f i).env X.r (.env j)=X.val j:=by
   simp only[ep,iP.val]
   rw[bO.Hi hi aO]
  simp only[aI];exact this
 |none=>
  simp only[]
  cases ag:Nat.testBit X.need t with
  |false=>trivial
  |true=>
   exact(ao t).2 (λj o aO bc ai=>f2 hf j o (NG j o aO bc ai) (by simpa using bc) ai) ag
theorem gQ.NI(bO:gQ X){S:List Nat}(jb:AS X.ops S){μ:bI}{a:Act}(bJ:a.tmps.size=X.b9)(ao:X.wa S μ a.tmps){i:Nat}(eN:i∉S)(c8:mS X.ops S i){s:DStep}(al:X.steps[i]? =some s){u:Value}(hu:bz μ (X.val i) u):
  X.wa (i::S) μ (a.put s.o.dst u).tmps:=by
 obtain⟨gp,jh,fm,oX,n3⟩:=bO.nh al
 have cB:∀t,s.o.dst=some t->t<a.tmps.size:=λt h=>by
  rw[bJ];exact bO.me s.o (by rw[<-Array.getElem?_toList] at fm;exact List.mem_of_getElem? fm) t h
 intro t
 by_cases ai:s.o.dst=some t
 · have h2:(a.put s.o.dst u).tmps.getD t undef=u:=by
     rw[ai];simp only[Act.put];rw[AJ (cB t ai),if_pos rfl]
   have WB:∀k o',k∈S->X.ops[k]? =some o'->o'.dst=some t->k<i:=λk o' ay jN oQ=>by
    have rL:k<X.ops.size:=(Array.getElem?_eq_some_iff.1 jN).1
    rcases Nat.lt_trichotomy k i with h|h|h
    · exact h
    · subst h;exact absurd ay eN
    · obtain⟨s',a8,a2,bX,eG,gi⟩:=bO.n2 rL
      rw[jN] at bX;cases bX
      have:=bO.apart h al a8 (.inr ⟨t,oQ,by simp[nN,ai]⟩)
      exact absurd (gi S jb (jb k ay) i this) eN
   refine⟨λj o aO bc D0 AB=>?_,λlT=>absurd ai (lT i s.o (by simp) fm)⟩
   have uy:=AB i s.o (by simp) fm ai
   rcases List.mem_cons.1 aO with rfl|aO
   · rw[h2];exact hu
   · have:=WB j o aO bc D0;omega
 · have h2:(a.put s.o.dst u).tmps.getD t undef=a.tmps.getD t undef:=by
     cases NJ:s.o.dst with
     |none=>rfl
     |some d=>
      simp only[Act.put]
      rw[AJ (cB d NJ),if_neg (λe=>ai (by rw[NJ,e]))]
   rw[h2]
   refine⟨λj o aO bc D0 AB=>?_,λlT ag=>(ao t).2 (λj o aO bc=>lT j o (by simp[aO]) bc) ag⟩
   rcases List.mem_cons.1 aO with rfl|aO
   · rw[fm] at bc;cases bc;exact absurd D0 ai
   · exact(ao t).1 j o aO bc D0 λk o' ay jN oQ=>AB k o' (by simp[ay]) jN oQ
def sR(μ:bI)(w:World)(b:Nat)(ob:dQ):Prop:=∃i O,μ b=some i/\w.heap[i.bx]? =some O/\(∀a9 w',ga μ a9->w'.heap[i.bx]? =some O->rz a9 ob i w')/\(∀c j,c≠b->μ c=some j->j.bx≠i.bx)
theorem bK.Hk{μ:bI}{H:ab}{w:World}(h:bK μ H w){b:Nat}{ob:dQ}(ag:b<H.n)(a0:μ b=none\/sR μ w b ob):bK μ (H.set b (some ob)) w:=by
 refine⟨λc o i ah hi=>?_,λc d i j ah ai hi aO e=>?_,λc i hi=>h.lt c i hi,λc ah=>?_⟩
 · rw[ab.dx] at ah
   by_cases e:c=b
   · subst e
     rw[if_pos rfl] at ah;cases ah
     rcases a0 with a0|⟨oY,O,I,ae,ax,aN⟩
     · rw[a0] at hi;cases hi
     · rw[I] at hi;cases hi
       exact ax μ w (ga.refl μ) ae
   · rw[if_neg e] at ah;exact h.rel c o i ah hi
 · rw[ab.dx] at ah ai
   by_cases aG:c=b
   · by_cases aE:d=b
     · rw[aG,aE]
     · subst aG
       rcases a0 with a0|⟨oY,O,I,ae,ax,aN⟩
       · rw[a0] at hi;cases hi
       · rw[I] at hi;cases hi
         exact absurd e.symm (aN d j aE aO)
   · by_cases aE:d=b
     · subst aE
       rcases a0 with a0|⟨oY,O,I,ae,ax,aN⟩
       · rw[a0] at aO;cases aO
       · rw[I] at aO;cases aO
         exact absurd e (aN c i aG hi)
     · rw[if_neg aG] at ah;rw[if_neg aE] at ai
       exact h.inj c d i j ah ai hi aO e
 · rw[ab.dx,if_neg (by simp at ah;omega)];exact h.bound c (by simpa using ah)
theorem cA.Hk{oW μ:bI}{H AY:ab}{h3 w:World}(au:bK oW H h3)(h:cA oW H h3 μ AY w){b:Nat}(ob:dQ)(ag:H.n<=b):cA oW H h3 μ (AY.set b (some ob)) w where
 le:=h.le
 size:=h.size
 n:=by simpa using h.n
 live:=λc ah aA=>h.live c ah (by rw[ab.dx,if_neg (by omega)] at aA;exact aA)
 idle:=λc ah hm=>by rw[ab.dx,if_neg (by omega)];exact h.idle c ah hm
 old:=h.old
 new:=h.new
 ro:=λc o i ah ao hi=>by
  have:=(au.lt c i hi).1
  rw[ab.dx,if_neg (by omega)];exact h.ro c o i ah ao hi
 os:=h.os
 out:=h.out
 tape:=h.tape
 drawn:=h.drawn
theorem bK.early{μ:bI}{H:ab}{w:World}(h:bK μ H w){b:Nat}{ob:dQ}{O:Obj}{sz:Nat}(ag:b<H.n)(hm:μ b=none)(bc:∀o,H.get b=some o->o=ob)
  (WC:∀a9 w',ga μ a9->w'.heap[w.heap.size]? =some O->rz a9 ob ⟨w.heap.size,0,sz⟩ w'):ga μ (gx μ b ⟨w.heap.size,0,sz⟩)/\bK (gx μ b ⟨w.heap.size,0,sz⟩) H (w.alloc O):=by
 have hle:ga μ (gx μ b ⟨w.heap.size,0,sz⟩):=λc i hi=>by
  rw[iy];exact hi
  intro e;subst e;rw[hm] at hi;cases hi
 have hold:∀r,r<w.heap.size->(w.alloc O).heap[r]? =w.heap[r]? :=λr ao=>by
  simp only[World.alloc,Array.getElem?_push];rw[if_neg (by omega)]
 refine⟨hle,λc o i ah hi=>?_,λc d i j ah ai hi aO e=>?_,λc i hi=>?_,h.bound⟩
 · by_cases e:c=b
   · subst e
     rw[hy] at hi;cases hi
     rw[bc o ah]
     exact WC _ _ hle (World.heap_alloc_new _ _)
   · rw[iy _ _ e] at hi
     exact(h.rel c o i ah hi).mono hle (hold _ (h.lt c i hi).2)
 · by_cases aG:c=b
   · by_cases aE:d=b
     · rw[aG,aE]
     · subst aG;rw[hy] at hi;cases hi
       rw[iy _ _ aE] at aO
       have:=(h.lt d j aO).2
       simp only at e;omega
   · by_cases aE:d=b
     · subst aE;rw[hy] at aO;cases aO
       rw[iy _ _ aG] at hi
       have:=(h.lt c i hi).2
       simp only at e;omega
     · rw[iy _ _ aG] at hi;rw[iy _ _ aE] at aO
       exact h.inj c d i j ah ai hi aO e
 · by_cases e:c=b
   · subst e;rw[hy] at hi;cases hi
     exact⟨ag,by simp⟩
   · rw[iy _ _ e] at hi
     have:=h.lt c i hi
     simp only[World.size_alloc];omega
theorem cA.early{oW μ:bI}{H AY:ab}{h3 w:World}(au:bK oW H h3)(h:cA oW H h3 μ AY w){b:Nat}(ag:H.n<=b)(hm:μ b=none){O:Obj}{sz:Nat}:cA oW H h3 (gx μ b ⟨w.heap.size,0,sz⟩) AY (w.alloc O):=by
 have hold:∀r,r<w.heap.size->(w.alloc O).heap[r]? =w.heap[r]? :=λr ao=>by
  simp only[World.alloc,Array.getElem?_push];rw[if_neg (by omega)]
 exact{
  le:=λc i hi=>by
   have I:=h.le c i hi
   rw[iy];exact I
   intro e;subst e;rw[hm] at I;cases I
  size:=by have:=h.size;simp only[World.size_alloc];omega
  n:=h.n
  live:=h.live
  idle:=h.idle
  old:=λr ao aH=>(hold r (Nat.lt_of_lt_of_le ao h.size)).trans (h.old r ao aH)
  new:=λc i I ae=>by
   by_cases e:c=b
   · subst e;rw[hy] at ae;cases ae;exact⟨ag,.inl h.size⟩
   · rw[iy _ _ e] at ae;exact h.new c i I ae
  ro:=λc o i ah ao hi=>by
   obtain⟨I,ae⟩:=h.ro c o i ah ao hi
   exact⟨I,(hold _ (Nat.lt_of_lt_of_le (au.lt c i hi).2 h.size)).trans ae⟩
  os:=h.os
  out:=h.out
  tape:=h.tape
  drawn:=h.drawn}
theorem sR.early{μ:bI}{H:ab}{w:World}(h:bK μ H w){b c:Nat}{ob:dQ}{O:Obj}{sz:Nat}(hm:μ b=none)(a0:sR μ w c ob):sR (gx μ b ⟨w.heap.size,0,sz⟩) (w.alloc O) c ob:=by
 obtain⟨i,Hl,I,ae,ax,aN⟩:=a0
 have dr:c≠b:=by intro e;subst e;rw[hm] at I;cases I
 have cB:=(h.lt c i I).2
 have hle:ga μ (gx μ b ⟨w.heap.size,0,sz⟩):=λc i hi=>by
  rw[iy];exact hi
  intro e;subst e;rw[hm] at hi;cases hi
 refine⟨i,Hl,by rw[iy _ _ dr];exact I,?_,λa9 w' aA wb=>ax a9 w' (hle.trans aA) wb,λd j ai aO=>?_⟩
 · simp only[World.alloc,Array.getElem?_push];rw[if_neg (by omega)];exact ae
 · by_cases e:d=b
   · subst e;rw[hy] at aO;cases aO;simp only;omega
   · rw[iy _ _ e] at aO;exact aN d j ai aO
theorem sR.rM{μ a9:bI}{H a6:ab}{w w':World}(au:bK μ H w)(aV:cA μ H w a9 a6 w'){c:Nat}{ob:dQ}(ar:H.get c=none)(a0:sR μ w c ob):sR a9 w' c ob:=by
 obtain⟨i,Hl,I,ae,ax,aN⟩:=a0
 have cB:=(au.lt c i I).2
 refine⟨i,Hl,aV.le _ _ I,?_,λxU db aA wb=>ax xU db (aV.le.trans aA) wb,λd j ai aO=>?_⟩
 · rw[aV.old i.bx cB]
   · exact ae
   · intro d j aA aO
     exact aN d j (λe=>by subst e;exact aA ar) aO
 · cases qB:μ d with
   |some wc=>
    have:=aV.le d wc qB
    rw[aO] at this;cases this
    exact aN d j ai qB
   |none=>
    obtain⟨_,aH|⟨e,o,k,he,_,ay,Hm⟩⟩:=aV.new d j qB aO
    · omega
    · rw[<-Hm]
      exact aN e k (λdc=>by subst dc;rw[ar] at he;cases he) ay
end
end bg
namespace bg
open Go
section
variable {X:iP}
def uA(X:iP)(i:Nat)(s:DStep)(v:ad)(ob:dQ):Prop:=
 i<X.N/\kindOf X.P s.o.op=.alloc/\fg (h1 X.P X.need X.ops X.r s.i (X.f i).env s)=some true/\lN X.P s.o.op (n1 X.P X.need X.r s (X.f i).env) (X.H.n+i)=some (v,ob)
structure Inv(X:iP)(S:List Nat)(c:Nat)(μ:bI)(w:World)(a:Act)(cs:List Frame):Prop where
 ah:c<=X.N
 closed:AS X.ops S
 sub:∀i∈S,i<X.N
 e3:∀i s,X.steps[i]? =some s->i<X.N->kindOf X.P s.o.op=.e3->(i∈S<->i<c)
 rel:bK μ (X.f c).h w
 rM:cA X.oW X.H X.h3 μ (X.f c).h w
 yd:hs μ (X.f c).d a.defers
 qr:iO μ X.b.kind X.cs0 (X.f c).q cs
 e_:∀i,i<X.ops.size->i∉S->μ (X.H.n+i)=none
 lay:∀i s v ob,X.steps[i]? =some s->uA X i s v ob->i∉S->i<c->(X.f c).h.get (X.H.n+i)=some ob
 qE:∀i,c<=i->i<X.ops.size->(X.f c).h.get (X.H.n+i)=none
 uB:X.H.n+X.ops.size<=(X.f c).h.n
 gX:∀i s v ob,X.steps[i]? =some s->uA X i s v ob->i∈S->c<=i->sR μ w (X.H.n+i) ob
 oG:X.wa S μ a.tmps
 sz:a.tmps.size=X.b9
theorem Inv.pass(bO:gQ X){S:List Nat}{c:Nat}{μ:bI}{w:World}{a:Act}{cs:List Frame}(h:Inv X S c μ w a cs)(cB:c<X.N){s:DStep}(al:X.steps[c]? =some s)(ay:kindOf X.P s.o.op≠ .e3):Inv X S (c+1) μ w a cs:=by
 obtain⟨gp,jh,fm,oX,n3⟩:=bO.nh al
 have bm:=bO.v_ c s cB al
 have NK:∀i s',X.steps[i]? =some s'->i<X.N->kindOf X.P s'.o.op=.e3->(i∈S<->i<c+1):=λi s' I ae ax=>by
  rw[h.e3 i s' I ae ax]
  have:i≠c:=by intro e;subst e;rw[al] at I;cases I;exact ay ax
  omega
 have same:(X.f (c+1)).h=(X.f c).h->(X.f (c+1)).d=(X.f c).d->(X.f (c+1)).q=(X.f c).q->(∀v ob,¬uA X c s v ob)->Inv X S (c+1) μ w a cs:=λaG aE bH Hn=>by
  refine⟨cB,h.closed,h.sub,NK,by rw[aG];exact h.rel,by rw[aG];exact h.rM,by rw[aE];exact h.yd,by rw[bH];exact h.qr,h.e_,λi s' v ob I ae ax aN=>?_,λi I ae=>(by rw[aG];exact h.qE i (by omega) ae),by rw[aG];exact h.uB,λi s' v ob I ae ax aN=>h.gX i s' v ob I ae ax (by omega),h.oG,h.sz⟩
  by_cases e:i=c
  · subst e;rw[al] at I;cases I;exact absurd ae (Hn v ob)
  · rw[aG];exact h.lay i s' v ob I ae ax (by omega)
 generalize hf:X.f (c+1)=st at bm
 cases bm with
 |yb fl hw=>
  refine same (by rw[hf]) (by rw[hf]) (by rw[hf]) λv ob g1=>?_
  have:=g1.2.2.1
  rw[hw] at this;cases this
 |pure fl he=>
  refine same (by rw[hf]) (by rw[hf]) (by rw[hf]) λv ob g1=>?_
  have:=g1.2.1
  rw[fl] at this;cases this
 |e3 fl bc he=>exact absurd fl ay
 |alloc fl hw aV=>
  rename_i v ob
  have aG:(X.f (c+1)).h=(X.f c).h.set (X.H.n+c) (some ob):=by rw[hf,jh]
  have aE:(X.f (c+1)).d=(X.f c).d:=by rw[hf]
  have bH:(X.f (c+1)).q=(X.f c).q:=by rw[hf]
  have g1:uA X c s v ob:=⟨cB,fl,hw,by rw[<-jh];rw[<-jh] at aV;exact aV⟩
  have ag:X.H.n+c<(X.f c).h.n:=by have:=h.uB;omega
  have a0:μ (X.H.n+c)=none\/sR μ w (X.H.n+c) ob:=by
   by_cases NL:c∈S
   · exact .inr (h.gX c s v ob al g1 NL (Nat.le_refl _))
   · exact .inl (h.e_ c gp NL)
  refine⟨cB,h.closed,h.sub,NK,by rw[aG];exact h.rel.Hk ag a0,by rw[aG];exact h.rM.Hk bO.DV ob (by omega),by rw[aE];exact h.yd,by rw[bH];exact h.qr,h.e_,λi s' v' Ho I ae ax aN=>?_,λi I ae=>?_,by rw[aG];simpa using h.uB,λi s' v ob I ae ax aN=>h.gX i s' v ob I ae ax (by omega),h.oG,h.sz⟩
  · rw[aG,ab.dx]
    by_cases e:i=c
    · subst e
      rw[al] at I;cases I
      have:=ae.2.2.2.symm.trans g1.2.2.2
      cases this
      rw[if_pos rfl]
    · rw[if_neg (by omega)];exact h.lay i s' v' Ho I ae ax (by omega)
  · rw[aG,ab.dx,if_neg (by omega)]
    exact h.qE i (by omega) ae
def Norm(X:iP)(c:Nat):Prop:=c=X.N\/∃s,X.steps[c]? =some s/\kindOf X.P s.o.op=.e3
theorem Inv.norm(bO:gQ X){S:List Nat}{μ:bI}{w:World}{a:Act}{cs:List Frame}:∀(k c:Nat),X.N-c=k->Inv X S c μ w a cs->∃c',Norm X c'/\Inv X S c' μ w a cs
 |0,c,ay,h=>⟨c,.inl (by have:=h.ah;omega),h⟩
 |k+1,c,ay,h=>by
  obtain⟨s,al,_⟩:=bO.n2 (i:=c) (by have:=bO.hh;omega)
  by_cases he:kindOf X.P s.o.op=.e3
  · exact⟨c,.inr ⟨s,al,he⟩,h⟩
  · exact Inv.norm bO k (c+1) (by omega) (h.pass bO (by omega) al he)
def AZ(ops:Array Oper)(o:Oper)(g:Operand->ad):Operand->ad
 |.tmp t=>if(nN ops o).contains t then g (.tmp t) else .bad
 |x=>g x
theorem D1{ops:Array Oper}{o:Oper}{g:Operand->ad}:∀x∈o.op.operands,g x=AZ ops o g x:=by
 intro x aa
 cases x with
 |tmp t=>
  have:(nN ops o).contains t=true:=by
   have I:t∈o.op.operands.toList.filterMap λ|.tmp t=>some t|_=>none:=List.mem_filterMap.2 ⟨.tmp t,by simpa using aa,rfl⟩
   simp only[nN,List.contains_iff_mem,List.mem_append]
   exact .inl (.inr I)
  simp only[AZ,this,if_true]
 |_=>rfl
theorem NM(bO:gQ X){S:List Nat}{c:Nat}{μ:bI}{w:World}{a:Act}{cs:List Frame}(h:Inv X S c μ w a cs){i:Nat}(hi:i<=X.N)(eN:i∉S)(c8:mS X.ops S i){s:DStep}(al:X.steps[i]? =some s):
  ∀x,bz μ (AZ X.ops s.o (n1 X.P X.need X.r s (X.f i).env) x) (a.eval x):=by
 obtain⟨gp,jh,fm,oX,n3⟩:=bO.nh al
 intro x
 cases x with
 |tmp t=>
  simp only[AZ]
  split
  · rename_i bm
    have:=bO.NF h.closed h.oG hi eN c8 al (t:=t) (by simpa using bm)
    unfold n1;rw[jh];exact this
  · trivial
 |const v=>exact lO μ v
 |global g=>
  simp only[AZ,n1,da,Act.eval]
  cases ag:Nat.blt g X.P.globals.size with
  |false=>exact trivial
  |true=>
   obtain⟨i,I,ae,ax⟩:=bO.nX.mono h.rM.le g (by simpa using ag)
   obtain⟨iz,i0,Ax⟩:=i
   simp only at ae ax
   subst ae;subst ax
   exact⟨_,I,rfl⟩
 |func f=>exact⟨[],[],rfl,rfl,rfl⟩
theorem Hp(bO:gQ X){S:List Nat}{c:Nat}{μ:bI}{w:World}{a:Act}{cs:List Frame}(h:Inv X S c μ w a cs){i:Nat}(hi:i<=X.N)(eN:i∉S)(c8:mS X.ops S i){s:DStep}(al:X.steps[i]? =some s):
  ∀rI,fg (h1 X.P X.need X.ops X.r s.i (X.f i).env s)=some rI->Region.wanted s.o (yielded X.ops a.tmps)=rI:=by
 obtain⟨gp,jh,fm,oX,n3⟩:=bO.nh al
 intro rI hw
 unfold h1 k6 at hw
 unfold Region.wanted
 cases ar:s.o.guard with
 |none=>rw[ar] at hw;simp only[fg] at hw;cases hw;rfl
 |some p=>
  obtain⟨j,gz⟩:=p
  rw[ar] at hw
  simp only at hw⊢
  cases bm:(X.ops[j]?).bind (·.dst) with
  |none=>rw[bm] at hw;simp only[ep,fg] at hw;cases hw
  |some t=>
   rw[bm] at hw
   simp only at hw
   have ao:=bO.NF h.closed h.oG hi eN c8 al (t:=t) (by
    simp only[nN,List.mem_append]
    refine .inr ?_
    rw[ar];simp only[bm];simp)
   rw[M7 bm]
   rw[jh] at hw
   generalize ep i (X.f i).env X.r (da X.P X.need s.loc (.tmp t))=v at hw ao
   unfold fg at hw
   split at hw
   · rename_i he;cases he
   · rename_i he;cases he;cases hw
     have G0:a.tmps.getD t undef=_:=ao
     rw[G0];rfl
   · rename_i he;cases he;cases hw
     obtain⟨l,aA,hD⟩:=ao
     cases hD
     rw[aA];rfl
   · cases hw
theorem we{P:Program}{inR:Bool}{call:ff->List ad->ab->bE}{gd:Option (ad×Bool)}{o:Oper}{g e6:Operand->ad}{d:List cb}{q:bU}{H:ab}(h:∀x∈o.op.operands,g x=e6 x):eI P inR call gd o g d q H=eI P inR call gd o e6 d q H:=by
 unfold eI;rw[AQ o H h]
theorem Inv.one(bO:gQ X){S:List Nat}{c:Nat}{μ:bI}{w:World}{a:Act}{cs:List Frame}(h:Inv X S c μ w a cs){i:Nat}(hi:i<=X.N)(eN:i∉S)(c8:mS X.ops S i){s:DStep}(al:X.steps[i]? =some s)(rest:List Nat)(k:List Item):
  GW X.P μ (X.f c).h w X.b a X.ops s.o i rest k X.cs0 cs (eI X.P X.inR X.call (h1 X.P X.need X.ops X.r s.i (X.f i).env s) s.o (n1 X.P X.need X.r s (X.f i).env) (X.f c).d (X.f c).q (X.f c).h):=by
 obtain⟨gp,jh,fm,oX,n3⟩:=bO.nh al
 rw[we (D1 (ops:=X.ops))]
 exact M3 bO.ah h.rel (bO.nX.mono h.rM.le) fm (Hp bO h hi eN c8 al) (NM bO h hi eN c8 al) h.yd h.qr bO.gp
theorem Inv.D2(bO:gQ X){S:List Nat}{c c':Nat}{μ a9:bI}{w w':World}{a:Act}{cs b5:List Frame}(h:Inv X S c μ w a cs){i:Nat}(hi:i<X.N)(eN:i∉S)(c8:mS X.ops S i){s:DStep}(al:X.steps[i]? =some s)(ay:∀v ob,¬uA X i s v ob)
  {u:Value}{ds:List Deferred}(aI:bz a9 (X.val i) u)(nf:bK a9 (X.f c').h w')(mf:cA μ (X.f c).h w a9 (X.f c').h w')(ai:hs a9 (X.f c').d ds)(aK:iO a9 X.b.kind X.cs0 (X.f c').q b5)
  (ye:(c'=c/\kindOf X.P s.o.op≠ .e3)\/(c'=c+1/\i=c)):Inv X (i::S) c' a9 w' {tmps:=(a.put s.o.dst u).tmps,defers:=ds} b5:=by
 obtain⟨gp,jh,fm,oX,n3⟩:=bO.nh al
 have hle:=mf.le
 have uC:c<=c':=by rcases ye with⟨e,_⟩|⟨e,_⟩<;>omega
 have A0:=h.uB
 refine⟨?_,λj aO=>?_,λj aO=>?_,λj s' I ae ax=>?_,nf,cA.trans bO.DV h.rel h.rM mf,ai,aK,λj I ae=>?_,λj s' v ob I ae ax aN=>?_,λj I ae=>?_,?_,λj s' v ob I ae ax aN=>?_,?_,?_⟩
 · rcases ye with⟨e,_⟩|⟨e,aE⟩
   · rw[e];exact h.ah
   · omega
 · have hm:mS X.ops S j->mS X.ops (i::S) j:=λau o bc e he ag=>List.mem_cons_of_mem _ (au o bc e he ag)
   rcases List.mem_cons.1 aO with rfl|aO
   · exact hm c8
   · exact hm (h.closed j aO)
 · rcases List.mem_cons.1 aO with rfl|aO
   · exact hi
   · exact h.sub j aO
 · have:=h.e3 j s' I ae ax
   rw[List.mem_cons,this]
   rcases ye with⟨e,aE⟩|⟨e,aE⟩
   · subst e
     have:j≠i:=by intro e;subst e;rw[al] at I;cases I;exact aE ax
     simp[this]
   · omega
 · have D3:j∉S:=λau=>ae (List.mem_cons_of_mem _ au)
   cases hm:a9 (X.H.n+j) with
   |none=>rfl
   |some e_=>
    have:=(mf.new _ e_ (h.e_ j I D3) hm).1
    omega
 · have D3:j∉S:=λau=>ax (List.mem_cons_of_mem _ au)
   have mJ:j≠i:=λe=>ax (by simp[e])
   have ajy:=ae.1
   have Mi:j<c:=by rcases ye with⟨e,_⟩|⟨e,aE⟩<;>omega
   rw[mf.idle _ (by have:=bO.hh;omega) (h.e_ j (by have:=bO.hh;omega) D3)]
   exact h.lay j s' v ob I ae D3 Mi
 · have h0:=h.qE j (by omega) ae
   cases ar:(X.f c').h.get (X.H.n+j) with
   |none=>rfl
   |some o=>exact absurd h0 (mf.live _ (by omega) (by rw[ar];simp))
 · exact Nat.le_trans A0 mf.n
 · have mJ:j≠i:=by
     intro e;subst e;rw[al] at I;cases I;exact ay v ob ae
   have Hj:j∈S:=by
    rcases List.mem_cons.1 ax with e|au
    · exact absurd e mJ
    · exact au
   have ajz:=ae.1
   exact(h.gX j s' v ob I ae Hj (by omega)).rM h.rel mf (h.qE j (by omega) (by have:=bO.hh;omega))
 · exact bO.NI (a:=a) h.closed h.sz (h.oG.mono hle) eN c8 al aI
 · simpa using(AK a s.o.dst u).trans h.sz
theorem A1{s:DStep}{v:ad}(bO:gQ X):∀(m:Nat),m<=X.N->∀(er:Option Nat) (yf:ab),mI X.P X.need X.ops X.r X.N (X.f X.N).env s v er yf (X.f m).bu=true->
  ∀c s',c<m->X.steps[c]? =some s'->kindOf X.P s'.o.op=.e3->∃bu,bu=(X.f c).bu/\mI X.P X.need X.ops X.r X.N (X.f X.N).env s v (some c) (X.f c).h bu=true
 |0,_,er,yf,h,c,s',ah,_,_=>by omega
 |m+1,hm,er,yf,h,c,s',ah,en,ay=>by
  obtain⟨wg,a8,a2,_⟩:=bO.n2 (i:=m) (by have:=bO.hh;omega)
  have bm:=bO.v_ m wg (by omega) a8
  by_cases e:c=m
  · subst e
    rw[a8] at en;cases en
    generalize hf:X.f (c+1)=st at bm h
    cases bm with
    |yb fl=>rw[ay] at fl;cases fl
    |alloc fl=>rw[ay] at fl;cases fl
    |pure fl=>rw[ay] at fl;cases fl
    |e3 fl bc he=>
     unfold mI at h
     rw[Bool.and_eq_true] at h
     have ae:=h.2
     simp only[a2] at ae
     exact⟨_,rfl,ae⟩
  · have cB:c<m:=by omega
    generalize hf:X.f (m+1)=st at bm h
    cases bm with
    |yb fl=>exact A1 bO m (by omega) er yf h c s' cB en ay
    |alloc fl=>exact A1 bO m (by omega) er yf h c s' cB en ay
    |pure fl=>exact A1 bO m (by omega) er yf h c s' cB en ay
    |e3 fl bc he=>
     unfold mI at h
     rw[Bool.and_eq_true] at h
     have ae:=h.2
     simp only at ae
     exact A1 bO m (by omega) _ _ ae c s' cB en ay
theorem Hq(bO:gQ X):∀(m:Nat),m<=X.N->∀e mk h0 l,(X.f m).bu=(e,mk,h0)::l->e<m/\∃s',X.steps[e]? =some s'/\kindOf X.P s'.o.op=.e3/\mk=s'.fV
 |0,_,e,mk,h0,l,h=>by rw[bO.uz] at h;cases h
 |m+1,hm,e,mk,h0,l,h=>by
  obtain⟨wg,a8,a2,_⟩:=bO.n2 (i:=m) (by have:=bO.hh;omega)
  have bm:=bO.v_ m wg (by omega) a8
  generalize hf:X.f (m+1)=st at bm h
  cases bm with
  |e3 fl bc he=>
   simp only[List.cons.injEq,Prod.mk.injEq] at h
   obtain⟨⟨rfl,rfl,rfl⟩,rfl⟩:=h
   exact⟨by omega,wg,by rw[a2];exact a8,fl,rfl⟩
  |_=>obtain⟨I,ae⟩:=Hq bO m (by omega) e mk h0 l h;exact⟨by omega,ae⟩
theorem Inv.looks(bO:gQ X){S:List Nat}{c:Nat}{μ:bI}{w:World}{a:Act}{cs:List Frame}(h:Inv X S c μ w a cs)(aH:Norm X c){i:Nat}(hi:i<X.N)(eN:i∉S)(c8:mS X.ops S i){s:DStep}(al:X.steps[i]? =some s)(ay:kindOf X.P s.o.op=.pure):
  nM X.P X.need X.ops X.r X.N (X.f X.N).env s (X.val i) (X.f c).h=true:=by
 obtain⟨gp,jh,fm,oX,n3⟩:=bO.nh al
 obtain⟨er,I,ae⟩:=bO.looks i s hi al ay
 have off:∀(er:Option Nat),(∀e,er=some e->e=c/\c∉S)->mI X.P X.need X.ops X.r X.N (X.f X.N).env s (X.val i) er (X.f c).h (X.f c).bu=true->nM X.P X.need X.ops X.r X.N (X.f X.N).env s (X.val i) (X.f c).h=true:=by
  intro er D4 cL
  unfold mI at cL
  rw[Bool.and_eq_true] at cL
  have ax:=cL.1
  split at ax
  · rename_i ag
    exfalso
    rw[Bool.or_eq_true] at ag
    rcases ag with ag|ag
    · cases er with
      |none=>cases ag
      |some e=>
       obtain⟨rfl,q⟩:=D4 e rfl
       exact q (n3 S h.closed c8 _ ag)
    · cases uD:(X.f c).bu with
      |nil=>rw[uD] at ag;cases ag
      |cons p l=>
       obtain⟨e,mk,h0⟩:=p
       rw[uD] at ag
       obtain⟨a8,s',a2,bX,rfl⟩:=Hq bO c h.ah e mk h0 l uD
       have Hr:=(h.e3 e s' a2 (by have:=h.ah;omega) bX).2 a8
       exact eN ((bO.nh a2).2.2.2.2 S h.closed (h.closed e Hr) i (by rw[jh] at ag;exact ag))
  · exact ax
 have NN:∀e s',X.steps[e]? =some s'->e=X.N->e∉S:=λe s' _ he au=>by have:=h.sub e au;omega
 by_cases uC:c=X.N
 · subst uC
   exact off er (λe he=>⟨(ae e he).1,λau=>by have:=h.sub _ au;omega⟩) I
 · have NO:c<X.N:=by have:=h.ah;omega
   rcases aH with e|⟨s',a8,a2⟩
   · exact absurd e uC
   · obtain⟨bu,rfl,aN⟩:=A1 bO X.N (Nat.le_refl _) er _ I c s' NO a8 a2
     refine off (some c) (λe he=>⟨by cases he;rfl,λau=>?_⟩) aN
     have:=(h.e3 c s' a8 NO a2).1 au
     omega
end
end bg
namespace bg
open Go
section
variable {X:iP}
theorem NP(bO:gQ X):∀(m:Nat),m<=X.N->
  (∀e mk h0 l,(X.f m).bu=(e,mk,h0)::l->∀j s',e<j->j<m->X.steps[j]? =some s'->kindOf X.P s'.o.op≠ .e3)/\
  ((X.f m).bu=[]->∀j s',j<m->X.steps[j]? =some s'->kindOf X.P s'.o.op≠ .e3)
 |0,_=>⟨λe mk h0 l h=>(by rw[bO.uz] at h;cases h),λ_ j s' aO=>(by omega)⟩
 |m+1,hm=>by
  obtain⟨DY,DZ⟩:=NP bO m (by omega)
  obtain⟨wg,a8,a2,_⟩:=bO.n2 (i:=m) (by have:=bO.hh;omega)
  have bm:=bO.v_ m wg (by omega) a8
  have same:kindOf X.P wg.o.op≠ .e3->(X.f (m+1)).bu=(X.f m).bu->_:=λay he=>(⟨λe mk h0 l h j s' I ae ax=>by
    by_cases dc:j=m
    · subst dc;rw[a8] at ax;cases ax;exact ay
    · exact DY e mk h0 l (he▸h) j s' I (by omega) ax,λh j s' ae ax=>by
    by_cases dc:j=m
    · subst dc;rw[a8] at ax;cases ax;exact ay
    · exact DZ (he▸h) j s' (by omega) ax⟩:
   (∀e mk h0 l,(X.f (m+1)).bu=(e,mk,h0)::l->∀j s',e<j->j<m+1->X.steps[j]? =some s'->kindOf X.P s'.o.op≠ .e3)/\((X.f (m+1)).bu=[]->∀j s',j<m+1->X.steps[j]? =some s'->kindOf X.P s'.o.op≠ .e3))
  generalize hf:X.f (m+1)=st at bm same⊢
  clear hf
  cases bm with
  |yb fl=>exact same (by rw[fl];simp) rfl
  |alloc fl=>exact same (by rw[fl];simp) rfl
  |pure fl=>exact same (by rw[fl];simp) rfl
  |e3 fl bc he=>
   refine⟨λe mk h0 l h j s' I ae ax=>?_,λh=>by cases h⟩
   simp only[List.cons.injEq,Prod.mk.injEq] at h
   obtain⟨⟨rfl,_,_⟩,_⟩:=h
   omega
theorem Inv.NQ(bO:gQ X){S:List Nat}{c:Nat}{μ:bI}{w:World}{a:Act}{cs:List Frame}(h:Inv X S c μ w a cs)(aH:Norm X c){i:Nat}(hi:i<=X.N)(eN:i∉S)(c8:mS X.ops S i){s:DStep}(al:X.steps[i]? =some s)
  (ay:kindOf X.P s.o.op=.e3)(bc:∀e m h0 l,(X.f i).bu=(e,m,h0)::l->Nat.testBit s.fV e=true):i=c:=by
 obtain⟨gp,jh,fm,oX,n3⟩:=bO.nh al
 have MQ:c<=i:=by
  rcases Nat.lt_or_ge i X.N with I|I
  · have:=h.e3 i s al I ay
    rcases Nat.lt_or_ge i c with ae|ae
    · exact absurd (this.2 ae) eN
    · exact ae
  · have:=h.ah;omega
 rcases Nat.lt_or_ge c i with cB|yg
 · exfalso
   rcases aH with e|⟨s',a8,a2⟩
   · omega
   · obtain⟨r1,r2⟩:=NP bO i hi
     cases uD:(X.f i).bu with
     |nil=>exact r2 uD c s' cB a8 a2
     |cons p l=>
      obtain⟨e,mk,h0⟩:=p
      obtain⟨cT,s2,dv,eY,_⟩:=Hq bO i hi e mk h0 l uD
      have Hr:=n3 S h.closed c8 e (bc e mk h0 l uD)
      have WD:=(h.e3 e s2 dv (by omega) eY).1 Hr
      exact r1 e mk h0 l uD c s' WD cB a8 a2
 · omega
theorem Inv.WE(bO:gQ X){S:List Nat}{c:Nat}{μ:bI}{w:World}{a:Act}{cs:List Frame}(h:Inv X S c μ w a cs){i:Nat}(hi:i<X.N)(eN:i∉S)(c8:mS X.ops S i){s:DStep}(al:X.steps[i]? =some s){v:ad}{ob:dQ}(g1:uA X i s v ob)(aI:X.val i=v)(rest:List Nat)(k:List Item):
  ∃a9 w' cW,Steps X.P (lone (X.b.atR a (.inRegion X.ops (i::rest)::k)) cs w) (lone (X.b.atR cW (.inRegion X.ops rest::k)) cs w')/\Inv X (i::S) c a9 w' cW cs:=by
 obtain⟨gp,jh,fm,oX,n3⟩:=bO.nh al
 obtain⟨_,ay,hw,aV⟩:=g1
 have GX:=Hp bO h (Nat.le_of_lt hi) eN c8 al _ hw
 rw[AR _ _ (D1 (ops:=X.ops))] at aV
 obtain⟨u,O,sz,aA⟩:=VL (P:=X.P) (w:=w) s.o (NM bO h (Nat.le_of_lt hi) eN c8 al) aV
 have cL:=stepGR_op (P:=X.P) (b:=X.b) (a:=a) (k:=k) (cs:=cs) (w:=w) (rest:=rest) fm GX
 have vY:s.o.semAt X.b.roundOf a.eval=execOp a.eval s.o:=Oper.semAt_eq _ _ _ λyh e=>by rw[e] at ay;cases ay
 rw[vY] at cL
 obtain⟨ak,_⟩:=DD cL
 have iB:=ak _ _ aA.run
 have oP:(X.b.atR a (.inRegion X.ops (i::rest)::k)).finish u=X.b.atR (a.put s.o.dst u) (.inRegion X.ops rest::k):=by
  rw[Frame.finish_atR,fm];rfl
 rw[oP] at iB
 have jd:=h.e_ i gp eN
 have A0:=h.uB
 have kb:∀o,(X.f c).h.get (X.H.n+i)=some o->o=ob:=λo ar=>by
  rcases Nat.lt_or_ge i c with cB|yg
  · have:=h.lay i s v ob al ⟨hi,ay,hw,by rw[AR _ _ (D1 (ops:=X.ops))];exact aV⟩ eN cB
    rw[ar] at this;cases this;rfl
  · rw[h.qE i yg gp] at ar;cases ar
 obtain⟨hle,nf⟩:=h.rel.early (b:=X.H.n+i) (by omega) jd kb aA.obj
 have mf:=h.rM.early bO.DV (b:=X.H.n+i) (by omega) jd (O:=O) (sz:=sz)
 have WG:bz (gx μ (X.H.n+i) ⟨w.heap.size,0,sz⟩) (X.val i) u:=by rw[aI];exact aA.val _ hle (hy _ _ _)
 refine⟨gx μ (X.H.n+i) ⟨w.heap.size,0,sz⟩,_,_,iB,?_⟩
 have hm:∀{j},mS X.ops S j->mS X.ops (i::S) j:=λau o bc e he ag=>List.mem_cons_of_mem _ (au o bc e he ag)
 refine⟨h.ah,λj aO=>?_,λj aO=>?_,λj s' I ae ax=>?_,nf,mf,?_,h.qr.mono hle,λj I ae=>?_,λj s' v ob I ae ax aN=>h.lay j s' v ob I ae (λau=>ax (List.mem_cons_of_mem _ au)) aN,h.qE,h.uB,λj s' v' Ho I ae ax aN=>?_,bO.NI h.closed h.sz (h.oG.mono hle) eN c8 al WG,(AK _ _ _).trans h.sz⟩
 · rcases List.mem_cons.1 aO with rfl|aO
   · exact hm c8
   · exact hm (h.closed j aO)
 · rcases List.mem_cons.1 aO with rfl|aO
   · exact hi
   · exact h.sub j aO
 · have mJ:j≠i:=by intro e;subst e;rw[al] at I;cases I;rw[ay] at ax;cases ax
   rw[List.mem_cons]
   simp only[mJ,false_or]
   exact h.e3 j s' I ae ax
 · rw[put_defers];exact h.yd.mono hle
 · have mJ:j≠i:=λe=>ae (by simp[e])
   rw[iy _ _ (by omega)]
   exact h.e_ j I (λau=>ae (List.mem_cons_of_mem _ au))
 · rcases List.mem_cons.1 ax with e|ax
   · subst e
     rw[al] at I;cases I
     have:=ae.2.2.2
     rw[AR _ _ (D1 (ops:=X.ops)),aV] at this
     cases this
     refine⟨⟨w.heap.size,0,sz⟩,O,hy _ _ _,World.heap_alloc_new _ _,λa9 w' pG wb=>aA.obj a9 w' (hle.trans pG) wb,λd j7 ai aO=>?_⟩
     rw[iy _ _ ai] at aO
     have:=(h.rel.lt d j7 aO).2
     simp only;omega
   · exact(h.gX j s' v' Ho I ae ax aN).early h.rel jd
theorem Hs(bO:gQ X){i:Nat}(hi:i<=X.N):GZ i (kq (X.ops.toList.take i) 0 []):=λt a aV=>by
 obtain⟨j,o,I,rfl,_⟩:=(AX X.ops.toList t i (by have:=bO.hh;simp;omega)).1 a aV
 exact I
theorem Inv.step(bO:gQ X){S:List Nat}{c:Nat}{μ:bI}{w:World}{a:Act}{cs:List Frame}(h:Inv X S c μ w a cs){i:Nat}(hi:i<X.N)(eN:i∉S)(c8:mS X.ops S i)(rest:List Nat)(k:List Item):
  ∃c' a9 w' cW b5,Steps X.P (lone (X.b.atR a (.inRegion X.ops (i::rest)::k)) cs w) (lone (X.b.atR cW (.inRegion X.ops rest::k)) b5 w')/\Inv X (i::S) c' a9 w' cW b5:=by
 obtain⟨c,aH,h⟩:=h.norm bO _ _ rfl
 obtain⟨s,al,jh,fm,_⟩:=bO.n2 (i:=i) (by have:=bO.hh;omega)
 have bm:=bO.v_ i s hi al
 have hle:=Nat.le_of_lt hi
 generalize hf:X.f (i+1)=st at bm
 cases bm with
 |yb ay hw=>
  have aI:=bO.DX hi (v:=.aR []) (by rw[hf])
  have vX:=Hp bO h hle eN c8 al _ hw
  have qp:=stepR_op_skip (P:=X.P) (b:=X.b) (a:=a) (k:=k) (cs:=cs) (w:=w) (ops:=X.ops) (i:=i) (rest:=rest) (by simp[fm,vX])
  rw[fm] at qp
  have he:a.put ((some s.o).bind (·.dst)) undef={tmps:=(a.put s.o.dst undef).tmps,defers:=a.defers}:=DE a s.o.dst undef
  rw[he] at qp
  refine⟨c,μ,w,_,cs,.one qp,h.D2 bO hi eN c8 al (λv ob g1=>?_) (by rw[aI];exact⟨[],rfl,rfl⟩) h.rel (cA.refl _ _ _) h.yd h.qr (.inl ⟨rfl,by rw[ay];simp⟩)⟩
  have:=g1.2.2.1
  rw[hw] at this;cases this
 |alloc ay hw aV=>
  rename_i v ob
  have aI:=bO.DX hi (v:=v) (by rw[hf])
  obtain⟨a9,w',cW,I,ae⟩:=h.WE bO hi eN c8 al ⟨hi,ay,hw,by rw[<-jh];rw[<-jh] at aV;exact aV⟩ aI rest k
  exact⟨c,a9,w',cW,cs,I,ae⟩
 |pure ay he=>
  rename_i v d' br aw
  have aI:=bO.DX hi (v:=v) (by rw[hf])
  have mh:=h.looks bO aH hi eN c8 al ay
  have gP:=h.one bO hle eN c8 al rest k
  have hC:h1 X.P X.need X.ops X.r X.N (X.f X.N).env s=h1 X.P X.need X.ops X.r s.i (X.f i).env s:=by
   unfold h1 k6
   cases Ht:s.o.guard with
   |none=>rfl
   |some p=>
    obtain⟨j,gz⟩:=p
    simp only
    cases ajA:(X.ops[j]?).bind (·.dst) with
    |none=>rfl
    |some t=>
     simp only
     rw[jh,bO.ND hle (by rw[(bO.nh al).2.2.2.1];exact DH (Hs bO hle) _)]
  have eU:∀x,ep X.N (X.f X.N).env X.r (da X.P X.need s.loc x)=n1 X.P X.need X.r s (X.f i).env x:=λx=>by
   unfold n1
   rw[jh,bO.ND hle (by rw[(bO.nh al).2.2.2.1];exact DH (Hs bO hle) _)]
  unfold nM at mh
  rw[hC] at mh
  have uu:(λx=>ep X.N (X.f X.N).env X.r (da X.P X.need s.loc x))=n1 X.P X.need X.r s (X.f i).env:=funext eU
  rw[uu] at mh
  have D5:∀v ob,¬uA X i s v ob:=λv ob g1=>by have:=g1.2.1;rw[ay] at this;cases this
  have dr:kindOf X.P s.o.op≠ .e3:=by rw[ay];simp
  unfold eI at gP he
  cases NR:fg (h1 X.P X.need X.ops X.r s.i (X.f i).env s) with
  |none=>rw[NR] at mh;cases mh
  |some gz=>
   rw[NR] at mh gP he
   cases gz with
   |false=>
    simp only at gP he
    cases he
    obtain⟨a9,w',u,vW,b5,s1,s2,b1,b_,cI,dz⟩:=gP
    exact⟨c,a9,w',_,b5,s1,h.D2 bO hi eN c8 al D5 (by rw[aI];exact s2) b1 b_ cI dz (.inl ⟨rfl,dr⟩)⟩
   |true=>
    simp only at mh gP
    split at mh
    · rename_i v' Hu gu
      rw[gu] at gP
      simp only at gP
      have WH:=beq_eq _ _ mh
      have WI:=Wu ay gu
      rw[WI] at gP
      obtain⟨a9,w',u,vW,b5,s1,s2,b1,b_,cI,dz⟩:=gP
      exact⟨c,a9,w',_,b5,s1,h.D2 bO hi eN c8 al D5 (by rw[<-WH];exact s2) b1 b_ cI dz (.inl ⟨rfl,dr⟩)⟩
    · cases mh
 |e3 ay bc he=>
  rename_i v d' br aw
  have aI:=bO.DX hi (v:=v) (by rw[hf])
  have sS:=h.NQ bO aH hle eN c8 al ay bc
  have gP:=h.one bO hle eN c8 al rest k
  have D5:∀v ob,¬uA X i s v ob:=λv ob g1=>by have:=g1.2.1;rw[ay] at this;cases this
  rw[<-sS,he] at gP
  obtain⟨a9,w',u,vW,b5,s1,s2,b1,b_,cI,dz⟩:=gP
  have aG:(X.f (c+1)).h=aw:=by rw[<-sS,hf]
  have aE:(X.f (c+1)).d=d':=by rw[<-sS,hf]
  have bH:(X.f (c+1)).q=br:=by rw[<-sS,hf]
  exact⟨c+1,a9,w',_,b5,s1,h.D2 bO hi eN c8 al D5 (by rw[aI];exact s2) (by rw[aG];exact b1) (by rw[aG,<-sS];exact b_) (by rw[aE];exact cI) (by rw[bH];exact dz) (.inr ⟨rfl,sS⟩)⟩
end
end bg
namespace bg
open Go
section
variable {X:iP}
def iP.ends(X:iP)(k:List Item)(gj:Machine)(res:oH):Prop:=qy X.P X.need X.b9 X.oW X.r X.H X.h3 X.b k X.cs0 gj (kq X.ops.toList 0 []) res
theorem iP.Hv{k:List Item}{gj a3:Machine}{res:oH}(h:Steps X.P gj a3)(aw:X.ends k a3 res):X.ends k gj res:=by
 unfold iP.ends at*
 cases res with
 |ok env d q a6=>obtain⟨a9,w',cW,b5,s1,s2⟩:=aw;exact⟨a9,w',cW,b5,h.trans s1,s2⟩
 |cw v d q a6=>obtain⟨a9,w',cW,b5,u,bq,s1,s2⟩:=aw;exact⟨a9,w',cW,b5,u,bq,h.trans s1,s2⟩
 |fail s=>trivial
structure Hw(X:iP)(res:oH):Prop where
 ok:X.N=X.ops.size->res=.ok (X.f X.N).env (X.f X.N).d (X.f X.N).q (X.f X.N).h
 cw:X.N<X.ops.size->∀s,X.steps[X.N]? =some s->∃v d' br aw,eI X.P X.inR X.call (h1 X.P X.need X.ops X.r s.i (X.f X.N).env s) s.o (n1 X.P X.need X.r s (X.f X.N).env) (X.f X.N).d (X.f X.N).q (X.f X.N).h=.cw v d' br aw/\res=.cw v d' br aw
theorem Inv.order(bO:gQ X){res:oH}(e4:Hw X res)(k:List Item):∀(L S:List Nat) (c:Nat) (μ:bI) (w:World) (a:Act) (cs:List Frame),v5 X.ops S L->Inv X S c μ w a cs->X.ends k (lone (X.b.atR a (.inRegion X.ops L::k)) cs w) res
 |[],S,c,μ,w,a,cs,bc,h=>by
  have eL:∀i,i<X.ops.size->i∈S:=bc
  have hh:X.N=X.ops.size:=by
   have:=bO.hh
   rcases Nat.lt_or_ge X.N X.ops.size with cB|yg
   · have:=h.sub _ (eL _ cB);omega
   · omega
  obtain⟨c,aH,h⟩:=h.norm bO _ _ rfl
  have NN:c=X.N:=by
   rcases aH with e|⟨s,a8,a2⟩
   · exact e
   · have:=h.ah
     rcases Nat.lt_or_ge c X.N with cB|yg
     · have:=(h.e3 c s a8 cB a2).1 (eL c (by omega));omega
     · omega
  subst NN
  rw[e4.ok hh]
  have hlen:=bO.DW X.N (Nat.le_refl _)
  have NS:X.ops.toList.take X.N=X.ops.toList:=by rw[hh];exact List.take_of_length_le (by simp)
  have oX:=Hs bO (Nat.le_refl X.N)
  rw[NS] at oX
  refine⟨μ,w,a,cs,.one stepR_region_end,⟨by rw[hlen];exact oX,λt=>?_⟩,h.sz,h.rel,h.rM,h.yd,h.qr⟩
  rw[hlen]
  obtain⟨f1,f2⟩:=AX X.ops.toList t X.N (by simp;omega)
  rw[NS] at f1 f2
  simp only[da]
  cases hf:jx t (kq X.ops.toList 0 []) with
  |some ac=>
   obtain⟨j,o,aO,rfl,oN,ai,rD⟩:=f1 ac hf
   have:=(h.oG t).1 j o (eL j (by omega)) (by simpa using oN) ai λk o' ay jN oQ=>by
    rcases Nat.lt_or_ge j k with cB|yg
    · exact absurd oQ (rD k o' cB (h.sub k ay) (by simpa using jN))
    · exact yg
   exact this
  |none=>
   simp only[]
   cases ag:Nat.testBit X.need t with
   |false=>trivial
   |true=>
    exact(h.oG t).2 (λj o aO jN ai=>f2 hf j o (h.sub j aO) (by simpa using jN) ai) ag
 |i::L,S,c,μ,w,a,cs,bc,h=>by
  obtain⟨hi,eN,c8,pC⟩:=bc
  rcases Nat.lt_trichotomy i X.N with cB|heq|wh
  · obtain⟨c',a9,w',cW,b5,I,ae⟩:=h.step bO cB eN c8 L k
    exact iP.Hv I (Inv.order bO e4 k L (i::S) c' a9 w' cW b5 pC ae)
  ·
   obtain⟨s,al,jh,fm,_⟩:=bO.n2 hi
   obtain⟨c,aH,h⟩:=h.norm bO _ _ rfl
   rw[heq] at al
   obtain⟨bt,bw,dL⟩:=bO.last s al
   rw[<-heq] at al bw
   have sS:=h.NQ bO aH (Nat.le_of_eq heq) eN c8 al bt bw
   have gP:=h.one bO (Nat.le_of_eq heq) eN c8 al L k
   obtain⟨v,d',br,aw,aG,aE⟩:=e4.cw (by omega) s (by rw[<-heq];exact al)
   rw[<-heq] at aG
   rw[<-sS,aG] at gP
   rw[aE]
   obtain⟨a9,w',u,s1,s2,b1,b_,cI,dz⟩:=gP
   rw[sS] at b_
   refine⟨a9,w',a,cs,u,_,s1,trivial,s2,λt bm ag=>?_,h.sz,b1,cA.trans bO.DV h.rel h.rM b_,cI,dz⟩
   obtain⟨f1,f2⟩:=AX X.ops.toList t X.ops.toList.length (Nat.le_refl _)
   rw[List.take_length] at f2
   have:=(h.oG t).2 (λj o aO jN ai=>f2 bm j o (by have:=h.sub j aO;have:=bO.hh;simp;omega) (by simpa using jN) ai) ag
   exact this.mono b_.le
  · exfalso
    obtain⟨s,al,_⟩:=bO.n2 (i:=X.N) (by omega)
    obtain⟨s',en,_,_,_,n3⟩:=bO.n2 hi
    have:=(bO.last s al).2.2 i s' wh en
    rw[(bO.nh al).2.1] at this
    have:=h.sub _ (n3 S h.closed c8 _ this)
    omega
end
section
variable {P:Program}
theorem NT{need:Nat}{ops:Array Oper}{r:ba}{n:Nat}{env:List ad}{last:Option Nat}{h:ab}{bu:List (Nat×Nat×ab)}:∀{l:List DStep},nd P need ops r n env last h bu l=true->∀s∈l,s.i<n->kindOf P s.o.op=.pure->mI P need ops r n env s ((nth (n-1-s.i) env).getD .bad) last h bu=true
 |[],_,s,al,_,_=>by cases al
 |x::l,aA,s,al,hi,ay=>by
  simp only[nd,Bool.and_eq_true] at aA
  rcases List.mem_cons.1 al with rfl|al
  · have I:=aA.1
    have ag:Nat.blt s.i n=true:=by simpa using hi
    rw[ag,ay] at I
    exact I
  · exact NT aA.2 s al hi ay
theorem NU(hm:P.follows .mixedOrders=true){call:ff->List ad->ab->bE}(ah:kM P call)(need b9:Nat):oT P need b9 call:=by
 intro ops id me hdr b inR r d q H μ w a k cs0 cs gp ao bJ au ar ai aK
 unfold vD
 simp only
 obtain⟨oU,mi⟩:∃oU:v8,oU=⟨[],d,q,⟨H.t,H.n+ops.size⟩,[]⟩:=⟨_,rfl⟩
 obtain⟨res,jL⟩:∃res,hq P need inR call ops r H.n (f_ ops.toList 0 [] []) [] d q ⟨H.t,H.n+ops.size⟩ []=res:=⟨_,rfl⟩
 rw[jL]
 by_cases NV:∃ly,res=.fail ly
 · obtain⟨ly,e⟩:=NV;subst e;trivial
 have WJ:∀ly,res≠ .fail ly:=λly e=>NV ⟨ly,e⟩
 have WK:hq P need inR call ops r H.n (f_ ops.toList 0 [] []) oU.env oU.d oU.q oU.h oU.bu=res:=by rw[mi];exact jL
 obtain⟨f,N,f0,hh,NW,ye⟩:=NA _ _ _ WK WJ
 have hlen:(f_ ops.toList 0 [] []).length=ops.size:=by rw[Hg];simp
 rw[hlen] at hh
 have NX:∀m,m<=N->(f m).env.length=m:=λm=>by
  induction m with
  |zero=>intro _;rw[f0,mi];rfl
  |succ m bl=>
   intro sA
   have al:(f_ ops.toList 0 [] [])[m]? =some (f_ ops.toList 0 [] [])[m]:=List.getElem?_eq_getElem (by omega)
   have bm:=NW m _ (by omega) al
   have Hx:=bl (by omega)
   generalize f (m+1)=st at bm
   cases bm<;>simp[Hx]
 let X:iP:={P:=P,need:=need,b9:=b9,inR:=inR,call:=call,ops:=ops,r:=r,b:=b,oW:=μ,H:=H,h3:=w,cs0:=cs0,N:=N,f:=f}
 let df:World:={w with drawn:=w.drawn+1}
 have ux:∀o i,ops[i]? =some o->qm o i=true:=λo i bc=>by
  have hi:i<ops.size:=(Array.getElem?_eq_some_iff.1 bc).1
  have jN:ops.toList[i]? =some o:=by simpa using bc
  obtain⟨s,I,ae,ax,_⟩:=AV (ops:=ops) ops.toList 0 [] [] (λk=>by simp) (ya hdr) (λj aO=>by omega) i o jN
  have:=ya hdr s (List.mem_of_getElem? I)
  rw[ax] at this
  have kO:s.i=i:=by omega
  rw[kO] at this;exact this
 have ni:=Wt ux (w.tape w.drawn (.order b.fn id))
 have fB:Steps P (lone (b.atR a (.code (.region id ops true)::k)) cs w) (lone (b.atR a (.inRegion ops (Region.schedule true ops (w.tape w.drawn (.order b.fn id)))::k)) cs df):=by
  have:=stepR_region_draw (P:=P) (b:=b) (a:=a) (k:=k) (cs:=cs) (w:=w) (ops:=ops) (id:=id)
  rw[hm] at this
  exact .one this
 have hinv:Inv X [] 0 μ df a cs:=by
  refine⟨Nat.zero_le _,(λj aO=>by cases aO),(λj aO=>by cases aO),(λi s I ae ax=>⟨λaO=>(by cases aO),λaO=>(by omega)⟩),?_,?_,?_,?_,λi hi _=>?_,(λi s v ob I ae ax aN=>by omega),λi hi ae=>?_,?_,(λi s v ob I ae ax aN=>by cases ax),?_,bJ⟩
  · show bK μ (f 0).h df
    rw[f0,mi]
    exact⟨λgz o i ag hi=>(au.rel gz o i ag hi).mono (ga.refl μ) rfl,au.inj,λgz i hi=>⟨Nat.lt_of_lt_of_le (au.lt gz i hi).1 (Nat.le_add_right _ _),(au.lt gz i hi).2⟩,λgz ag=>au.bound gz (Nat.le_trans (Nat.le_add_right _ _) ag)⟩
  · show cA μ H w μ (f 0).h df
    rw[f0,mi]
    exact⟨ga.refl μ,Nat.le_refl _,Nat.le_add_right _ _,λ_ _ aA=>aA,λ_ _ _=>rfl,λ_ _ _=>rfl,(λgz i I ae=>by rw[I] at ae;cases ae),λ_ _ _ ag _ _=>⟨ag,rfl⟩,rfl,rfl,rfl,Nat.le_succ _⟩
  · show hs μ (f 0).d a.defers
    rw[f0,mi];exact ai
  · show iO μ b.kind cs0 (f 0).q cs
    rw[f0,mi];exact aK
  · show μ (H.n+i)=none
    cases e:μ (H.n+i) with
    |none=>rfl
    |some e_=>have:=(au.lt _ e_ e).1;omega
  · show(f 0).h.get (H.n+i)=none
    rw[f0,mi]
    exact au.bound (H.n+i) (Nat.le_add_right _ _)
  · show H.n+ops.size<=(f 0).h.n
    rw[f0,mi];exact Nat.le_refl _
  · intro t
    exact⟨λj o aO=>(by cases aO),λ_ ag=>ao t ag⟩
 have NY:∀(er:Option Nat) (mh:nd P need ops r (f N).env.length (f N).env er (f N).h (f N).bu (f_ ops.toList 0 [] [])=true) (D4:∀e,er=some e->e=N/\N<ops.size)
   (rD:∀s,(f_ ops.toList 0 [] [])[N]? =some s->kindOf P s.o.op=.e3/\(∀e m h0 l,(f N).bu=(e,m,h0)::l->Nat.testBit s.fV e=true)/\∀k s',N<k->(f_ ops.toList 0 [] [])[k]? =some s'->Nat.testBit s'.fV s.i=true),gQ X:=by
  intro er mh D4 rD
  refine⟨ah,gp,me,hdr,hh,NW,by show(f 0).env=[];rw[f0,mi],by show(f 0).bu=[];rw[f0,mi],λi s hi al ay=>?_,rD,ar,au⟩
  have jh:s.i=i:=by
   have Hy:i<ops.size:=Nat.lt_of_lt_of_le hi hh
   obtain⟨s',I,ae,_⟩:=AV (ops:=ops) ops.toList 0 [] [] (λk=>by simp) (ya hdr) (λj aO=>by omega) i _ (show ops.toList[i]? =some ops[i] by simp[Hy])
   have lR:(f_ ops.toList 0 [] [])[i]? =some s:=al
   rw[I] at lR;cases lR;omega
  have:=NT mh s (List.mem_of_getElem? al) (by rw[NX N (Nat.le_refl _),jh];exact hi) ay
  rw[NX N (Nat.le_refl _),jh] at this
  exact⟨er,this,D4⟩
 rcases ye with⟨ajB,aa⟩|⟨s,al,ay,bc,WL,v,d',br,aw,he,aa⟩
 · subst aa
   simp only
   cases mh:nd P need ops r (f N).env.length (f N).env none (f N).h (f N).bu (f_ ops.toList 0 [] []) with
   |false=>trivial
   |true=>
    simp only
    have bO:=NY none mh (λe he=>by cases he) (λs al=>by rw[List.getElem?_eq_none (by omega)] at al;cases al)
    have e4:Hw X (.ok (f N).env (f N).d (f N).q (f N).h):=⟨λ_=>rfl,λcB=>by
     have An:N<ops.size:=cB
     omega⟩
    exact iP.Hv (X:=X) fB (Inv.order bO e4 k _ [] 0 μ df a cs ni hinv)
 · subst aa
   simp only
   have jh:s.i=N:=by
    have Hy:N<ops.size:=by have:=(List.getElem?_eq_some_iff.1 al).1;omega
    obtain⟨s',I,ae,_⟩:=AV (ops:=ops) ops.toList 0 [] [] (λk=>by simp) (ya hdr) (λj aO=>by omega) N _ (show ops.toList[N]? =some ops[N] by simp[Hy])
    rw[I] at al;cases al;omega
   have WM:N<ops.size:=by have:=(List.getElem?_eq_some_iff.1 al).1;omega
   cases mh:nd P need ops r (f N).env.length (f N).env (some s.i) (f N).h (f N).bu (f_ ops.toList 0 [] []) with
   |false=>trivial
   |true=>
    simp only
    have bO:=NY (some s.i) mh (λe he=>by cases he;exact⟨jh,WM⟩) (λs' en=>by rw[al] at en;cases en;exact⟨ay,bc,WL⟩)
    have e4:Hw X (.cw v d' br aw):=⟨λe=>by
     have dc:N=ops.size:=e
     omega,λ_ s' en=>by
     have lR:(f_ ops.toList 0 [] [])[N]? =some s':=en
     rw[al] at lR;cases lR
     exact⟨v,d',br,aw,he,rfl⟩⟩
    exact iP.Hv (X:=X) fB (Inv.order bO e4 k _ [] 0 μ df a cs ni hinv)
structure Fit(P:Program):Prop where
 mixed:P.follows .mixedOrders=true
 code:x6 P
 ext:DS P
theorem Hz(hf:Fit P){intr:Nat->List ad->ab->Option (ad×ab)}(hi:pN P intr)(n:Nat):kM P (fF P intr n):=
 Nu hi (λcall ah need b9=>NU hf.mixed ah need b9) hf.code hf.ext n
end
end bg
namespace bg
open Go Go.RowKit Go.ChangeShapes Go.WideShapes
section
variable {P:Program}
def WN(P:Program):Bool:=P.funcs.toList.all λfn=>match fn.body with
 |some c=>iM fn.ntmps c&&!(fn.name== "runtime.NumGoroutine")
 |none=>true
def WO(P:Program):Bool:=P.funcs.toList.all λfn=>match fn.body with
 |some _=>true
 |none=>!uv.contains fn.name||(Extern.findNext fn).isNone
theorem NZ{g:FuncId}{iL:Func}(h:P.funcs[g]? =some iL):iL∈P.funcs.toList:=by
 rw[<-Array.getElem?_toList] at h;exact List.mem_of_getElem? h
theorem A2(hm:P.follows .mixedOrders=true)(ah:WN P=true)(he:WO P=true):Fit P where
 mixed:=hm
 code:=λg iL gc ar ag=>by
  have:=List.all_eq_true.1 ah iL (NZ ar)
  rw[ag] at this
  simp only[Bool.and_eq_true,Bool.not_eq_true'] at this
  exact this
 ext:=λg iL ar ag aH=>by
  have:=List.all_eq_true.1 he iL (NZ ar)
  rw[ag] at this
  simp only[Bool.or_eq_true,Bool.not_eq_true',List.contains_eq_mem,decide_eq_false_iff_not] at this
  rcases this with h|h
  · exact absurd aH h
  · simpa using h
def A3(H:ab):Prop:=∀b o,H.get b=some o->o.rA=true
theorem cA.below{μ a9:bI}{H a6:ab}{W jO:World}(ao:A3 H)(au:bK μ H W)(h:cA μ H W a9 a6 jO):Below W.heap.size W jO:=by
 refine⟨h.os,h.tape,h.out,h.size,λr cB=>?_⟩
 by_cases he:∃b i,H.get b≠none/\μ b=some i/\i.bx=r
 · obtain⟨b,i,I,ae,rfl⟩:=he
   cases ar:H.get b with
   |none=>exact absurd ar I
   |some o=>exact(h.ro b o i ar (ao b o ar) ae).2
 · exact h.old r cB λb i I ae ax=>he ⟨b,i,I,ae,ax⟩
def A4(G:Nat):bI:=λb=>if b<G then some ⟨b,0,0⟩ else none
theorem WQ{W:World}(kP:P.globals.size<=W.heap.size):bK (A4 P.globals.size) (tQ P.globals.size) W/\iA P (A4 P.globals.size)/\A3 (tQ P.globals.size):=by
 have aH:∀b,(tQ P.globals.size).get b=none:=λb=>rfl
 refine⟨⟨λb o i h=>(by rw[aH] at h;cases h),λb c i j h=>absurd (aH b) h,λb i h=>?_,λb _=>aH b⟩,λg ar=>⟨⟨g,0,0⟩,by simp[A4,ar],rfl,rfl⟩,λb o h=>(by rw[aH] at h;cases h)⟩
 unfold A4 at h
 split at h
 · rename_i ag;cases h;exact⟨ag,Nat.lt_of_lt_of_le ag kP⟩
 · cases h
theorem WR(hf:Fit P){intr:Nat->List ad->ab->Option (ad×ab)}(hi:pN P intr){n:Nat}{f:Nat}{fn:Func}{c:Code}(pK:P.funcs[f]? =some fn)(ag:fn.body=some c){args:List ad}{H:ab}{v:ad}{a6:ab}
  (fB:fF P intr n (.fn f) args H=.ret v a6){μ:bI}{W:World}{vs:List Value}(au:bK μ H W)(ar:iA P μ)(aI:cG μ args vs):
  Calls P f ⟨vs⟩ W λe jO=>∃a9 u,e=.returned u/\bz a9 v u/\bK a9 a6 jO/\cA μ H W a9 a6 jO:=by
 have I:=(Hz hf hi n).fn f args H (by rw[fB];rfl) μ W vs au ar aI
 rw[fB] at I
 obtain⟨_,Hd⟩:=hf.code f fn c pK ag
 have he:=DO pK ag Hd ⟨vs⟩ W
 rcases I with⟨v',w',a8,_⟩|⟨_,a2⟩
 · rw[he] at a8;cases a8
 · exact a2.mono λe jO h=>h
def D6:bE->Bool
 |.ret (.bool true) _=>true
 |_=>false
theorem WS{r:bE}(h:D6 r=true):∃H,r=.ret (.bool true) H:=by
 unfold D6 at h
 split at h
 · exact⟨_,rfl⟩
 · cases h
theorem WT(hf:Fit P){intr:Nat->List ad->ab->Option (ad×ab)}(hi:pN P intr){n:Nat}{f:Nat}{fn:Func}{c:Code}(pK:P.funcs[f]? =some fn)(ag:fn.body=some c){args:List ad}{H:ab}
  (fB:D6 (fF P intr n (.fn f) args H)=true){μ:bI}{W:World}{vs:List Value}(au:bK μ H W)(ao:A3 H)(ar:iA P μ)(aI:cG μ args vs):
  Calls P f ⟨vs⟩ W λe jO=>e=.returned (.bool true)/\Below W.heap.size W jO:=by
 obtain⟨a6,e⟩:=WS fB
 exact(WR hf hi pK ag e au ar aI).mono λe jO ⟨a9,u,I,ae,ax,aN⟩=>⟨by cases ae;exact I,aN.below ao au⟩
def HA(P:Program):Bool:=match P.globals.size with
 |0=>true
 |g+1=>(((begin P (λ_ _=>0) default).world.heap[g]?).bind Obj.row?).isSome
theorem WU{W:World}(al:W.ShapedOpen P)(ag:HA P=true):P.globals.size<=W.heap.size:=by
 unfold HA at ag
 cases ar:P.globals.size with
 |zero=>exact Nat.zero_le _
 |succ g=>
  rw[ar] at ag
  simp only at ag
  obtain⟨⟨zero,t⟩,aa⟩:=Option.isSome_iff_exists.1 ag
  obtain⟨cs,I,_⟩:=al.1 g zero t (by omega) aa
  have:=(Array.getElem?_eq_some_iff.1 I).1
  omega
variable {H:Type} {enc:TypeId×Value->H}
theorem N0(aA:laidOutB P=true){W jO:World}(ag:Below W.heap.size W jO){sp:Nat->Bool}:∀{cF:List TypeId} {vs:List Value} {ds:List (DataW H)} {ps:List MemPlace},(∀t∈cF,P.readableRec t=true/\t<P.types.size)->
  DataW.TrodAll enc P W 0 (λ_=>true) true cF vs ds ps->(∀x∈ps,x.block<W.heap.size/\sp x.block=true)->DataW.TrodAll enc P jO 0 sp true cF vs ds ps
 |[],[],[],_,_,h,_=>h
 |_::_,_::_,_::_,_,qF,⟨p,q,I,ae,e⟩,al=>
  ⟨p,q,WideElems.Trod_stays aA (qF _ (by simp)).1 (qF _ (by simp)).2 I (λx aa=>ag.same (al x (by rw[e];simp[aa])).1) (λx aa=>(al x (by rw[e];simp[aa])).2),
    N0 aA ag (λt bm=>qF t (by simp[bm])) ae (λx aa=>al x (by rw[e];simp[aa])),e⟩
theorem WV{f:Func}{s:ChangeSpec}{apart fresh handsOn again:Bool}{W jO:World}{args:Array Value}{ds gs:List (DataW H)}{before:List MemPlace}{n4:TypeId}
  (aA:laidOutB P=true)(qF:∀t∈f.params.toList,P.readableRec t=true/\t<P.types.size)(jL:f.resultTypes=#[n4])(yi:P.underlying n4=some .bool)(HB:s.vars=[])
  (kP:DataW.Whole enc P f.params.toList s.vars apart W args.toList ds gs before)(pK:s.fn H ds={results:=[.lit (.bool true)],args:=ds})(ag:Below W.heap.size W jO):
  s.post enc P f apart fresh handsOn again W args (.bool true) jO:=by
 have cB:∀p∈before,p.block<W.heap.size:=λp a0=>kP.lt p a0
 have WW:=kP
 obtain⟨uE,GS,lz,HC,rfl,a7,aH⟩:=kP
 rw[HB] at HC
 obtain⟨rfl,rfl⟩:=trodVars_none HC
 have e:s.fn H (ds++[])={results:=[.lit (.bool true)],args:=ds}:=by rw[List.append_nil];exact pK
 have iQ:∀sp:Nat->Bool,(∀p∈uE++[],sp p.block=true)->DataW.TrodAll enc P jO 0 sp true f.params.toList args.toList ds uE:=λsp WX=>
  N0 aA ag qF lz (λx aa=>⟨cB x (by simp[aa]),WX x (by simp[aa])⟩)
 have gP:∀(b:Nat) (sp:Nat->Bool) (ai:Bool),DataW.TrodAll enc P jO b sp ai f.resultTypes.toList ((Value.bool true).resultList f.resultTypes.size) [.lit (.bool true)] []:=λb sp ai=>by
  rw[jL];exact trodAll_mk1 (shut_bool yi true)
 refine⟨ds,[],uE++[],[],uE,[],WW,?_,?_,?_,World.keptBut_mono (λp a0=>⟨a0,?_⟩) (ag.frame (· ∈uE++[])),λ_=>?_⟩
 · rw[e];exact gP _ _ _
 · rw[e];exact iQ _ λp a0=>by simpa using cB p a0
 · rw[e,HB];rfl
 · exact Or.inr (by simpa using a0)
 · refine⟨ok_one jL rfl (okWide_bool_mk yi true),_,_,([]++uE)++[],⟨[]++uE,[],trodAll_append (iQ _ (λ_ _=>rfl)) (gP _ _ _),show DataW.TrodVars enc P jO (λ_=>true) s.vars [] [] from by rw[HB];rfl,rfl,?_,?_⟩,?_⟩
   · intro b off a0
     have gp:MemPlace.cell b off∈uE++[]:=by simpa using a0
     rw[ag.frozen (cB _ gp)]
     exact a7 b off gp
   · intro aV
     simpa using aH aV
   · intro p a0 _
     simpa using a0
theorem WY{a:Assume}{C:Checked}{os:Os}{f:FuncId}{fn:Func}{s:ChangeSpec}{conds:List PathCond}{apart fresh handsOn again:Bool}{X:World->Array Value->Prop}
  (bO:∀(w w':World) (args:Array Value),w.heap=w'.heap->X w args->X w' args)
  (own:ownKnob C.prog.godebug=none)(started:os.Started)(WZ:C.prog.inits.idxOf? f=none)(pK:C.prog.funcs[f]? =some fn)
  (witness:∃(w:World) (tape:Tape) (i:Input),w.os=os/\(w.forCall tape i).Shaped C.prog/\i.vars=[]/\Input.okWide C.prog (w.forCall tape i) .any w.heap.size f i/\
   ((s.pre enc C.prog fn conds apart (w.forCall tape i).memory i.args/\X (w.forCall tape i).memory i.args)/\sizedMet enc C.prog fn (OpenSpec.ofChange s) apart (w.forCall tape i).memory i.args)/\a.holds C.prog (lone (Frame.enter C.prog f i.args .normal) [] (w.forCall tape i)))
  (W0:∀(W:World) (base:Nat) (args:Array Value) (ds gs:List (DataW H)) (before:List MemPlace),
   (∀(j:Nat) t v,fn.params[j]? =some t->args[j]? =some v->Value.okWide C.prog W .any base t v)->
   DataW.Whole enc C.prog fn.params.toList s.vars apart W args.toList ds gs before->
   (DataW.weightsEach C.prog (fn.params.toList++s.plain.varTypes C.prog) (ds++gs)).all (· <=reachBytes)=true->X W args->W.ShapedOpen C.prog->
   Calls C.prog f args W λe jO=>∃v,e=.returned v/\s.post enc C.prog fn apart fresh handsOn again W args v jO):
  ReturnsInHanded a C os f .any (λw args=>(s.pre enc C.prog fn conds apart w args/\X w args)/\sizedMet enc C.prog fn (OpenSpec.ofChange s) apart w args) (s.post enc C.prog fn apart fresh handsOn again):=by
 refine returnsInHanded_of_calls own started WZ witness ?_
 intro w tape i _ mj _ di W1 ajC
 obtain⟨_,_,_,Gn,W2,_,_,_,_,nZ⟩:=di
 have e:Gn=fn:=Option.some.inj (W2.symm.trans pK)
 subst e
 obtain⟨⟨⟨ds,gs,before,hw,ah⟩,aa⟩,a7⟩:=W1
 have W3:=DataW.Whole.of_heap (w':=w.forCall tape i) (by rfl) hw
 refine(W0 (w.forCall tape i) w.heap.size i.args ds gs before nZ W3 (a7.weights hw) (bO _ _ _ (by rfl) aa) mj).mono λe jO ⟨v,he,a0⟩=>?_
 subst he
 exact ChangeSpec.post_blind a0
end
end bg
namespace bg
open Go Go.RowKit
mutual
def oZ:ad->Bool
 |.bool _=>true
 |.int _ _=>true
 |.str _=>true
 |.aX=>true
 |.aP=>true
 |.jw=>true
 |.gW=>true
 |.fU=>true
 |.fn _ a b=>uF a&&uF b
 |.iface _ v=>oZ v
 |.agg cs=>uF cs
 |.aR vs=>uF vs
 |_=>false
def uF:List ad->Bool
 |[]=>true
 |v::vs=>oZ v&&uF vs
end
mutual
theorem HD{μ a9:bI}:∀(a:ad) (v:Value),oZ a=true->bz μ a v->bz a9 a v
 |.bool _,v,_,h=>h
 |.int _ _,v,_,h=>h
 |.str _,v,_,h=>h
 |.aX,v,_,h=>h
 |.aP,v,_,h=>h
 |.jw,v,_,h=>h
 |.gW,v,_,h=>h
 |.fU,v,_,h=>h
 |.fn f a b,v,ao,h=>by
  simp only[oZ,Bool.and_eq_true] at ao
  obtain⟨b6,cs,e,I,ae⟩:=h
  exact⟨b6,cs,e,yj _ _ ao.1 I,yj _ _ ao.2 ae⟩
 |.iface t x,v,ao,h=>by
  simp only[oZ] at ao
  obtain⟨y,e,I⟩:=h
  exact⟨y,e,HD _ _ ao I⟩
 |.agg cs,v,ao,h=>by
  simp only[oZ] at ao
  obtain⟨l,e,I⟩:=h
  exact⟨l,e,yj _ _ ao I⟩
 |.aR cs,v,ao,h=>by
  simp only[oZ] at ao
  obtain⟨l,e,I⟩:=h
  exact⟨l,e,yj _ _ ao I⟩
 |.bad,v,ao,h=>by simp[oZ] at ao
 |.ptr _ _,v,ao,h=>by simp[oZ] at ao
 |.slice _ _ _ _,v,ao,h=>by simp[oZ] at ao
 |.map _,v,ao,h=>by simp[oZ] at ao
 |.eb _,v,ao,h=>by simp[oZ] at ao
theorem yj{μ a9:bI}:∀(as:List ad) (vs:List Value),uF as=true->cG μ as vs->cG a9 as vs
 |[],vs,_,h=>h
 |a::as,vs,ao,h=>by
  simp only[uF,Bool.and_eq_true] at ao
  obtain⟨v,sN,e,I,ae⟩:=h
  exact⟨v,sN,e,HD a v ao.1 I,yj as sN ao.2 ae⟩
end
structure sU where
 f:Nat
 args:List ad
 v:ad
def sV:List sU->Nat->List ad->ab->Option (ad×ab)
 |[],_,_,_=>none
 |e::T,f,args,h=>match Nat.beq f e.f with
  |true=>match ad.px args e.args with
   |true=>some (e.v,h)
   |false=>sV T f args h
  |false=>sV T f args h
theorem N1:∀(T:List sU) (f:Nat) (args:List ad) (h:ab) (v:ad) (aw:ab),sV T f args h=some (v,aw)->aw=h/\∃e∈T,e.f=f/\e.args=args/\e.v=v
 |[],f,args,h,v,aw,aa=>by cases aa
 |e::T,f,args,h,v,aw,aa=>by
  simp only[sV] at aa
  have rest:sV T f args h=some (v,aw)->aw=h/\∃dc∈e::T,dc.f=f/\dc.args=args/\dc.v=v:=λaa=>by
   obtain⟨I,dc,ae,ax⟩:=N1 T f args h v aw aa
   exact⟨I,dc,List.mem_cons_of_mem _ ae,ax⟩
  split at aa
  · rename_i hf
    split at aa
    · rename_i aV
      cases aa
      exact⟨rfl,e,by simp,(Nat.eq_of_beq_eq_true hf).symm,(yc _ _ aV).symm,rfl⟩
    · exact rest aa
  · exact rest aa
section
variable {P:Program}
def HE(P:Program)(intr:Nat->List ad->ab->Option (ad×ab))(n:Nat)(e:sU):Bool:=
 match fF P intr n (.fn e.f) e.args (tQ P.globals.size) with
 |.ret v _=>ad.beq v e.v&&oZ e.v&&uF e.args
 |_=>false
def wi(P:Program)(e:sU):Prop:=∃(intr:Nat->List ad->ab->Option (ad×ab)) (n:Nat),pN P intr/\HE P intr n e=true
theorem vV.mono{f:FuncId}{vs:List Value}{w:World}{R cC:Ending->World->Prop}(h:∀e w',R e w'->cC e w')(ar:vV P f vs w R):vV P f vs w cC:=by
 rcases ar with⟨v,w',I,ae⟩|⟨I,ae⟩
 · exact .inl ⟨v,w',I,h _ _ ae⟩
 · exact .inr ⟨I,ae.mono λe w' he=>h e w' he⟩
theorem N2(hf:Fit P){T:List sU}(qF:∀e∈T,wi P e):pN P (sV T):=by
 intro f args H v a6 aa μ w vs au ar aI
 obtain⟨rfl,e,he,rfl,rfl,rfl⟩:=N1 T f args H v a6 aa
 obtain⟨intr,n,hi,ag⟩:=qF e he
 unfold HE at ag
 split at ag
 · rename_i v1 H1 fB
   simp only[Bool.and_eq_true] at ag
   obtain⟨⟨g2,fh⟩,W4⟩:=ag
   have W5:=beq_eq _ _ g2
   subst W5
   have fR:P.globals.size<=w.heap.size:=by
    cases bJ:P.globals.size with
    |zero=>exact Nat.zero_le _
    |succ g=>
     obtain⟨i,I,ae,ax⟩:=ar g (by omega)
     have:=(au.lt _ i I).2
     omega
   obtain⟨s1,s2,b1⟩:=WQ (P:=P) fR
   have kb:=(Hz hf hi n).fn e.f e.args (tQ P.globals.size) (by rw[fB];rfl) (A4 P.globals.size) w vs s1 s2 (yj _ _ W4 aI)
   rw[fB] at kb
   refine kb.mono λpJ w' rH=>?_
   obtain⟨a9,u,rfl,a8,a2,bX⟩:=rH
   have hold:∀r,r<w.heap.size->w'.heap[r]? =w.heap[r]? :=λr ao=>bX.old r ao λb i aA=>absurd rfl aA
   refine⟨μ,u,rfl,HD _ _ fh a8,⟨λb o i ag hi=>(au.rel b o i ag hi).mono (ga.refl μ) (hold _ (au.lt b i hi).2),au.inj,λb i hi=>⟨(au.lt b i hi).1,Nat.lt_of_lt_of_le (au.lt b i hi).2 bX.size⟩,au.bound⟩,?_⟩
   exact⟨ga.refl μ,bX.size,Nat.le_refl _,λ_ _ aA=>aA,λ_ _ _=>rfl,λr ao _=>hold r ao,(λb i I ae=>by rw[I] at ae;cases ae),λb o i ag _ hi=>⟨ag,hold _ (au.lt b i hi).2⟩,bX.os,bX.out,bX.tape,bX.drawn⟩
 · cases ag
def A5(P:Program):List sU->Prop
 |[]=>True
 |e::T=>wi P e/\A5 P T
theorem A5.ok:∀{T:List sU},A5 P T->∀e∈T,wi P e
 |[],_,e,he=>by cases he
 |x::T,h,e,he=>by
  rcases List.mem_cons.1 he with rfl|he
  · exact h.1
  · exact A5.ok h.2 e he
theorem N3(hf:Fit P){T:List sU}(qF:A5 P T){n:Nat}{e:sU}(h:HE P (sV T) n e=true):wi P e:=⟨sV T,n,N2 hf qF.ok,h⟩
end
end bg
namespace bg
open Go
def sW(G:Nat)(is:List fO):bI:=λb=>if b<G then some ⟨b,0,0⟩ else is[b-G]?
def yk(h:ab)(r:List ad×Nat):ab:=h.push (.cells r.1 r.2 .ro 0 0)
def wj(G:Nat)(rows:List (List ad×Nat)):ab:=rows.foldl yk (tQ G)
theorem HF:∀(rows:List (List ad×Nat)) (h:ab),(∀b,h.n<=b->h.get b=none)->(rows.foldl yk h).n=h.n+rows.length/\∀b,(rows.foldl yk h).get b=if b<h.n then h.get b else(rows[b-h.n]?).map λr=>.cells r.1 r.2 .ro 0 0
 |[],h,ag=>⟨rfl,λb=>by
  split
  · rfl
  · rename_i aH;simpa using ag b (by omega)⟩
 |r::rows,h,ag=>by
  have aH:(yk h r).n=h.n+1:=rfl
  have ar:∀b,(yk h r).get b=if b=h.n then some (.cells r.1 r.2 .ro 0 0) else h.get b:=λb=>ab.hr _ _ _
  obtain⟨a8,a2⟩:=HF rows (yk h r) λb I=>by rw[ar,if_neg (by omega)];exact ag b (by omega)
  refine⟨by rw[List.foldl_cons,a8,aH,List.length_cons];omega,λb=>?_⟩
  rw[List.foldl_cons,a2,aH,ar]
  by_cases I:b<h.n
  · rw[if_pos (by omega),if_neg (by omega),if_pos I]
  · rw[if_neg I]
    by_cases ae:b=h.n
    · subst ae;rw[if_pos (by omega),if_pos rfl,Nat.sub_self];rfl
    · rw[if_neg (by omega)]
      obtain⟨k,rfl⟩:∃k,b=h.n+(k+1):=⟨b-h.n-1,by omega⟩
      have aG:h.n+(k+1)-(h.n+1)=k:=by omega
      have aE:h.n+(k+1)-h.n=k+1:=by omega
      rw[aG,aE];rfl
theorem HG(G:Nat)(rows:List (List ad×Nat)):(wj G rows).n=G+rows.length:=(HF rows (tQ G) λ_ _=>rfl).1
theorem HH(G:Nat)(rows:List (List ad×Nat))(b:Nat):(wj G rows).get b=if b<G then none else(rows[b-G]?).map λr=>.cells r.1 r.2 .ro 0 0:=(HF rows (tQ G) λ_ _=>rfl).2 b
def HI(W:World)(i:fO)(cs:List ad)(el:Nat):Prop:=∃c fz,W.heap[i.bx]? =some (.cells c el fz)/\(∀μ,De μ cs c i.base)/\i.base+i.size=c.size
theorem W6{P:Program}{l:List (fO×List ad×Nat)}{k:Nat}{x:fO×List ad×Nat}(h:l[k]? =some x):sW P.globals.size (l.map (·.1)) (P.globals.size+k)=some x.1:=by
 unfold sW
 rw[if_neg (by omega),Nat.add_sub_cancel_left,List.getElem?_map,h];rfl
theorem W7{P:Program}{l:List (fO×List ad×Nat)}{k:Nat}{x:fO×List ad×Nat}(h:l[k]? =some x):(wj P.globals.size (l.map (·.2))).get (P.globals.size+k)=some (.cells x.2.1 x.2.2 .ro 0 0):=by
 rw[HH,if_neg (by omega),Nat.add_sub_cancel_left,List.getElem?_map,h];rfl
end bg
namespace bg
open Go
end bg
