/-
  THE ABSTRACT EVALUATOR (drawn regions; a run of the evaluator is a run of the program): a deterministic semantics of loaded code, and the proof that its runs are runs of the program in the model, whatever the tape draws. No condition.
-/
import Derived.Test.YtokgebablggccaaGreatDoorAec
import Derived.Handed
import Derived.ProofKit
import Derived.Below
import Derived.ChangeSame
import Derived.SliceStrings
import Derived.WideShapes
set_option linter.unusedVariables false
set_option linter.unusedSimpArgs false
namespace aJ
open Go
variable {H:I}{O:Obj}{S:List Nat}{b i k sz:Nat}{ob:b5}{s:DStep}{w:World}{μ:bG}
structure jE where
 P:Program
 need:Nat
 cQ:Nat
 inR:Bool
 call:ht->List aa->I->a8
 ops:Array Oper
 r:bf
 b:Frame
 p9:bG
 H:I
 w0:World
 cs0:List Frame
 N:Nat
 f:Nat->yc
def jE.steps(X:jE):List DStep:=fW X.ops.toList 0 [] []
def jE.val(X:jE)(j:Nat):aa:=(nth (X.N-1-j) (X.f X.N).env).getD .bad
structure hl(X:jE):Prop where
 ak:pf X.P X.call
 eF:X.inR=X.b.roundOf.isSome
 tl:∀o∈X.ops.toList,∀t,o.dst=some t->t<X.cQ
 hdr:uv X.ops X.steps=true
 eo:X.N<=X.ops.size
 wy:∀k s,k<X.N->X.steps[k]? =some s->yd X.P X.need X.inR X.call X.ops X.r X.H.n s (X.f k) (X.f (k+1))
 Y2:(X.f 0).env=[]
 wz:(X.f 0).bp=[]
 looks:∀i s,i<X.N->X.steps[i]? =some s->kindOf X.P s.o.op=.pure->∃nx,nD X.P X.need X.ops X.r X.N (X.f X.N).env s (X.val i) nx (X.f X.N).h (X.f X.N).bp=true/\(∀e,nx=some e->e=X.N/\X.N<X.ops.size)
 last:∀s,X.steps[X.N]? =some s->kindOf X.P s.o.op=.fq/\(∀e m h0 l,(X.f X.N).bp=(e,m,h0)::l->Nat.testBit s.fL e=true)/\∀k bF,X.N<k->X.steps[k]? =some bF->Nat.testBit bF.fL s.i=true
 ti:j1 X.P X.p9
 ha:bI X.p9 X.H X.w0
section
variable {X:jE}
theorem hl.pj(bk:hl X)(hi:i<X.ops.size):∃s,X.steps[i]? =some s/\s.i=i/\X.ops[i]? =some s.o/\s.loc=kY (X.ops.toList.take i) 0 []/\Sound X.ops i s.fL:=by
 have bg:X.ops.toList[i]? =some X.ops[i]:=by simp[hi]
 obtain⟨s,J,ae,aq,aQ,bj⟩:=CA (ops:=X.ops) X.ops.toList 0 [] [] (λk=>by simp) (Ai bk.hdr) (λj aL=>by omega) i _ bg
 refine⟨s,J,by omega,by rw[aq];exact Array.getElem?_eq_getElem hi,aQ,by simpa using bj⟩
theorem hl.m4(bk:hl X)(h:X.steps[i]? =some s):i<X.ops.size/\s.i=i/\X.ops[i]? =some s.o/\s.loc=kY (X.ops.toList.take i) 0 []/\Sound X.ops i s.fL:=by
 have hi:i<X.ops.size:=by
  have J:=(List.getElem?_eq_some_iff.1 h).1
  rw[jE.steps,JD] at J
  simpa using J
 obtain⟨bF,J,ae⟩:=bk.pj hi
 rw[h] at J;cases J
 exact⟨hi,ae⟩
theorem hl.apart(bk:hl X){j:Nat}{bF:DStep}(p8:i<j)(J:X.steps[i]? =some s)(ae:X.steps[j]? =some bF)(h:(∃t,s.o.dst=some t/\t∈o7 X.ops bF.o)\/(∃t,bF.o.dst=some t/\t∈o7 X.ops s.o)):Nat.testBit bF.fL i=true:=by
 have:=PD bk.hdr i j s bF p8 J ae h
 rw[(bk.m4 J).2.1] at this;exact this
theorem hl.FU(bk:hl X):∀k,k<=X.N->(X.f k).env.length=k
 |0,_=>by rw[bk.Y2];rfl
 |k+1,ai=>by
  obtain⟨s,J,_⟩:=bk.pj (i:=k) (by have:=bk.eo;omega)
  have bM:=bk.FU k (by omega)
  have aI:=bk.wy k s (by omega) J
  generalize X.f (k+1)=st at aI
  cases aI<;>simp[bM]
theorem hl.PH(bk:hl X)(k:Nat):∀m,k<=m->m<=X.N->∃l,(X.f m).env=l++(X.f k).env
 |0,J,ae=>⟨[],by obtain rfl:k=0:=by omega
                 rfl⟩
 |m+1,J,ae=>by
  by_cases e:k=m+1
  · exact⟨[],by rw[e];rfl⟩
  · obtain⟨l,aA⟩:=bk.PH k m (by omega) (by omega)
    obtain⟨s,ah,_⟩:=bk.pj (i:=m) (by have:=bk.eo;omega)
    have aI:=bk.wy m s (by omega) ah
    have:∃v,(X.f (m+1)).env=v::(X.f m).env:=by
     generalize X.f (m+1)=st at aI
     cases aI<;>exact⟨_,rfl⟩
    obtain⟨v,aW⟩:=this
    exact⟨v::l,by rw[aW,aA];rfl⟩
theorem PI{α:Type}:∀(l m:List α) (k:Nat),nth (l.length+k) (l++m)=nth k m
 |[],m,k=>by simp
 |a::l,m,k=>by
  have:(a::l).length+k=(l.length+k)+1:=by simp;omega
  rw[this];exact PI l m k
theorem hl.JE(bk:hl X){j:Nat}(ai:k<=X.N)(aL:j<k):nth (k-1-j) (X.f k).env=nth (X.N-1-j) (X.f X.N).env:=by
 obtain⟨l,aA⟩:=bk.PH k X.N ai (Nat.le_refl _)
 have J:=bk.FU k ai
 have ae:=bk.FU X.N (Nat.le_refl _)
 rw[aA] at ae⊢
 simp only[List.length_append,J] at ae
 have:X.N-1-j=l.length+(k-1-j):=by omega
 rw[this,PI]
theorem hl.CB(bk:hl X)(ai:k<X.N){v:aa}(h:(X.f (k+1)).env=v::(X.f k).env):X.val k=v:=by
 have J:=bk.JE (k:=k+1) (j:=k) ai (Nat.lt_succ_self k)
 unfold jE.val
 rw[<-J,h]
 simp[nth]
theorem hl.FV(bk:hl X)(ai:k<=X.N){a:Acc}(a_:a.below k):ed k (X.f k).env X.r a=ed X.N (X.f X.N).env X.r a:=by
 cases a with
 |env j=>simp only[ed];rw[bk.JE ai a_]
 |o3 p=>rfl
 |val v=>rfl
theorem CC(l:List Oper)(t:Nat):∀k,k<=l.length->
  (∀a,kD t (kY (l.take k) 0 [])=some a->∃j o,j<k/\a=.env j/\l[j]? =some o/\o.dst=some t/\∀k1 o',j<k1->k1<k->l[k1]? =some o'->o'.dst≠some t)/\
  (kD t (kY (l.take k) 0 [])=none->∀j o,j<k->l[j]? =some o->o.dst≠some t)
 |0,_=>⟨λa h=>by simp[kY,kD] at h,λ_ j o aL=>by omega⟩
 |k+1,ai=>by
  obtain⟨FW,FX⟩:=CC l t k (by omega)
  have bg:l[k]? =some l[k]:=List.getElem?_eq_getElem (by omega)
  rw[PB l 0 [] k l[k] bg,Nat.zero_add]
  unfold o4
  cases aH:(l[k]).dst with
  |none=>
   refine⟨λa h=>?_,λh j o aL pZ=>?_⟩
   · obtain⟨j,o,J,ae,aq,aQ,bj⟩:=FW a h
     refine⟨j,o,by omega,ae,aq,aQ,λk1 o' aV aU bu=>?_⟩
     by_cases e:k1=k
     · subst e;rw[bg] at bu;cases bu;rw[aH];simp
     · exact bj k1 o' aV (by omega) bu
   · by_cases e:j=k
     · subst e;rw[bg] at pZ;cases pZ;rw[aH];simp
     · exact FX h j o (by omega) pZ
  |some d=>
   simp only[sb]
   by_cases e:t=d
   · subst e
     refine⟨λa h=>?_,λh=>by simp at h⟩
     simp at h;subst h
     exact⟨k,_,by omega,rfl,bg,aH,λk1 o' aV aU=>by omega⟩
   · simp only[e,if_false]
     refine⟨λa h=>?_,λh j o aL pZ=>?_⟩
     · obtain⟨j,o,J,ae,aq,aQ,bj⟩:=FW a h
       refine⟨j,o,by omega,ae,aq,aQ,λk1 o' aV aU bu=>?_⟩
       by_cases aE:k1=k
       · subst aE;rw[bg] at bu;cases bu;rw[aH];simp;exactλb0=>e b0.symm
       · exact bj k1 o' aV (by omega) bu
     · by_cases aE:j=k
       · subst aE;rw[bg] at pZ;cases pZ;rw[aH];simp;exactλb0=>e b0.symm
       · exact FX h j o (by omega) pZ
def jE.yf(X:jE)(S:List Nat)(μ:bG)(cH:Array Value):Prop:=∀t,
 (∀j o,j∈S->X.ops[j]? =some o->o.dst=some t->(∀k o',k∈S->X.ops[k]? =some o'->o'.dst=some t->k<=j)->bq μ (X.val j) (cH.getD t undef))/\
 ((∀j o,j∈S->X.ops[j]? =some o->o.dst≠some t)->Nat.testBit X.need t=true->bq μ (X.r.get (jB t)) (cH.getD t undef))
theorem jE.yf.mono{a2:bG}{cH:Array Value}(hle:fE μ a2)(h:X.yf S μ cH):X.yf S a2 cH:=λt=>⟨λj o J ae aq aQ=>((h t).1 j o J ae aq aQ).mono hle,λJ ae=>((h t).2 J ae).mono hle⟩
theorem hl.PJ(bk:hl X)(kj:FT X.ops S){cH:Array Value}(aj:X.yf S μ cH)(hi:i<=X.N)(eT:i∉S)(dC:m3 X.ops S i)(ah:X.steps[i]? =some s){t:Nat}(aI:t∈o7 X.ops s.o):
  bq μ (ed i (X.f i).env X.r (c7 X.P X.need s.loc (.tmp t))) (cH.getD t undef):=by
 obtain⟨eF,jF,hk,pk,nG⟩:=bk.m4 ah
 obtain⟨f1,f2⟩:=CC X.ops.toList t i (by simp;omega)
 have PK:∀k o',k∈S->X.ops[k]? =some o'->o'.dst=some t->k<i:=λk o' ai ko aH=>by
  have Aj:k<X.ops.size:=(Array.getElem?_eq_some_iff.1 ko).1
  rcases Nat.lt_trichotomy k i with h|h|h
  · exact h
  · subst h;exact absurd ai eT
  · obtain⟨bF,aV,aU,bu,e7,gL⟩:=bk.pj Aj
    rw[ko] at bu;cases bu
    have:=bk.apart h ah aV (.inr ⟨t,aH,aI⟩)
    exact absurd (gL S kj (kj k ai) i this) eT
 simp only[c7,pk]
 cases aM:kD t (kY (X.ops.toList.take i) 0 []) with
 |some a=>
  obtain⟨j,o,aL,rfl,pZ,aH,vW⟩:=f1 a aM
  have PL:X.ops[j]? =some o:=by simpa using pZ
  obtain⟨bF,aV,aU,bu,e7,gL⟩:=bk.pj (i:=j) (by omega)
  rw[PL] at bu;cases bu
  have Ak:j∈S:=nG S kj dC j (bk.apart aL aV ah (.inl ⟨t,aH,aI⟩))
  have:=(aj t).1 j _ Ak PL aH λk o' ai ko p4=>by
   have JF:=PK k o' ai ko p4
   rcases Nat.lt_or_ge j k with h|h
   · exact absurd p4 (vW k o' h JF (by simpa using ko))
   · exact h
  have aW:ed i (X.f i).env X.r (.env j)=X.val j:=by
   simp only[ed,jE.val]
   rw[bk.JE hi aL]
  simp only[aW];exact this
 |none=>
  simp only[]
  cases ag:Nat.testBit X.need t with
  |false=>trivial
  |true=>
   exact(aj t).2 (λj o aL bg aH=>f2 aM j o (PK j o aL bg aH) (by simpa using bg) aH) ag
theorem hl.PM(bk:hl X)(kj:FT X.ops S){a:Act}(bQ:a.tmps.size=X.cQ)(aj:X.yf S μ a.tmps)(eT:i∉S)(dC:m3 X.ops S i)(ah:X.steps[i]? =some s){u:Value}(hu:bq μ (X.val i) u):
  X.yf (i::S) μ (a.put s.o.dst u).tmps:=by
 obtain⟨eF,jF,hk,pk,nG⟩:=bk.m4 ah
 have cf:∀t,s.o.dst=some t->t<a.tmps.size:=λt h=>by
  rw[bQ];exact bk.tl s.o (by rw[<-Array.getElem?_toList] at hk;exact List.mem_of_getElem? hk) t h
 intro t
 by_cases aH:s.o.dst=some t
 · have eG:(a.put s.o.dst u).tmps.getD t undef=u:=by
     rw[aH];simp only[Act.put];rw[Cs (cf t aH),if_pos rfl]
   have Y3:∀k o',k∈S->X.ops[k]? =some o'->o'.dst=some t->k<i:=λk o' ai ko p4=>by
    have Aj:k<X.ops.size:=(Array.getElem?_eq_some_iff.1 ko).1
    rcases Nat.lt_trichotomy k i with h|h|h
    · exact h
    · subst h;exact absurd ai eT
    · obtain⟨bF,aV,aU,bu,e7,gL⟩:=bk.pj Aj
      rw[ko] at bu;cases bu
      have:=bk.apart h ah aV (.inr ⟨t,p4,by simp[o7,aH]⟩)
      exact absurd (gL S kj (kj k ai) i this) eT
   refine⟨λj o aL bg FY Cm=>?_,λCD=>absurd aH (CD i s.o (by simp) hk)⟩
   have p8:=Cm i s.o (by simp) hk aH
   rcases List.mem_cons.1 aL with rfl|aL
   · rw[eG];exact hu
   · have:=Y3 j o aL bg FY;omega
 · have eG:(a.put s.o.dst u).tmps.getD t undef=a.tmps.getD t undef:=by
     cases sg:s.o.dst with
     |none=>rfl
     |some d=>
      simp only[Act.put]
      rw[Cs (cf d sg),if_neg (λe=>aH (by rw[sg,e]))]
   rw[eG]
   refine⟨λj o aL bg FY Cm=>?_,λCD ag=>(aj t).2 (λj o aL bg=>CD j o (by simp[aL]) bg) ag⟩
   rcases List.mem_cons.1 aL with rfl|aL
   · rw[hk] at bg;cases bg;exact absurd FY aH
   · exact(aj t).1 j o aL bg FY λk o' ai ko p4=>Cm k o' (by simp[ai]) ko p4
def uA(μ:bG)(w:World)(b:Nat)(ob:b5):Prop:=∃i O,μ b=some i/\w.heap[i.bo]? =some O/\(∀a2 w',fE μ a2->w'.heap[i.bo]? =some O->qZ a2 ob i w')/\(∀c j,c≠b->μ c=some j->j.bo≠i.bo)
theorem bI.FZ(h:bI μ H w)(ag:b<H.n)(a3:μ b=none\/uA μ w b ob):bI μ (H.set b (some ob)) w:=by
 refine⟨λc o i ak hi=>?_,λc d i j ak aH hi aL e=>?_,λc i hi=>h.lt c i hi,λc ak=>?_⟩
 · rw[I.fk] at ak
   by_cases e:c=b
   · subst e
     rw[if_pos rfl] at ak;cases ak
     rcases a3 with a3|⟨wA,O,J,ae,aq,aQ⟩
     · rw[a3] at hi;cases hi
     · rw[J] at hi;cases hi
       exact aq μ w (fE.refl μ) ae
   · rw[if_neg e] at ak;exact h.rel c o i ak hi
 · rw[I.fk] at ak aH
   by_cases aG:c=b
   · by_cases aE:d=b
     · rw[aG,aE]
     · subst aG
       rcases a3 with a3|⟨wA,O,J,ae,aq,aQ⟩
       · rw[a3] at hi;cases hi
       · rw[J] at hi;cases hi
         exact absurd e.symm (aQ d j aE aL)
   · by_cases aE:d=b
     · subst aE
       rcases a3 with a3|⟨wA,O,J,ae,aq,aQ⟩
       · rw[a3] at aL;cases aL
       · rw[J] at aL;cases aL
         exact absurd e (aQ c i aG hi)
     · rw[if_neg aG] at ak;rw[if_neg aE] at aH
       exact h.inj c d i j ak aH hi aL e
 · rw[I.fk,if_neg (by simp at ak;omega)];exact h.bound c (by simpa using ak)
theorem cD.FZ{p9:bG}{CE:I}{w0:World}(ar:bI p9 H w0)(h:cD p9 H w0 μ CE w)(ob:b5)(ag:H.n<=b):cD p9 H w0 μ (CE.set b (some ob)) w where
 le:=h.le
 size:=h.size
 n:=by simpa using h.n
 live:=λc ak aA=>h.live c ak (by rw[I.fk,if_neg (by omega)] at aA;exact aA)
 idle:=λc ak hm=>by rw[I.fk,if_neg (by omega)];exact h.idle c ak hm
 old:=h.old
 new:=h.new
 ro:=λc o i ak aj hi=>by
  have:=(ar.lt c i hi).1
  rw[I.fk,if_neg (by omega)];exact h.ro c o i ak aj hi
 os:=h.os
 out:=h.out
 tape:=h.tape
 drawn:=h.drawn
theorem bI.early(h:bI μ H w)(ag:b<H.n)(hm:μ b=none)(bg:∀o,H.get b=some o->o=ob)
  (Y4:∀a2 w',fE μ a2->w'.heap[w.heap.size]? =some O->qZ a2 ob ⟨w.heap.size,0,sz⟩ w'):fE μ (h6 μ b ⟨w.heap.size,0,sz⟩)/\bI (h6 μ b ⟨w.heap.size,0,sz⟩) H (w.alloc O):=by
 have hle:fE μ (h6 μ b ⟨w.heap.size,0,sz⟩):=λc i hi=>by
  rw[js];exact hi
  intro e;subst e;rw[hm] at hi;cases hi
 have hold:∀r,r<w.heap.size->(w.alloc O).heap[r]? =w.heap[r]? :=λr aj=>by
  simp only[World.alloc,Array.getElem?_push];rw[if_neg (by omega)]
 refine⟨hle,λc o i ak hi=>?_,λc d i j ak aH hi aL e=>?_,λc i hi=>?_,h.bound⟩
 · by_cases e:c=b
   · subst e
     rw[h7] at hi;cases hi
     rw[bg o ak]
     exact Y4 _ _ hle (World.heap_alloc_new _ _)
   · rw[js _ _ e] at hi
     exact(h.rel c o i ak hi).mono hle (hold _ (h.lt c i hi).2)
 · by_cases aG:c=b
   · by_cases aE:d=b
     · rw[aG,aE]
     · subst aG;rw[h7] at hi;cases hi
       rw[js _ _ aE] at aL
       have:=(h.lt d j aL).2
       simp only at e;omega
   · by_cases aE:d=b
     · subst aE;rw[h7] at aL;cases aL
       rw[js _ _ aG] at hi
       have:=(h.lt c i hi).2
       simp only at e;omega
     · rw[js _ _ aG] at hi;rw[js _ _ aE] at aL
       exact h.inj c d i j ak aH hi aL e
 · by_cases e:c=b
   · subst e;rw[h7] at hi;cases hi
     exact⟨ag,by simp⟩
   · rw[js _ _ e] at hi
     have:=h.lt c i hi
     simp only[World.size_alloc];omega
theorem cD.early{p9:bG}{CE:I}{w0:World}(ar:bI p9 H w0)(h:cD p9 H w0 μ CE w)(ag:H.n<=b)(hm:μ b=none):cD p9 H w0 (h6 μ b ⟨w.heap.size,0,sz⟩) CE (w.alloc O):=by
 have hold:∀r,r<w.heap.size->(w.alloc O).heap[r]? =w.heap[r]? :=λr aj=>by
  simp only[World.alloc,Array.getElem?_push];rw[if_neg (by omega)]
 exact{
  le:=λc i hi=>by
   have J:=h.le c i hi
   rw[js];exact J
   intro e;subst e;rw[hm] at J;cases J
  size:=by have:=h.size;simp only[World.size_alloc];omega
  n:=h.n
  live:=h.live
  idle:=h.idle
  old:=λr aj aT=>(hold r (Nat.lt_of_lt_of_le aj h.size)).trans (h.old r aj aT)
  new:=λc i J ae=>by
   by_cases e:c=b
   · subst e;rw[h7] at ae;cases ae;exact⟨ag,.inl h.size⟩
   · rw[js _ _ e] at ae;exact h.new c i J ae
  ro:=λc o i ak aj hi=>by
   obtain⟨J,ae⟩:=h.ro c o i ak aj hi
   exact⟨J,(hold _ (Nat.lt_of_lt_of_le (ar.lt c i hi).2 h.size)).trans ae⟩
  os:=h.os
  out:=h.out
  tape:=h.tape
  drawn:=h.drawn}
theorem uA.early(h:bI μ H w){c:Nat}(hm:μ b=none)(a3:uA μ w c ob):uA (h6 μ b ⟨w.heap.size,0,sz⟩) (w.alloc O) c ob:=by
 obtain⟨i,gj,J,ae,aq,aQ⟩:=a3
 have dk:c≠b:=by intro e;subst e;rw[hm] at J;cases J
 have cf:=(h.lt c i J).2
 have hle:fE μ (h6 μ b ⟨w.heap.size,0,sz⟩):=λc i hi=>by
  rw[js];exact hi
  intro e;subst e;rw[hm] at hi;cases hi
 refine⟨i,gj,by rw[js _ _ dk];exact J,?_,λa2 w' aA cJ=>aq a2 w' (hle.trans aA) cJ,λd j aH aL=>?_⟩
 · simp only[World.alloc,Array.getElem?_push];rw[if_neg (by omega)];exact ae
 · by_cases e:d=b
   · subst e;rw[h7] at aL;cases aL;simp only;omega
   · rw[js _ _ e] at aL;exact aQ d j aH aL
theorem uA.nH{a2:bG}{a7:I}{w':World}(ar:bI μ H w)(a_:cD μ H w a2 a7 w'){c:Nat}(aB:H.get c=none)(a3:uA μ w c ob):uA a2 w' c ob:=by
 obtain⟨i,gj,J,ae,aq,aQ⟩:=a3
 have cf:=(ar.lt c i J).2
 refine⟨i,gj,a_.le _ _ J,?_,λFe b9 aA cJ=>aq Fe b9 (a_.le.trans aA) cJ,λd j aH aL=>?_⟩
 · rw[a_.old i.bo cf]
   · exact ae
   · intro d j aA aL
     exact aQ d j (λe=>by subst e;exact aA aB) aL
 · cases p5:μ d with
   |some sh=>
    have:=a_.le d sh p5
    rw[aL] at this;cases this
    exact aQ d j aH p5
   |none=>
    obtain⟨_,aT|⟨e,o,k,he,_,ai,Y5⟩⟩:=a_.new d j p5 aL
    · omega
    · rw[<-Y5]
      exact aQ e k (λb0=>by subst b0;rw[aB] at he;cases he) ai
end
end aJ
namespace aJ
open Go
variable {S:List Nat}{a:Act}{c i:Nat}{cs:List Frame}{s:DStep}{w:World}{μ:bG}
section
variable {X:jE}
def wB(X:jE)(i:Nat)(s:DStep)(v:aa)(ob:b5):Prop:=
 i<X.N/\kindOf X.P s.o.op=.alloc/\fj (gY X.P X.need X.ops X.r s.i (X.f i).env s)=some true/\ki X.P s.o.op (iu X.P X.need X.r s (X.f i).env) (X.H.n+i)=some (v,ob)
structure Inv(X:jE)(S:List Nat)(c:Nat)(μ:bG)(w:World)(a:Act)(cs:List Frame):Prop where
 ak:c<=X.N
 closed:FT X.ops S
 sub:∀i∈S,i<X.N
 fq:∀i s,X.steps[i]? =some s->i<X.N->kindOf X.P s.o.op=.fq->(i∈S<->i<c)
 rel:bI μ (X.f c).h w
 nH:cD X.p9 X.H X.w0 μ (X.f c).h w
 yg:iB μ (X.f c).d a.defers
 qr:kn μ X.b.kind X.cs0 (X.f c).q cs
 fA:∀i,i<X.ops.size->i∉S->μ (X.H.n+i)=none
 lay:∀i s v ob,X.steps[i]? =some s->wB X i s v ob->i∉S->i<c->(X.f c).h.get (X.H.n+i)=some ob
 Al:∀i,c<=i->i<X.ops.size->(X.f c).h.get (X.H.n+i)=none
 yh:X.H.n+X.ops.size<=(X.f c).h.n
 hr:∀i s v ob,X.steps[i]? =some s->wB X i s v ob->i∈S->c<=i->uA μ w (X.H.n+i) ob
 pR:X.yf S μ a.tmps
 sz:a.tmps.size=X.cQ
theorem Inv.pass(bk:hl X)(h:Inv X S c μ w a cs)(cf:c<X.N)(ah:X.steps[c]? =some s)(ai:kindOf X.P s.o.op≠ .fq):Inv X S (c+1) μ w a cs:=by
 obtain⟨eF,jF,hk,pk,nG⟩:=bk.m4 ah
 have aI:=bk.wy c s cf ah
 have PN:∀i bF,X.steps[i]? =some bF->i<X.N->kindOf X.P bF.o.op=.fq->(i∈S<->i<c+1):=λi bF J ae aq=>by
  rw[h.fq i bF J ae aq]
  have:i≠c:=by intro e;subst e;rw[ah] at J;cases J;exact ai aq
  omega
 have same:(X.f (c+1)).h=(X.f c).h->(X.f (c+1)).d=(X.f c).d->(X.f (c+1)).q=(X.f c).q->(∀v ob,¬wB X c s v ob)->Inv X S (c+1) μ w a cs:=λaG aE br Y6=>by
  refine⟨cf,h.closed,h.sub,PN,by rw[aG];exact h.rel,by rw[aG];exact h.nH,by rw[aE];exact h.yg,by rw[br];exact h.qr,h.fA,λi bF v ob J ae aq aQ=>?_,λi J ae=>(by rw[aG];exact h.Al i (by omega) ae),by rw[aG];exact h.yh,λi bF v ob J ae aq aQ=>h.hr i bF v ob J ae aq (by omega),h.pR,h.sz⟩
  by_cases e:i=c
  · subst e;rw[ah] at J;cases J;exact absurd ae (Y6 v ob)
  · rw[aG];exact h.lay i bF v ob J ae aq (by omega)
 generalize aM:X.f (c+1)=st at aI
 cases aI with
 |ye g7 hw=>
  refine same (by rw[aM]) (by rw[aM]) (by rw[aM]) λv ob kK=>?_
  have:=kK.2.2.1
  rw[hw] at this;cases this
 |pure g7 he=>
  refine same (by rw[aM]) (by rw[aM]) (by rw[aM]) λv ob kK=>?_
  have:=kK.2.1
  rw[g7] at this;cases this
 |fq g7 bg he=>exact absurd g7 ai
 |alloc g7 hw a_=>
  rename_i v ob
  have aG:(X.f (c+1)).h=(X.f c).h.set (X.H.n+c) (some ob):=by rw[aM,jF]
  have aE:(X.f (c+1)).d=(X.f c).d:=by rw[aM]
  have br:(X.f (c+1)).q=(X.f c).q:=by rw[aM]
  have kK:wB X c s v ob:=⟨cf,g7,hw,by rw[<-jF];rw[<-jF] at a_;exact a_⟩
  have ag:X.H.n+c<(X.f c).h.n:=by have:=h.yh;omega
  have a3:μ (X.H.n+c)=none\/uA μ w (X.H.n+c) ob:=by
   by_cases PO:c∈S
   · exact .inr (h.hr c s v ob ah kK PO (Nat.le_refl _))
   · exact .inl (h.fA c eF PO)
  refine⟨cf,h.closed,h.sub,PN,by rw[aG];exact h.rel.FZ ag a3,by rw[aG];exact h.nH.FZ bk.ha ob (by omega),by rw[aE];exact h.yg,by rw[br];exact h.qr,h.fA,λi bF v' JG J ae aq aQ=>?_,λi J ae=>?_,by rw[aG];simpa using h.yh,λi bF v ob J ae aq aQ=>h.hr i bF v ob J ae aq (by omega),h.pR,h.sz⟩
  · rw[aG,I.fk]
    by_cases e:i=c
    · subst e
      rw[ah] at J;cases J
      have:=ae.2.2.2.symm.trans kK.2.2.2
      cases this
      rw[if_pos rfl]
    · rw[if_neg (by omega)];exact h.lay i bF v' JG J ae aq (by omega)
  · rw[aG,I.fk,if_neg (by omega)]
    exact h.Al i (by omega) ae
def Norm(X:jE)(c:Nat):Prop:=c=X.N\/∃s,X.steps[c]? =some s/\kindOf X.P s.o.op=.fq
theorem Inv.norm(bk:hl X):∀(k c:Nat),X.N-c=k->Inv X S c μ w a cs->∃c',Norm X c'/\Inv X S c' μ w a cs
 |0,c,ai,h=>⟨c,.inl (by have:=h.ak;omega),h⟩
 |k+1,c,ai,h=>by
  obtain⟨s,ah,_⟩:=bk.pj (i:=c) (by have:=bk.eo;omega)
  by_cases he:kindOf X.P s.o.op=.fq
  · exact⟨c,.inr ⟨s,ah,he⟩,h⟩
  · exact Inv.norm bk k (c+1) (by omega) (h.pass bk (by omega) ah he)
def Am(ops:Array Oper)(o:Oper)(g:Operand->aa):Operand->aa
 |.tmp t=>if(o7 ops o).contains t then g (.tmp t) else .bad
 |x=>g x
theorem CF{ops:Array Oper}{o:Oper}{g:Operand->aa}:∀x∈o.op.operands,g x=Am ops o g x:=by
 intro x ab
 cases x with
 |tmp t=>
  have:(o7 ops o).contains t=true:=by
   have J:t∈o.op.operands.toList.filterMap λ|.tmp t=>some t|_=>none:=List.mem_filterMap.2 ⟨.tmp t,by simpa using ab,rfl⟩
   simp only[o7,List.contains_iff_mem,List.mem_append]
   exact .inl (.inr J)
  simp only[Am,this,if_true]
 |_=>rfl
theorem JH(bk:hl X)(h:Inv X S c μ w a cs)(hi:i<=X.N)(eT:i∉S)(dC:m3 X.ops S i)(ah:X.steps[i]? =some s):
  ∀x,bq μ (Am X.ops s.o (iu X.P X.need X.r s (X.f i).env) x) (a.eval x):=by
 obtain⟨eF,jF,hk,pk,nG⟩:=bk.m4 ah
 intro x
 cases x with
 |tmp t=>
  simp only[Am]
  split
  · rename_i aI
    have:=bk.PJ h.closed h.pR hi eT dC ah (t:=t) (by simpa using aI)
    unfold iu;rw[jF];exact this
  · trivial
 |const v=>exact mu μ v
 |global g=>
  simp only[Am,iu,c7,Act.eval]
  cases ag:Nat.blt g X.P.globals.size with
  |false=>exact trivial
  |true=>
   obtain⟨i,J,ae,aq⟩:=bk.ti.mono h.nH.le g (by simpa using ag)
   obtain⟨kH,i0,Fy⟩:=i
   simp only at ae aq
   subst ae;subst aq
   exact⟨_,J,rfl⟩
 |func f=>exact⟨[],[],rfl,rfl,rfl⟩
theorem F0(bk:hl X)(h:Inv X S c μ w a cs)(hi:i<=X.N)(eT:i∉S)(dC:m3 X.ops S i)(ah:X.steps[i]? =some s):
  ∀pg,fj (gY X.P X.need X.ops X.r s.i (X.f i).env s)=some pg->Region.wanted s.o (yielded X.ops a.tmps)=pg:=by
 obtain⟨eF,jF,hk,pk,nG⟩:=bk.m4 ah
 intro pg hw
 unfold gY lE at hw
 unfold Region.wanted
 cases aB:s.o.guard with
 |none=>rw[aB] at hw;simp only[fj] at hw;cases hw;rfl
 |some p=>
  obtain⟨j,iP⟩:=p
  rw[aB] at hw
  simp only at hw⊢
  cases aI:(X.ops[j]?).bind (·.dst) with
  |none=>rw[aI] at hw;simp only[ed,fj] at hw;cases hw
  |some t=>
   rw[aI] at hw
   simp only at hw
   have aj:=bk.PJ h.closed h.pR hi eT dC ah (t:=t) (by
    simp only[o7,List.mem_append]
    refine .inr ?_
    rw[aB];simp only[aI];simp)
   rw[O_ aI]
   rw[jF] at hw
   generalize ed i (X.f i).env X.r (c7 X.P X.need s.loc (.tmp t))=v at hw aj
   unfold fj at hw
   split at hw
   · rename_i he;cases he
   · rename_i he;cases he;cases hw
     have gh:a.tmps.getD t undef=_:=aj
     rw[gh];rfl
   · rename_i he;cases he;cases hw
     obtain⟨l,aA,hT⟩:=aj
     cases hT
     rw[aA];rfl
   · cases hw
theorem yi{P:Program}{inR:Bool}{call:ht->List aa->I->a8}{gd:Option (aa×Bool)}{o:Oper}{g fT:Operand->aa}{d:List cc}{q:cm}{H:I}(h:∀x∈o.op.operands,g x=fT x):e4 P inR call gd o g d q H=e4 P inR call gd o fT d q H:=by
 unfold e4;rw[Cx o H h]
theorem Inv.one(bk:hl X)(h:Inv X S c μ w a cs)(hi:i<=X.N)(eT:i∉S)(dC:m3 X.ops S i)(ah:X.steps[i]? =some s)(rest:List Nat)(k:List Item):
  Ji X.P μ (X.f c).h w X.b a X.ops s.o i rest k X.cs0 cs (e4 X.P X.inR X.call (gY X.P X.need X.ops X.r s.i (X.f i).env s) s.o (iu X.P X.need X.r s (X.f i).env) (X.f c).d (X.f c).q (X.f c).h):=by
 obtain⟨eF,jF,hk,pk,nG⟩:=bk.m4 ah
 rw[yi (CF (ops:=X.ops))]
 exact O7 bk.ak h.rel (bk.ti.mono h.nH.le) hk (F0 bk h hi eT dC ah) (JH bk h hi eT dC ah) h.yg h.qr bk.eF
theorem Inv.CG(bk:hl X){c':Nat}{a2:bG}{w':World}{cq:List Frame}(h:Inv X S c μ w a cs)(hi:i<X.N)(eT:i∉S)(dC:m3 X.ops S i)(ah:X.steps[i]? =some s)(ai:∀v ob,¬wB X i s v ob)
  {u:Value}{bN:List Deferred}(aW:bq a2 (X.val i) u)(oo:bI a2 (X.f c').h w')(sd:cD μ (X.f c).h w a2 (X.f c').h w')(aH:iB a2 (X.f c').d bN)(bB:kn a2 X.b.kind X.cs0 (X.f c').q cq)
  (An:(c'=c/\kindOf X.P s.o.op≠ .fq)\/(c'=c+1/\i=c)):Inv X (i::S) c' a2 w' {tmps:=(a.put s.o.dst u).tmps,defers:=bN} cq:=by
 obtain⟨eF,jF,hk,pk,nG⟩:=bk.m4 ah
 have hle:=sd.le
 have CH:c<=c':=by rcases An with⟨e,_⟩|⟨e,_⟩<;>omega
 have PQ:=h.yh
 refine⟨?_,λj aL=>?_,λj aL=>?_,λj bF J ae aq=>?_,oo,cD.trans bk.ha h.rel h.nH sd,aH,bB,λj J ae=>?_,λj bF v ob J ae aq aQ=>?_,λj J ae=>?_,?_,λj bF v ob J ae aq aQ=>?_,?_,?_⟩
 · rcases An with⟨e,_⟩|⟨e,aE⟩
   · rw[e];exact h.ak
   · omega
 · have hm:m3 X.ops S j->m3 X.ops (i::S) j:=λar o bg e he ag=>List.mem_cons_of_mem _ (ar o bg e he ag)
   rcases List.mem_cons.1 aL with rfl|aL
   · exact hm dC
   · exact hm (h.closed j aL)
 · rcases List.mem_cons.1 aL with rfl|aL
   · exact hi
   · exact h.sub j aL
 · have:=h.fq j bF J ae aq
   rw[List.mem_cons,this]
   rcases An with⟨e,aE⟩|⟨e,aE⟩
   · subst e
     have:j≠i:=by intro e;subst e;rw[ah] at J;cases J;exact aE aq
     simp[this]
   · omega
 · have F1:j∉S:=λar=>ae (List.mem_cons_of_mem _ ar)
   cases hm:a2 (X.H.n+j) with
   |none=>rfl
   |some fA=>
    have:=(sd.new _ fA (h.fA j J F1) hm).1
    omega
 · have F1:j∉S:=λar=>aq (List.mem_cons_of_mem _ ar)
   have r3:j≠i:=λe=>aq (by simp[e])
   have aly:=ae.1
   have Od:j<c:=by rcases An with⟨e,_⟩|⟨e,aE⟩<;>omega
   rw[sd.idle _ (by have:=bk.eo;omega) (h.fA j (by have:=bk.eo;omega) F1)]
   exact h.lay j bF v ob J ae F1 Od
 · have h0:=h.Al j (by omega) ae
   cases aB:(X.f c').h.get (X.H.n+j) with
   |none=>rfl
   |some o=>exact absurd h0 (sd.live _ (by omega) (by rw[aB];simp))
 · exact Nat.le_trans PQ sd.n
 · have r3:j≠i:=by
     intro e;subst e;rw[ah] at J;cases J;exact ai v ob ae
   have Ak:j∈S:=by
    rcases List.mem_cons.1 aq with e|ar
    · exact absurd e r3
    · exact ar
   have CI:=ae.1
   exact(h.hr j bF v ob J ae Ak (by omega)).nH h.rel sd (h.Al j (by omega) (by have:=bk.eo;omega))
 · exact bk.PM (a:=a) h.closed h.sz (h.pR.mono hle) eT dC ah aW
 · simpa using(FG a s.o.dst u).trans h.sz
theorem CJ{s:DStep}{v:aa}(bk:hl X):∀(m:Nat),m<=X.N->∀(nx:Option Nat) (Ao:I),nD X.P X.need X.ops X.r X.N (X.f X.N).env s v nx Ao (X.f m).bp=true->
  ∀c bF,c<m->X.steps[c]? =some bF->kindOf X.P bF.o.op=.fq->∃bp,bp=(X.f c).bp/\nD X.P X.need X.ops X.r X.N (X.f X.N).env s v (some c) (X.f c).h bp=true
 |0,_,nx,Ao,h,c,bF,ak,_,_=>by omega
 |m+1,hm,nx,Ao,h,c,bF,ak,e3,ai=>by
  obtain⟨j2,aV,aU,_⟩:=bk.pj (i:=m) (by have:=bk.eo;omega)
  have aI:=bk.wy m j2 (by omega) aV
  by_cases e:c=m
  · subst e
    rw[aV] at e3;cases e3
    generalize aM:X.f (c+1)=st at aI h
    cases aI with
    |ye g7=>rw[ai] at g7;cases g7
    |alloc g7=>rw[ai] at g7;cases g7
    |pure g7=>rw[ai] at g7;cases g7
    |fq g7 bg he=>
     unfold nD at h
     rw[Bool.and_eq_true] at h
     have ae:=h.2
     simp only[aU] at ae
     exact⟨_,rfl,ae⟩
  · have cf:c<m:=by omega
    generalize aM:X.f (m+1)=st at aI h
    cases aI with
    |ye g7=>exact CJ bk m (by omega) nx Ao h c bF cf e3 ai
    |alloc g7=>exact CJ bk m (by omega) nx Ao h c bF cf e3 ai
    |pure g7=>exact CJ bk m (by omega) nx Ao h c bF cf e3 ai
    |fq g7 bg he=>
     unfold nD at h
     rw[Bool.and_eq_true] at h
     have ae:=h.2
     simp only at ae
     exact CJ bk m (by omega) _ _ ae c bF cf e3 ai
theorem JI(bk:hl X):∀(m:Nat),m<=X.N->∀e mk h0 l,(X.f m).bp=(e,mk,h0)::l->e<m/\∃bF,X.steps[e]? =some bF/\kindOf X.P bF.o.op=.fq/\mk=bF.fL
 |0,_,e,mk,h0,l,h=>by rw[bk.wz] at h;cases h
 |m+1,hm,e,mk,h0,l,h=>by
  obtain⟨j2,aV,aU,_⟩:=bk.pj (i:=m) (by have:=bk.eo;omega)
  have aI:=bk.wy m j2 (by omega) aV
  generalize aM:X.f (m+1)=st at aI h
  cases aI with
  |fq g7 bg he=>
   simp only[List.cons.injEq,Prod.mk.injEq] at h
   obtain⟨⟨rfl,rfl,rfl⟩,rfl⟩:=h
   exact⟨by omega,j2,by rw[aU];exact aV,g7,rfl⟩
  |_=>obtain⟨J,ae⟩:=JI bk m (by omega) e mk h0 l h;exact⟨by omega,ae⟩
theorem Inv.looks(bk:hl X)(h:Inv X S c μ w a cs)(aT:Norm X c)(hi:i<X.N)(eT:i∉S)(dC:m3 X.ops S i)(ah:X.steps[i]? =some s)(ai:kindOf X.P s.o.op=.pure):
  iY X.P X.need X.ops X.r X.N (X.f X.N).env s (X.val i) (X.f c).h=true\/iY X.P X.need X.ops X.r X.N (X.f X.N).env s (X.val i) (pW X.P X.need X.ops X.r X.N (X.f X.N).env s (some c) (X.f c).h)=true:=by
 obtain⟨eF,jF,hk,pk,nG⟩:=bk.m4 ah
 obtain⟨nx,J,ae⟩:=bk.looks i s hi ah ai
 have off:∀(nx:Option Nat),(∀e,nx=some e->e=c/\c∉S)->nD X.P X.need X.ops X.r X.N (X.f X.N).env s (X.val i) nx (X.f c).h (X.f c).bp=true->iY X.P X.need X.ops X.r X.N (X.f X.N).env s (X.val i) (X.f c).h=true\/iY X.P X.need X.ops X.r X.N (X.f X.N).env s (X.val i) (pW X.P X.need X.ops X.r X.N (X.f X.N).env s (some c) (X.f c).h)=true:=by
  intro nx kL dp
  unfold nD at dp
  rw[Bool.and_eq_true] at dp
  have aq:=dp.1
  split at aq
  · rename_i ag
    exfalso
    rw[Bool.or_eq_true] at ag
    rcases ag with ag|ag
    · cases nx with
      |none=>cases ag
      |some e=>
       obtain⟨rfl,q⟩:=kL e rfl
       exact q (nG S h.closed dC _ ag)
    · cases wC:(X.f c).bp with
      |nil=>rw[wC] at ag;cases ag
      |cons p l=>
       obtain⟨e,mk,h0⟩:=p
       rw[wC] at ag
       obtain⟨aV,bF,aU,bu,rfl⟩:=JI bk c h.ak e mk h0 l wC
       have JJ:=(h.fq e bF aU (by have:=h.ak;omega) bu).2 aV
       exact eT ((bk.m4 aU).2.2.2.2 S h.closed (h.closed e JJ) i (by rw[jF] at ag;exact ag))
  · rw[Bool.or_eq_true] at aq
    rcases aq with aq|aq
    · exact .inl aq
    · cases nx with
      |none=>exact .inl (by simpa only[pW] using aq)
      |some e=>
       obtain⟨rfl,_⟩:=kL e rfl
       exact .inr aq
 have PR:∀e bF,X.steps[e]? =some bF->e=X.N->e∉S:=λe bF _ he ar=>by have:=h.sub e ar;omega
 by_cases CH:c=X.N
 · subst CH
   exact off nx (λe he=>⟨(ae e he).1,λar=>by have:=h.sub _ ar;omega⟩) J
 · have PS:c<X.N:=by have:=h.ak;omega
   rcases aT with e|⟨bF,aV,aU⟩
   · exact absurd e CH
   · obtain⟨bp,rfl,aQ⟩:=CJ bk X.N (Nat.le_refl _) nx _ J c bF PS aV aU
     refine off (some c) (λe he=>⟨by cases he;rfl,λar=>?_⟩) aQ
     have:=(h.fq c bF aV PS aU).1 ar
     omega
end
end aJ
namespace aJ
open Go
variable {P:Program}{S:List Nat}{a:Act}{c i:Nat}{cs:List Frame}{s:DStep}{v:aa}{w:World}{μ:bG}
section
variable {X:jE}
theorem PT(bk:hl X):∀(m:Nat),m<=X.N->
  (∀e mk h0 l,(X.f m).bp=(e,mk,h0)::l->∀j bF,e<j->j<m->X.steps[j]? =some bF->kindOf X.P bF.o.op≠ .fq)/\
  ((X.f m).bp=[]->∀j bF,j<m->X.steps[j]? =some bF->kindOf X.P bF.o.op≠ .fq)
 |0,_=>⟨λe mk h0 l h=>(by rw[bk.wz] at h;cases h),λ_ j bF aL=>(by omega)⟩
 |m+1,hm=>by
  obtain⟨FW,FX⟩:=PT bk m (by omega)
  obtain⟨j2,aV,aU,_⟩:=bk.pj (i:=m) (by have:=bk.eo;omega)
  have aI:=bk.wy m j2 (by omega) aV
  have same:kindOf X.P j2.o.op≠ .fq->(X.f (m+1)).bp=(X.f m).bp->_:=λai he=>(⟨λe mk h0 l h j bF J ae aq=>by
    by_cases b0:j=m
    · subst b0;rw[aV] at aq;cases aq;exact ai
    · exact FW e mk h0 l (he▸h) j bF J (by omega) aq,λh j bF ae aq=>by
    by_cases b0:j=m
    · subst b0;rw[aV] at aq;cases aq;exact ai
    · exact FX (he▸h) j bF (by omega) aq⟩:
   (∀e mk h0 l,(X.f (m+1)).bp=(e,mk,h0)::l->∀j bF,e<j->j<m+1->X.steps[j]? =some bF->kindOf X.P bF.o.op≠ .fq)/\((X.f (m+1)).bp=[]->∀j bF,j<m+1->X.steps[j]? =some bF->kindOf X.P bF.o.op≠ .fq))
  generalize aM:X.f (m+1)=st at aI same⊢
  clear aM
  cases aI with
  |ye g7=>exact same (by rw[g7];simp) rfl
  |alloc g7=>exact same (by rw[g7];simp) rfl
  |pure g7=>exact same (by rw[g7];simp) rfl
  |fq g7 bg he=>
   refine⟨λe mk h0 l h j bF J ae aq=>?_,λh=>by cases h⟩
   simp only[List.cons.injEq,Prod.mk.injEq] at h
   obtain⟨⟨rfl,_,_⟩,_⟩:=h
   omega
theorem Inv.PU(bk:hl X)(h:Inv X S c μ w a cs)(aT:Norm X c)(hi:i<=X.N)(eT:i∉S)(dC:m3 X.ops S i)(ah:X.steps[i]? =some s)
  (ai:kindOf X.P s.o.op=.fq)(bg:∀e m h0 l,(X.f i).bp=(e,m,h0)::l->Nat.testBit s.fL e=true):i=c:=by
 obtain⟨eF,jF,hk,pk,nG⟩:=bk.m4 ah
 have OR:c<=i:=by
  rcases Nat.lt_or_ge i X.N with J|J
  · have:=h.fq i s ah J ai
    rcases Nat.lt_or_ge i c with ae|ae
    · exact absurd (this.2 ae) eT
    · exact ae
  · have:=h.ak;omega
 rcases Nat.lt_or_ge c i with cf|tr
 · exfalso
   rcases aT with e|⟨bF,aV,aU⟩
   · omega
   · obtain⟨bt,b3⟩:=PT bk i hi
     cases wC:(X.f i).bp with
     |nil=>exact b3 wC c bF cf aV aU
     |cons p l=>
      obtain⟨e,mk,h0⟩:=p
      obtain⟨dt,s2,dv,gD,_⟩:=JI bk i hi e mk h0 l wC
      have JJ:=nG S h.closed dC e (bg e mk h0 l wC)
      have Y7:=(h.fq e s2 dv (by omega) gD).1 JJ
      exact bt e mk h0 l wC c bF Y7 cf aV aU
 · omega
theorem Inv.Y8(bk:hl X)(h:Inv X S c μ w a cs)(hi:i<X.N)(eT:i∉S)(dC:m3 X.ops S i)(ah:X.steps[i]? =some s){ob:b5}(kK:wB X i s v ob)(aW:X.val i=v)(rest:List Nat)(k:List Item):
  ∃a2 w' a6,Steps X.P (lone (X.b.atR a (.inRegion X.ops (i::rest)::k)) cs w) (lone (X.b.atR a6 (.inRegion X.ops rest::k)) cs w')/\Inv X (i::S) c a2 w' a6 cs:=by
 obtain⟨eF,jF,hk,pk,nG⟩:=bk.m4 ah
 obtain⟨_,ai,hw,a_⟩:=kK
 have Cq:=F0 bk h (Nat.le_of_lt hi) eT dC ah _ hw
 rw[Cy _ _ (CF (ops:=X.ops))] at a_
 obtain⟨u,O,sz,aA⟩:=X_ (P:=X.P) (w:=w) s.o (JH bk h (Nat.le_of_lt hi) eT dC ah) a_
 have dp:=stepGR_op (P:=X.P) (b:=X.b) (a:=a) (k:=k) (cs:=cs) (w:=w) (rest:=rest) hk Cq
 have x7:s.o.semAt X.b.roundOf a.eval=execOp a.eval s.o:=Oper.semAt_eq _ _ _ λwD e=>by rw[e] at ai;cases ai
 rw[x7] at dp
 obtain⟨al,_⟩:=FE dp
 have hb:=al _ _ aA.run
 have p3:(X.b.atR a (.inRegion X.ops (i::rest)::k)).finish u=X.b.atR (a.put s.o.dst u) (.inRegion X.ops rest::k):=by
  rw[Frame.finish_atR,hk];rfl
 rw[p3] at hb
 have k3:=h.fA i eF eT
 have PQ:=h.yh
 have hG:∀o,(X.f c).h.get (X.H.n+i)=some o->o=ob:=λo aB=>by
  rcases Nat.lt_or_ge i c with cf|tr
  · have:=h.lay i s v ob ah ⟨hi,ai,hw,by rw[Cy _ _ (CF (ops:=X.ops))];exact a_⟩ eT cf
    rw[aB] at this;cases this;rfl
  · rw[h.Al i tr eF] at aB;cases aB
 obtain⟨hle,oo⟩:=h.rel.early (b:=X.H.n+i) (by omega) k3 hG aA.obj
 have sd:=h.nH.early bk.ha (b:=X.H.n+i) (by omega) k3 (O:=O) (sz:=sz)
 have CK:bq (h6 μ (X.H.n+i) ⟨w.heap.size,0,sz⟩) (X.val i) u:=by rw[aW];exact aA.val _ hle (h7 _ _ _)
 refine⟨h6 μ (X.H.n+i) ⟨w.heap.size,0,sz⟩,_,_,hb,?_⟩
 have hm:∀{j},m3 X.ops S j->m3 X.ops (i::S) j:=λar o bg e he ag=>List.mem_cons_of_mem _ (ar o bg e he ag)
 refine⟨h.ak,λj aL=>?_,λj aL=>?_,λj bF J ae aq=>?_,oo,sd,?_,h.qr.mono hle,λj J ae=>?_,λj bF v ob J ae aq aQ=>h.lay j bF v ob J ae (λar=>aq (List.mem_cons_of_mem _ ar)) aQ,h.Al,h.yh,λj bF v' JG J ae aq aQ=>?_,bk.PM h.closed h.sz (h.pR.mono hle) eT dC ah CK,(FG _ _ _).trans h.sz⟩
 · rcases List.mem_cons.1 aL with rfl|aL
   · exact hm dC
   · exact hm (h.closed j aL)
 · rcases List.mem_cons.1 aL with rfl|aL
   · exact hi
   · exact h.sub j aL
 · have r3:j≠i:=by intro e;subst e;rw[ah] at J;cases J;rw[ai] at aq;cases aq
   rw[List.mem_cons]
   simp only[r3,false_or]
   exact h.fq j bF J ae aq
 · rw[put_defers];exact h.yg.mono hle
 · have r3:j≠i:=λe=>ae (by simp[e])
   rw[js _ _ (by omega)]
   exact h.fA j J (λar=>ae (List.mem_cons_of_mem _ ar))
 · rcases List.mem_cons.1 aq with e|aq
   · subst e
     rw[ah] at J;cases J
     have:=ae.2.2.2
     rw[Cy _ _ (CF (ops:=X.ops)),a_] at this
     cases this
     refine⟨⟨w.heap.size,0,sz⟩,O,h7 _ _ _,World.heap_alloc_new _ _,λa2 w' z2 cJ=>aA.obj a2 w' (hle.trans z2) cJ,λd k1 aH aL=>?_⟩
     rw[js _ _ aH] at aL
     have:=(h.rel.lt d k1 aL).2
     simp only;omega
   · exact(h.hr j bF v' JG J ae aq aQ).early h.rel k3
theorem CL(bk:hl X)(hi:i<=X.N):Jn i (kY (X.ops.toList.take i) 0 []):=λt a a_=>by
 obtain⟨j,o,J,rfl,_⟩:=(CC X.ops.toList t i (by have:=bk.eo;simp;omega)).1 a a_
 exact J
theorem Y9{need:Nat}{ops:Array Oper}{r:bf}{n:Nat}{env:List aa}{nx:Option Nat}{h:I}:pW P need ops r n env s nx h=h\/
  ∃e src dst x j bF t l c b off m cp v ob,nx=some e/\s.o.op=.convert src dst x/\c7 P need s.loc x=.env j/\e<j/\Nat.testBit s.fL j=true/\nth j (fW ops.toList 0 [] [])=some bF/\bF.o.op=.makeSlice t l c/\
   ed n env r (.env j)=.slice b off m cp/\fj (gY P need ops r n env bF)=some true/\ki P (.makeSlice t l c) (λy=>ed n env r (c7 P need bF.loc y)) b=some (v,ob)/\pW P need ops r n env s nx h=h.set b (some ob):=by
 unfold pW
 split
 · rename_i e src dst x ab
   split
   · rename_i j aL
     split
     · rename_i bF ag e3
       split
       · rename_i t l c b off m cp J ae aq
         split
         · rename_i v ob a_
           rw[Bool.and_eq_true,Nat.blt_eq] at ag
           exact .inr ⟨e,src,dst,x,j,bF,t,l,c,b,off,m,cp,v,ob,rfl,ab,aL,ag.1,ag.2,e3,J,ae,aq,a_,rfl⟩
         · exact .inl rfl
       · exact .inl rfl
     · exact .inl rfl
   · exact .inl rfl
 · exact .inl rfl
theorem Y_{t:TypeId}{l c:Operand}{g:Operand->aa}{b jb off m:Nat}{cp:dn}{o:b5}(h:ki P (.makeSlice t l c) g b=some (.slice jb off m cp,o)):jb=b:=by
 unfold ki at h
 simp only at h
 split at h
 · split at h
   · split at h
     · split at h
       · cases h;rfl
       · cases h
     · cases h
   · cases h
 · cases h
theorem Za{H a7:I}(ar:bI μ H w){src dst:TypeId}{x:aa}{bK:Value}(ab:bq μ x bK)(aH:∀e,P.underlying dst≠some (.slice e))(he:df P src dst x H=.val v a7):
  ∃u,(convert src dst bK).run P w=.ok u w/\bq μ v u:=by
 unfold df at he
 split at he
 · rename_i nF k aO n ah aH
   cases ab;cases he
   exact⟨.int k (k.wrap n),by simp[convert,b7 ah,b7 aH,Conv.intToInt],rfl⟩
 · rename_i nF aO n ah aH
   cases ab;cases he
   exact⟨.string (Utf8.encode n),by simp[convert,b7 ah,b7 aH,Conv.intToString],_,rfl,rfl⟩
 · rename_i s ah aH
   obtain⟨t,rfl,rfl⟩:=ab
   cases he
   exact⟨.string t,by simp[convert,b7 ah,b7 aH],_,rfl,rfl⟩
 · rename_i e s ah yj
   exact absurd yj (aH e)
 · rename_i e ah yj
   have key:P.underlying e=some (.int .u8)->∀a n c,(convert src dst (.slice a n c)).run P w=(Conv.bytesToString (.slice a n c)).run P w:=by
    intro he a n c
    simp[convert,b7 ah,b7 yj,b7 he]
   split at he
   · rename_i CM
     cases ab;cases he
     refine⟨.string .empty,?_,.empty,rfl,rfl⟩
     rw[key CM];rfl
   · rename_i b off n CM
     split at he
     · rename_i aT
       subst aT
       obtain⟨i,_,_,a,c,rfl⟩:=ab
       cases he
       refine⟨.string .empty,?_,.empty,rfl,rfl⟩
       rw[key CM];rfl
     · cases he
   · rename_i b off n c z5 CM
     split at he
     · rename_i cs aA
       split at he
       · rename_i bs ag
         cases he
         obtain⟨u,J,ae⟩:=Oj (P:=P) ar (by intro e;subst e;exact z5 rfl) ab aA ag
         refine⟨u,?_,ae⟩
         have h9:∃a m k,bK=.slice a m k:=by
          obtain⟨i,_,ak⟩:=ab
          cases c with
          |exact c=>cases ak;exact⟨_,_,_,rfl⟩
          |aX h3=>obtain⟨c,rfl,_⟩:=ak;exact⟨_,_,_,rfl⟩
          |dead=>obtain⟨_,a,c,rfl⟩:=ak;exact⟨_,_,_,rfl⟩
         obtain⟨a,m,k,rfl⟩:=h9
         rw[key CM];exact J
       · cases he
     · cases he
   · cases he
 · rename_i u b off ah yj
   split at he
   · rename_i cs el k lo hi n aB bm
     split at he
     · rename_i cf
       cases he
       exact⟨bK,OQ ar ah yj bm aB (by simpa using cf) ab,ab⟩
     · cases he
   · cases he
 · rename_i u b off ah yj
   split at he
   · rename_i cs el lo hi n aB bm
     split at he
     · rename_i ak
       cases he
       exact⟨bK,OS ar ah yj bm aB ak ab,ab⟩
     · cases he
   · cases he
 · cases he
theorem Inv.over(bk:hl X)(h:Inv X S c μ w a cs)(dC:m3 X.ops S i)(ah:X.steps[i]? =some s){src dst:TypeId}{x:Operand}{j:Nat}{bF:DStep}{t:TypeId}{l wD:Operand}{b off m:Nat}{cp:dn}{ob:b5}
  (Zb:c<j)(ag:Nat.testBit s.fL j=true)(e3:nth j (fW X.ops.toList 0 [] [])=some bF)(bg:bF.o.op=.makeSlice t l wD)(aW:ed X.N (X.f X.N).env X.r (.env j)=.slice b off m cp)(hw:fj (gY X.P X.need X.ops X.r X.N (X.f X.N).env bF)=some true)
  (a_:ki X.P (.makeSlice t l wD) (λy=>ed X.N (X.f X.N).env X.r (c7 X.P X.need bF.loc y)) b=some (v,ob)):bI μ ((X.f c).h.set b (some ob)) w:=by
 obtain⟨eF,jF,hk,pk,nG⟩:=bk.m4 ah
 have Ak:j∈S:=nG S h.closed dC j ag
 have CI:j<X.N:=h.sub j Ak
 have hle:=Nat.le_of_lt CI
 have hH:X.steps[j]? =some bF:=by rw[<-j0];exact e3
 obtain⟨_,JK,_,PV,_⟩:=bk.m4 hH
 have g0:gY X.P X.need X.ops X.r X.N (X.f X.N).env bF=gY X.P X.need X.ops X.r bF.i (X.f j).env bF:=by
  unfold gY lE
  cases F2:bF.o.guard with
  |none=>rfl
  |some p=>
   obtain⟨k1,iP⟩:=p
   simp only
   cases Zc:(X.ops[k1]?).bind (·.dst) with
   |none=>rfl
   |some t=>
    simp only
    rw[JK,bk.FV hle (by rw[PV];exact z_ (CL bk hle) _)]
 have p7:(λy=>ed X.N (X.f X.N).env X.r (c7 X.P X.need bF.loc y))=iu X.P X.need X.r bF (X.f j).env:=funext λy=>by
  unfold iu
  rw[JK,bk.FV hle (by rw[PV];exact z_ (CL bk hle) _)]
 rw[g0] at hw
 rw[p7] at a_
 have aI:=bk.wy j bF CI hH
 have ot:ed X.N (X.f X.N).env X.r (.env j)=X.val j:=rfl
 generalize aM:X.f (j+1)=st at aI
 cases aI with
 |ye ai CN=>rw[hw] at CN;cases CN
 |alloc ai CN uB=>
  rename_i v1 yk
  have p_:=bk.CB CI (v:=v1) (by rw[aM])
  rw[ot,p_] at aW
  rw[bg,aW,JK] at uB
  obtain rfl:=Y_ uB
  rw[a_] at uB
  cases uB
  exact h.rel.FZ (by have:=h.yh;omega) (.inr (h.hr j bF _ ob hH ⟨CI,ai,hw,by rw[bg];exact a_⟩ Ak (Nat.le_of_lt Zb)))
 |pure ai he=>rw[bg] at ai;cases ai
 |fq ai he=>rw[bg] at ai;cases ai
theorem Inv.step(bk:hl X)(h:Inv X S c μ w a cs)(hi:i<X.N)(eT:i∉S)(dC:m3 X.ops S i)(rest:List Nat)(k:List Item):
  ∃c' a2 w' a6 cq,Steps X.P (lone (X.b.atR a (.inRegion X.ops (i::rest)::k)) cs w) (lone (X.b.atR a6 (.inRegion X.ops rest::k)) cq w')/\Inv X (i::S) c' a2 w' a6 cq:=by
 obtain⟨c,aT,h⟩:=h.norm bk _ _ rfl
 obtain⟨s,ah,jF,hk,_⟩:=bk.pj (i:=i) (by have:=bk.eo;omega)
 have aI:=bk.wy i s hi ah
 have hle:=Nat.le_of_lt hi
 generalize aM:X.f (i+1)=st at aI
 cases aI with
 |ye ai hw=>
  have aW:=bk.CB hi (v:=.aF []) (by rw[aM])
  have x6:=F0 bk h hle eT dC ah _ hw
  have B4:=stepR_op_skip (P:=X.P) (b:=X.b) (a:=a) (k:=k) (cs:=cs) (w:=w) (ops:=X.ops) (i:=i) (rest:=rest) (by simp[hk,x6])
  rw[hk] at B4
  have he:a.put ((some s.o).bind (·.dst)) undef={tmps:=(a.put s.o.dst undef).tmps,defers:=a.defers}:=Cp a s.o.dst undef
  rw[he] at B4
  refine⟨c,μ,w,_,cs,.one B4,h.CG bk hi eT dC ah (λv ob kK=>?_) (by rw[aW];exact⟨[],rfl,rfl⟩) h.rel (cD.refl _ _ _) h.yg h.qr (.inl ⟨rfl,by rw[ai];simp⟩)⟩
  have:=kK.2.2.1
  rw[hw] at this;cases this
 |alloc ai hw a_=>
  rename_i v ob
  have aW:=bk.CB hi (v:=v) (by rw[aM])
  obtain⟨a2,w',a6,J,ae⟩:=h.Y8 bk hi eT dC ah ⟨hi,ai,hw,by rw[<-jF];rw[<-jF] at a_;exact a_⟩ aW rest k
  exact⟨c,a2,w',a6,cs,J,ae⟩
 |pure ai he=>
  rename_i v bT bZ ay
  have aW:=bk.CB hi (v:=v) (by rw[aM])
  have hA:=h.looks bk aT hi eT dC ah ai
  have gU:=h.one bk hle eT dC ah rest k
  have g0:gY X.P X.need X.ops X.r X.N (X.f X.N).env s=gY X.P X.need X.ops X.r s.i (X.f i).env s:=by
   unfold gY lE
   cases F2:s.o.guard with
   |none=>rfl
   |some p=>
    obtain⟨j,iP⟩:=p
    simp only
    cases Zc:(X.ops[j]?).bind (·.dst) with
    |none=>rfl
    |some t=>
     simp only
     rw[jF,bk.FV hle (by rw[(bk.m4 ah).2.2.2.1];exact z_ (CL bk hle) _)]
  have m5:∀x,ed X.N (X.f X.N).env X.r (c7 X.P X.need s.loc x)=iu X.P X.need X.r s (X.f i).env x:=λx=>by
   unfold iu
   rw[jF,bk.FV hle (by rw[(bk.m4 ah).2.2.2.1];exact z_ (CL bk hle) _)]
  have p7:(λx=>ed X.N (X.f X.N).env X.r (c7 X.P X.need s.loc x))=iu X.P X.need X.r s (X.f i).env:=funext m5
  have CO:∀v ob,¬wB X i s v ob:=λv ob kK=>by have:=kK.2.1;rw[ai] at this;cases this
  have dk:kindOf X.P s.o.op≠ .fq:=by rw[ai];simp
  have hA:iY X.P X.need X.ops X.r X.N (X.f X.N).env s (X.val i) (X.f c).h=true\/∃u,Steps X.P (lone (X.b.atR a (.inRegion X.ops (i::rest)::k)) cs w) (lone (X.b.atR (a.put s.o.dst u) (.inRegion X.ops rest::k)) cs w)/\bq μ (X.val i) u:=by
   rcases hA with hA|hA
   · exact .inl hA
   rcases Y9 (P:=X.P) (need:=X.need) (ops:=X.ops) (r:=X.r) (n:=X.N) (env:=(X.f X.N).env) (s:=s) (nx:=some c) (h:=(X.f c).h) with bg|⟨e,src,dst,x,j,bF,t,l,wD,b,off,m,cp,v',ob,J,ae,aq,aQ,bj,cW,eS,e6,mv,si,uC⟩
   · rw[bg] at hA;exact .inl hA
   · cases J
     have Zd:=h.over bk dC ah (src:=src) (dst:=dst) (x:=x) aQ bj cW eS e6 mv si
     rw[uC] at hA
     unfold iY at hA
     rw[g0,p7] at hA
     have x6:∀{iP},fj (gY X.P X.need X.ops X.r s.i (X.f i).env s)=some iP->_:=λ{iP} hw=>F0 bk h hle eT dC ah _ hw
     split at hA
     · cases hA
     · rename_i Ap
       left
       unfold iY
       rw[g0,Ap]
     · rename_i Ap
       have Cq:=x6 Ap
       right
       split at hA
       · rename_i v1 fR g_
         have JL:=beq_eq _ _ hA
         have Ze:df X.P src dst (iu X.P X.need X.r s (X.f i).env x) ((X.f c).h.set b (some ob))=.val v1 fR:=by
          have:=g_
          unfold dg at this
          rw[ae] at this
          exact this
         have ts:=JH bk h hle eT dC ah x
         have Zf:Am X.ops s.o (iu X.P X.need X.r s (X.f i).env) x=iu X.P X.need X.r s (X.f i).env x:=(CF (ops:=X.ops) x (by rw[ae];simp[Op.operands])).symm
         rw[Zf] at ts
         obtain⟨u,bt,b3⟩:=Za Zd ts (λb0 F3=>by rw[ae] at ai;unfold kindOf at ai;simp only[F3] at ai;cases ai) Ze
         have dp:=stepGR_op (P:=X.P) (b:=X.b) (a:=a) (k:=k) (cs:=cs) (w:=w) (rest:=rest) hk Cq
         have x7:s.o.semAt X.b.roundOf a.eval=execOp a.eval s.o:=Oper.semAt_eq _ _ _ λwD e=>by rw[e] at ae;cases ae
         rw[x7] at dp
         obtain⟨al,_⟩:=FE dp
         have dD:(execOp a.eval s.o).run X.P w=.ok (.value u) w:=by
          unfold execOp
          rw[ae]
          simp[bt]
         have hb:=al _ _ dD
         have p3:(X.b.atR a (.inRegion X.ops (i::rest)::k)).finish u=X.b.atR (a.put s.o.dst u) (.inRegion X.ops rest::k):=by
          rw[Frame.finish_atR,hk];rfl
         rw[p3] at hb
         exact⟨u,hb,by rw[<-JL];exact b3⟩
       · cases hA
  rcases hA with hA|⟨u,s1,s2⟩
  rotate_left
  · refine⟨c,μ,w,_,cs,s1,?_⟩
    rw[Cp]
    exact h.CG bk hi eT dC ah CO s2 h.rel (cD.refl _ _ _) h.yg h.qr (.inl ⟨rfl,dk⟩)
  unfold iY at hA
  rw[g0,p7] at hA
  unfold e4 at gU he
  cases Ap:fj (gY X.P X.need X.ops X.r s.i (X.f i).env s) with
  |none=>rw[Ap] at hA;cases hA
  |some iP=>
   rw[Ap] at hA gU he
   cases iP with
   |false=>
    simp only at gU he
    cases he
    obtain⟨a2,w',u,x5,cq,s1,s2,c4,c0,dq,eO⟩:=gU
    exact⟨c,a2,w',_,cq,s1,h.CG bk hi eT dC ah CO (by rw[aW];exact s2) c4 c0 dq eO (.inl ⟨rfl,dk⟩)⟩
   |true=>
    simp only at hA gU
    split at hA
    · rename_i v' alz g_
      rw[g_] at gU
      simp only at gU
      have JL:=beq_eq _ _ hA
      have Zg:=YY ai g_
      rw[Zg] at gU
      obtain⟨a2,w',u,x5,cq,s1,s2,c4,c0,dq,eO⟩:=gU
      exact⟨c,a2,w',_,cq,s1,h.CG bk hi eT dC ah CO (by rw[<-JL];exact s2) c4 c0 dq eO (.inl ⟨rfl,dk⟩)⟩
    · cases hA
 |fq ai bg he=>
  rename_i v bT bZ ay
  have aW:=bk.CB hi (v:=v) (by rw[aM])
  have uD:=h.PU bk aT hle eT dC ah ai bg
  have gU:=h.one bk hle eT dC ah rest k
  have CO:∀v ob,¬wB X i s v ob:=λv ob kK=>by have:=kK.2.1;rw[ai] at this;cases this
  rw[<-uD,he] at gU
  obtain⟨a2,w',u,x5,cq,s1,s2,c4,c0,dq,eO⟩:=gU
  have aG:(X.f (c+1)).h=ay:=by rw[<-uD,aM]
  have aE:(X.f (c+1)).d=bT:=by rw[<-uD,aM]
  have br:(X.f (c+1)).q=bZ:=by rw[<-uD,aM]
  exact⟨c+1,a2,w',_,cq,s1,h.CG bk hi eT dC ah CO (by rw[aW];exact s2) (by rw[aG];exact c4) (by rw[aG,<-uD];exact c0) (by rw[aE];exact dq) (by rw[br];exact eO) (.inr ⟨rfl,uD⟩)⟩
end
end aJ
namespace aJ
open Go
section
variable {X:jE}
def jE.ends(X:jE)(k:List Item)(ir:Machine)(res:pV):Prop:=tk X.P X.need X.cQ X.p9 X.r X.H X.w0 X.b k X.cs0 ir (kY X.ops.toList 0 []) res
theorem jE.JM{k:List Item}{ir cR:Machine}{res:pV}(h:Steps X.P ir cR)(ay:X.ends k cR res):X.ends k ir res:=by
 unfold jE.ends at*
 cases res with
 |ok env d q a7=>obtain⟨a2,w',a6,cq,s1,s2⟩:=ay;exact⟨a2,w',a6,cq,h.trans s1,s2⟩
 |aK v d q a7=>obtain⟨a2,w',a6,cq,u,d_,s1,s2⟩:=ay;exact⟨a2,w',a6,cq,u,d_,h.trans s1,s2⟩
 |fail s=>trivial
structure JN(X:jE)(res:pV):Prop where
 ok:X.N=X.ops.size->res=.ok (X.f X.N).env (X.f X.N).d (X.f X.N).q (X.f X.N).h
 aK:X.N<X.ops.size->∀s,X.steps[X.N]? =some s->∃v bT bZ ay,e4 X.P X.inR X.call (gY X.P X.need X.ops X.r s.i (X.f X.N).env s) s.o (iu X.P X.need X.r s (X.f X.N).env) (X.f X.N).d (X.f X.N).q (X.f X.N).h=.aK v bT bZ ay/\res=.aK v bT bZ ay
theorem Inv.order(bk:hl X){res:pV}(bO:JN X res)(k:List Item):∀(L S:List Nat) (c:Nat) (μ:bG) (w:World) (a:Act) (cs:List Frame),ya X.ops S L->Inv X S c μ w a cs->X.ends k (lone (X.b.atR a (.inRegion X.ops L::k)) cs w) res
 |[],S,c,μ,w,a,cs,bg,h=>by
  have gZ:∀i,i<X.ops.size->i∈S:=bg
  have eo:X.N=X.ops.size:=by
   have:=bk.eo
   rcases Nat.lt_or_ge X.N X.ops.size with cf|tr
   · have:=h.sub _ (gZ _ cf);omega
   · omega
  obtain⟨c,aT,h⟩:=h.norm bk _ _ rfl
  have PR:c=X.N:=by
   rcases aT with e|⟨s,aV,aU⟩
   · exact e
   · have:=h.ak
     rcases Nat.lt_or_ge c X.N with cf|tr
     · have:=(h.fq c s aV cf aU).1 (gZ c (by omega));omega
     · omega
  subst PR
  rw[bO.ok eo]
  have hlen:=bk.FU X.N (Nat.le_refl _)
  have PW:X.ops.toList.take X.N=X.ops.toList:=by rw[eo];exact List.take_of_length_le (by simp)
  have pk:=CL bk (Nat.le_refl X.N)
  rw[PW] at pk
  refine⟨μ,w,a,cs,.one stepR_region_end,⟨by rw[hlen];exact pk,λt=>?_⟩,h.sz,h.rel,h.nH,h.yg,h.qr⟩
  rw[hlen]
  obtain⟨f1,f2⟩:=CC X.ops.toList t X.N (by simp;omega)
  rw[PW] at f1 f2
  simp only[c7]
  cases aM:kD t (kY X.ops.toList 0 []) with
  |some ac=>
   obtain⟨j,o,aL,rfl,pZ,aH,vW⟩:=f1 ac aM
   have:=(h.pR t).1 j o (gZ j (by omega)) (by simpa using pZ) aH λk o' ai ko p4=>by
    rcases Nat.lt_or_ge j k with cf|tr
    · exact absurd p4 (vW k o' cf (h.sub k ai) (by simpa using ko))
    · exact tr
   exact this
  |none=>
   simp only[]
   cases ag:Nat.testBit X.need t with
   |false=>trivial
   |true=>
    exact(h.pR t).2 (λj o aL ko aH=>f2 aM j o (h.sub j aL) (by simpa using ko) aH) ag
 |i::L,S,c,μ,w,a,cs,bg,h=>by
  obtain⟨hi,eT,dC,vX⟩:=bg
  rcases Nat.lt_trichotomy i X.N with cf|heq|sj
  · obtain⟨c',a2,w',a6,cq,J,ae⟩:=h.step bk cf eT dC L k
    exact jE.JM J (Inv.order bk bO k L (i::S) c' a2 w' a6 cq vX ae)
  ·
   obtain⟨s,ah,jF,hk,_⟩:=bk.pj hi
   obtain⟨c,aT,h⟩:=h.norm bk _ _ rfl
   rw[heq] at ah
   obtain⟨fw,gw,tt⟩:=bk.last s ah
   rw[<-heq] at ah gw
   have uD:=h.PU bk aT (Nat.le_of_eq heq) eT dC ah fw gw
   have gU:=h.one bk (Nat.le_of_eq heq) eT dC ah L k
   obtain⟨v,bT,bZ,ay,aG,aE⟩:=bO.aK (by omega) s (by rw[<-heq];exact ah)
   rw[<-heq] at aG
   rw[<-uD,aG] at gU
   rw[aE]
   obtain⟨a2,w',u,s1,s2,c4,c0,dq,eO⟩:=gU
   rw[uD] at c0
   refine⟨a2,w',a,cs,u,_,s1,trivial,s2,λt aI ag=>?_,h.sz,c4,cD.trans bk.ha h.rel h.nH c0,dq,eO⟩
   obtain⟨f1,f2⟩:=CC X.ops.toList t X.ops.toList.length (Nat.le_refl _)
   rw[List.take_length] at f2
   have:=(h.pR t).2 (λj o aL ko aH=>f2 aI j o (by have:=h.sub j aL;have:=bk.eo;simp;omega) (by simpa using ko) aH) ag
   exact this.mono c0.le
  · exfalso
    obtain⟨s,ah,_⟩:=bk.pj (i:=X.N) (by omega)
    obtain⟨bF,e3,_,_,_,nG⟩:=bk.pj hi
    have:=(bk.last s ah).2.2 i bF sj e3
    rw[(bk.m4 ah).2.1] at this
    have:=h.sub _ (nG S h.closed dC _ this)
    omega
end
section
variable {P:Program}
theorem PX{need:Nat}{ops:Array Oper}{r:bf}{n:Nat}{env:List aa}{last:Option Nat}{h:I}{bp:List (Nat×Nat×I)}:∀{l:List DStep},oj P need ops r n env last h bp l=true->∀s∈l,s.i<n->kindOf P s.o.op=.pure->nD P need ops r n env s ((nth (n-1-s.i) env).getD .bad) last h bp=true
 |[],_,s,ah,_,_=>by cases ah
 |x::l,aA,s,ah,hi,ai=>by
  simp only[oj,Bool.and_eq_true] at aA
  rcases List.mem_cons.1 ah with rfl|ah
  · have J:=aA.1
    have ag:Nat.blt s.i n=true:=by simpa using hi
    rw[ag,ai] at J
    exact J
  · exact PX aA.2 s ah hi ai
theorem Zh(hm:P.follows .mixedOrders=true){call:ht->List aa->I->a8}(ak:pf P call)(need cQ:Nat):wi P need cQ call:=by
 intro ops id tl hdr b inR r d q H μ w a k cs0 cs eF aj bQ ar aB aH bB
 unfold xF
 simp only
 obtain⟨tn,m6⟩:∃tn:yc,tn=⟨[],d,q,⟨H.t,H.n+ops.size⟩,[]⟩:=⟨_,rfl⟩
 obtain⟨res,iG⟩:∃res,h4 P need inR call ops r H.n (fW ops.toList 0 [] []) [] d q ⟨H.t,H.n+ops.size⟩ []=res:=⟨_,rfl⟩
 rw[iG]
 by_cases PY:∃kM,res=.fail kM
 · obtain⟨kM,e⟩:=PY;subst e;trivial
 have Zi:∀kM,res≠ .fail kM:=λkM e=>PY ⟨kM,e⟩
 have Zj:h4 P need inR call ops r H.n (fW ops.toList 0 [] []) tn.env tn.d tn.q tn.h tn.bp=res:=by rw[m6];exact iG
 obtain⟨f,N,f0,eo,PZ,An⟩:=PF _ _ _ Zj Zi
 have hlen:(fW ops.toList 0 [] []).length=ops.size:=by rw[JD];simp
 rw[hlen] at eo
 have P0:∀m,m<=N->(f m).env.length=m:=λm=>by
  induction m with
  |zero=>intro _;rw[f0,m6];rfl
  |succ m bM=>
   intro IM
   have ah:(fW ops.toList 0 [] [])[m]? =some (fW ops.toList 0 [] [])[m]:=List.getElem?_eq_getElem (by omega)
   have aI:=PZ m _ (by omega) ah
   have Zk:=bM (by omega)
   generalize f (m+1)=st at aI
   cases aI<;>simp[Zk]
 let X:jE:={P:=P,need:=need,cQ:=cQ,inR:=inR,call:=call,ops:=ops,r:=r,b:=b,p9:=μ,H:=H,w0:=w,cs0:=cs0,N:=N,f:=f}
 let b_:World:={w with drawn:=w.drawn+1}
 have wu:∀o i,ops[i]? =some o->r2 o i=true:=λo i bg=>by
  have hi:i<ops.size:=(Array.getElem?_eq_some_iff.1 bg).1
  have ko:ops.toList[i]? =some o:=by simpa using bg
  obtain⟨s,J,ae,aq,_⟩:=CA (ops:=ops) ops.toList 0 [] [] (λk=>by simp) (Ai hdr) (λj aL=>by omega) i o ko
  have:=Ai hdr s (List.mem_of_getElem? J)
  rw[aq] at this
  have sk:s.i=i:=by omega
  rw[sk] at this;exact this
 have ou:=YX wu (w.tape w.drawn (.order b.fn id))
 have dD:Steps P (lone (b.atR a (.code (.region id ops true)::k)) cs w) (lone (b.atR a (.inRegion ops (Region.schedule true ops (w.tape w.drawn (.order b.fn id)))::k)) cs b_):=by
  have:=stepR_region_draw (P:=P) (b:=b) (a:=a) (k:=k) (cs:=cs) (w:=w) (ops:=ops) (id:=id)
  rw[hm] at this
  exact .one this
 have hinv:Inv X [] 0 μ b_ a cs:=by
  refine⟨Nat.zero_le _,(λj aL=>by cases aL),(λj aL=>by cases aL),(λi s J ae aq=>⟨λaL=>(by cases aL),λaL=>(by omega)⟩),?_,?_,?_,?_,λi hi _=>?_,(λi s v ob J ae aq aQ=>by omega),λi hi ae=>?_,?_,(λi s v ob J ae aq aQ=>by cases aq),?_,bQ⟩
  · show bI μ (f 0).h b_
    rw[f0,m6]
    exact⟨λiP o i ag hi=>(ar.rel iP o i ag hi).mono (fE.refl μ) rfl,ar.inj,λiP i hi=>⟨Nat.lt_of_lt_of_le (ar.lt iP i hi).1 (Nat.le_add_right _ _),(ar.lt iP i hi).2⟩,λiP ag=>ar.bound iP (Nat.le_trans (Nat.le_add_right _ _) ag)⟩
  · show cD μ H w μ (f 0).h b_
    rw[f0,m6]
    exact⟨fE.refl μ,Nat.le_refl _,Nat.le_add_right _ _,λ_ _ aA=>aA,λ_ _ _=>rfl,λ_ _ _=>rfl,(λiP i J ae=>by rw[J] at ae;cases ae),λ_ _ _ ag _ _=>⟨ag,rfl⟩,rfl,rfl,rfl,Nat.le_succ _⟩
  · show iB μ (f 0).d a.defers
    rw[f0,m6];exact aH
  · show kn μ b.kind cs0 (f 0).q cs
    rw[f0,m6];exact bB
  · show μ (H.n+i)=none
    cases e:μ (H.n+i) with
    |none=>rfl
    |some fA=>have:=(ar.lt _ fA e).1;omega
  · show(f 0).h.get (H.n+i)=none
    rw[f0,m6]
    exact ar.bound (H.n+i) (Nat.le_add_right _ _)
  · show H.n+ops.size<=(f 0).h.n
    rw[f0,m6];exact Nat.le_refl _
  · intro t
    exact⟨λj o aL=>(by cases aL),λ_ ag=>aj t ag⟩
 have P1:∀(nx:Option Nat) (hA:oj P need ops r (f N).env.length (f N).env nx (f N).h (f N).bp (fW ops.toList 0 [] [])=true) (kL:∀e,nx=some e->e=N/\N<ops.size)
   (vW:∀s,(fW ops.toList 0 [] [])[N]? =some s->kindOf P s.o.op=.fq/\(∀e m h0 l,(f N).bp=(e,m,h0)::l->Nat.testBit s.fL e=true)/\∀k bF,N<k->(fW ops.toList 0 [] [])[k]? =some bF->Nat.testBit bF.fL s.i=true),hl X:=by
  intro nx hA kL vW
  refine⟨ak,eF,tl,hdr,eo,PZ,by show(f 0).env=[];rw[f0,m6],by show(f 0).bp=[];rw[f0,m6],λi s hi ah ai=>?_,vW,aB,ar⟩
  have jF:s.i=i:=by
   have JO:i<ops.size:=Nat.lt_of_lt_of_le hi eo
   obtain⟨bF,J,ae,_⟩:=CA (ops:=ops) ops.toList 0 [] [] (λk=>by simp) (Ai hdr) (λj aL=>by omega) i _ (show ops.toList[i]? =some ops[i] by simp[JO])
   have hH:(fW ops.toList 0 [] [])[i]? =some s:=ah
   rw[J] at hH;cases hH;omega
  have:=PX hA s (List.mem_of_getElem? ah) (by rw[P0 N (Nat.le_refl _),jF];exact hi) ai
  rw[P0 N (Nat.le_refl _),jF] at this
  exact⟨nx,this,kL⟩
 rcases An with⟨alA,ab⟩|⟨s,ah,ai,bg,Zl,v,bT,bZ,ay,he,ab⟩
 · subst ab
   simp only
   cases hA:oj P need ops r (f N).env.length (f N).env none (f N).h (f N).bp (fW ops.toList 0 [] []) with
   |false=>trivial
   |true=>
    simp only
    have bk:=P1 none hA (λe he=>by cases he) (λs ah=>by rw[List.getElem?_eq_none (by omega)] at ah;cases ah)
    have bO:JN X (.ok (f N).env (f N).d (f N).q (f N).h):=⟨λ_=>rfl,λcf=>by
     have IQ:N<ops.size:=cf
     omega⟩
    exact jE.JM (X:=X) dD (Inv.order bk bO k _ [] 0 μ b_ a cs ou hinv)
 · subst ab
   simp only
   have jF:s.i=N:=by
    have JO:N<ops.size:=by have:=(List.getElem?_eq_some_iff.1 ah).1;omega
    obtain⟨bF,J,ae,_⟩:=CA (ops:=ops) ops.toList 0 [] [] (λk=>by simp) (Ai hdr) (λj aL=>by omega) N _ (show ops.toList[N]? =some ops[N] by simp[JO])
    rw[J] at ah;cases ah;omega
   have Zm:N<ops.size:=by have:=(List.getElem?_eq_some_iff.1 ah).1;omega
   cases hA:oj P need ops r (f N).env.length (f N).env (some s.i) (f N).h (f N).bp (fW ops.toList 0 [] []) with
   |false=>trivial
   |true=>
    simp only
    have bk:=P1 (some s.i) hA (λe he=>by cases he;exact⟨jF,Zm⟩) (λbF e3=>by rw[ah] at e3;cases e3;exact⟨ai,bg,Zl⟩)
    have bO:JN X (.aK v bT bZ ay):=⟨λe=>by
     have b0:N=ops.size:=e
     omega,λ_ bF e3=>by
     have hH:(fW ops.toList 0 [] [])[N]? =some bF:=e3
     rw[ah] at hH;cases hH
     exact⟨v,bT,bZ,ay,he,rfl⟩⟩
    exact jE.JM (X:=X) dD (Inv.order bk bO k _ [] 0 μ b_ a cs ou hinv)
structure Fit(P:Program):Prop where
 mixed:P.follows .mixedOrders=true
 code:Cu P
 ext:FP P
theorem Aq(aM:Fit P){intr:Nat->List aa->I->Option (aa×I)}(hi:kJ P intr)(n:Nat):pf P (eA P intr n):=
 Py hi (λcall ak need cQ=>Zh aM.mixed ak need cQ) aM.code aM.ext n
end
end aJ
namespace aJ
open Go Go.RowKit Go.ChangeShapes Go.WideShapes
section
variable {P:Program}
def Zn(P:Program):Bool:=P.funcs.toList.all λfn=>match fn.body with
 |some c=>k0 fn.ntmps c&&!(fn.name== "runtime.NumGoroutine")
 |none=>true
def Zo(P:Program):Bool:=P.funcs.toList.all λfn=>match fn.body with
 |some _=>true
 |none=>!wo.contains fn.name||(Extern.findNext fn).isNone
theorem P2{g:FuncId}{cn:Func}(h:P.funcs[g]? =some cn):cn∈P.funcs.toList:=by
 rw[<-Array.getElem?_toList] at h;exact List.mem_of_getElem? h
theorem Zp(hm:P.follows .mixedOrders=true)(ak:Zn P=true)(he:Zo P=true):Fit P where
 mixed:=hm
 code:=λg cn gc aB ag=>by
  have:=List.all_eq_true.1 ak cn (P2 aB)
  rw[ag] at this
  simp only[Bool.and_eq_true,Bool.not_eq_true'] at this
  exact this
 ext:=λg cn aB ag aT=>by
  have:=List.all_eq_true.1 he cn (P2 aB)
  rw[ag] at this
  simp only[Bool.or_eq_true,Bool.not_eq_true',List.contains_eq_mem,decide_eq_false_iff_not] at this
  rcases this with h|h
  · exact absurd aT h
  · simpa using h
def yl(H:I):Prop:=∀b o,H.get b=some o->o.q0=true
theorem cD.below{μ a2:bG}{H a7:I}{W jG:World}(aj:yl H)(ar:bI μ H W)(h:cD μ H W a2 a7 jG):Below W.heap.size W jG:=by
 refine⟨h.os,h.tape,h.out,h.size,λr cf=>?_⟩
 by_cases he:∃b i,H.get b≠none/\μ b=some i/\i.bo=r
 · obtain⟨b,i,J,ae,rfl⟩:=he
   cases aB:H.get b with
   |none=>exact absurd aB J
   |some o=>exact(h.ro b o i aB (aj b o aB) ae).2
 · exact h.old r cf λb i J ae aq=>he ⟨b,i,J,ae,aq⟩
theorem Zq(aM:Fit P){intr:Nat->List aa->I->Option (aa×I)}(hi:kJ P intr){n:Nat}{f:Nat}{fn:Func}{c:Code}(ra:P.funcs[f]? =some fn)(ag:fn.body=some c){args:List aa}{H:I}{v:aa}{a7:I}
  (dD:eA P intr n (.fn f) args H=.ret v a7){μ:bG}{W:World}{vs:List Value}(ar:bI μ H W)(aB:j1 P μ)(aW:cF μ args vs):
  Calls P f ⟨vs⟩ W λe jG=>∃a2 u,e=.returned u/\bq a2 v u/\bI a2 a7 jG/\cD μ H W a2 a7 jG:=by
 have J:=(Aq aM hi n).fn f args H (by rw[dD];rfl) μ W vs ar aB aW
 rw[dD] at J
 obtain⟨_,JA⟩:=aM.code f fn c ra ag
 have he:=FK ra ag JA ⟨vs⟩ W
 rcases J with⟨v',w',aV,_⟩|⟨_,aU⟩
 · rw[he] at aV;cases aV
 · exact aU.mono λe jG h=>h
def F4:a8->Bool
 |.ret (.bool true) _=>true
 |_=>false
theorem Zr{r:a8}(h:F4 r=true):∃H,r=.ret (.bool true) H:=by
 unfold F4 at h
 split at h
 · exact⟨_,rfl⟩
 · cases h
theorem Zs(aM:Fit P){intr:Nat->List aa->I->Option (aa×I)}(hi:kJ P intr){n:Nat}{f:Nat}{fn:Func}{c:Code}(ra:P.funcs[f]? =some fn)(ag:fn.body=some c){args:List aa}{H:I}
  (dD:F4 (eA P intr n (.fn f) args H)=true){μ:bG}{W:World}{vs:List Value}(ar:bI μ H W)(aj:yl H)(aB:j1 P μ)(aW:cF μ args vs):
  Calls P f ⟨vs⟩ W λe jG=>e=.returned (.bool true)/\Below W.heap.size W jG:=by
 obtain⟨a7,e⟩:=Zr dD
 exact(Zq aM hi ra ag e ar aB aW).mono λe jG ⟨a2,u,J,ae,aq,aQ⟩=>⟨by cases ae;exact J,aQ.below aj ar⟩
def JP(P:Program):Bool:=match P.globals.size with
 |0=>true
 |g+1=>(((begin P (λ_ _=>0) default).world.heap[g]?).bind Obj.row?).isSome
theorem Zt{W:World}(ah:W.ShapedOpen P)(ag:JP P=true):P.globals.size<=W.heap.size:=by
 unfold JP at ag
 cases aB:P.globals.size with
 |zero=>exact Nat.zero_le _
 |succ g=>
  rw[aB] at ag
  simp only at ag
  obtain⟨⟨zero,t⟩,ab⟩:=Option.isSome_iff_exists.1 ag
  obtain⟨cs,J,_⟩:=ah.1 g zero t (by omega) ab
  have:=(Array.getElem?_eq_some_iff.1 J).1
  omega
variable {H:Type} {enc:TypeId×Value->H}
theorem P3(aA:laidOutB P=true){W jG:World}(ag:Below W.heap.size W jG){sp:Nat->Bool}:∀{bl:List TypeId} {vs:List Value} {bN:List (DataW H)} {ps:List MemPlace},(∀t∈bl,P.readableRec t=true/\t<P.types.size)->
  DataW.TrodAll enc P W 0 (λ_=>true) true bl vs bN ps->(∀x∈ps,x.block<W.heap.size/\sp x.block=true)->DataW.TrodAll enc P jG 0 sp true bl vs bN ps
 |[],[],[],_,_,h,_=>h
 |_::_,_::_,_::_,_,de,⟨p,q,J,ae,e⟩,ah=>
  ⟨p,q,WideElems.Trod_stays aA (de _ (by simp)).1 (de _ (by simp)).2 J (λx ab=>ag.same (ah x (by rw[e];simp[ab])).1) (λx ab=>(ah x (by rw[e];simp[ab])).2),
    P3 aA ag (λt aI=>de t (by simp[aI])) ae (λx ab=>ah x (by rw[e];simp[ab])),e⟩
theorem Zu{f:Func}{s:ChangeSpec}{apart fresh handsOn again:Bool}{W jG:World}{args:Array Value}{bN gs:List (DataW H)}{before:List MemPlace}{b1:TypeId}
  (aA:laidOutB P=true)(de:∀t∈f.params.toList,P.readableRec t=true/\t<P.types.size)(iG:f.resultTypes=#[b1])(CP:P.underlying b1=some .bool)(JQ:s.vars=[])
  (iv:DataW.Whole enc P f.params.toList s.vars apart W args.toList bN gs before)(ra:s.fn H bN={results:=[.lit (.bool true)],args:=bN})(ag:Below W.heap.size W jG):
  s.post enc P f apart fresh handsOn again W args (.bool true) jG:=by
 have cf:∀p∈before,p.block<W.heap.size:=λp a3=>iv.lt p a3
 have F5:=iv
 obtain⟨lM,Jf,lk,l2,rfl,bm,aT⟩:=iv
 rw[JQ] at l2
 obtain⟨rfl,rfl⟩:=trodVars_none l2
 have e:s.fn H (bN++[])={results:=[.lit (.bool true)],args:=bN}:=by rw[List.append_nil];exact ra
 have je:∀sp:Nat->Bool,(∀p∈lM++[],sp p.block=true)->DataW.TrodAll enc P jG 0 sp true f.params.toList args.toList bN lM:=λsp CQ=>
  P3 aA ag de lk (λx ab=>⟨cf x (by simp[ab]),CQ x (by simp[ab])⟩)
 have gU:∀(b:Nat) (sp:Nat->Bool) (aH:Bool),DataW.TrodAll enc P jG b sp aH f.resultTypes.toList ((Value.bool true).resultList f.resultTypes.size) [.lit (.bool true)] []:=λb sp aH=>by
  rw[iG];exact trodAll_mk1 (shut_bool CP true)
 refine⟨bN,[],lM++[],[],lM,[],F5,?_,?_,?_,World.keptBut_mono (λp a3=>⟨a3,?_⟩) (ag.frame (· ∈lM++[])),λ_=>?_⟩
 · rw[e];exact gU _ _ _
 · rw[e];exact je _ λp a3=>by simpa using cf p a3
 · rw[e,JQ];rfl
 · exact Or.inr (by simpa using a3)
 · refine⟨ok_one iG rfl (okWide_bool_mk CP true),_,_,([]++lM)++[],⟨[]++lM,[],trodAll_append (je _ (λ_ _=>rfl)) (gU _ _ _),show DataW.TrodVars enc P jG (λ_=>true) s.vars [] [] from by rw[JQ];rfl,rfl,?_,?_⟩,?_⟩
   · intro b off a3
     have eF:MemPlace.cell b off∈lM++[]:=by simpa using a3
     rw[ag.frozen (cf _ eF)]
     exact bm b off eF
   · intro a_
     simpa using aT a_
   · intro p a3 _
     simpa using a3
theorem Zv{a:Assume}{C:Checked}{os:Os}{f:FuncId}{fn:Func}{s:ChangeSpec}{conds:List PathCond}{apart fresh handsOn again:Bool}{X:World->Array Value->Prop}
  (bk:∀(w w':World) (args:Array Value),w.heap=w'.heap->X w args->X w' args)
  (own:ownKnob C.prog.godebug=none)(started:os.Started)(Zw:C.prog.inits.idxOf? f=none)(ra:C.prog.funcs[f]? =some fn)
  (witness:∃(w:World) (tape:Tape) (i:Input),w.os=os/\(w.forCall tape i).Shaped C.prog/\i.vars=[]/\Input.okWide C.prog (w.forCall tape i) .any w.heap.size f i/\
   ((s.pre enc C.prog fn conds apart (w.forCall tape i).memory i.args/\X (w.forCall tape i).memory i.args)/\sizedMet enc C.prog fn (OpenSpec.ofChange s) apart (w.forCall tape i).memory i.args)/\a.holds C.prog (lone (Frame.enter C.prog f i.args .normal) [] (w.forCall tape i)))
  (Zx:∀(W:World) (base:Nat) (args:Array Value) (bN gs:List (DataW H)) (before:List MemPlace),
   (∀(j:Nat) t v,fn.params[j]? =some t->args[j]? =some v->Value.okWide C.prog W .any base t v)->
   DataW.Whole enc C.prog fn.params.toList s.vars apart W args.toList bN gs before->
   (DataW.weightsEach C.prog (fn.params.toList++s.plain.varTypes C.prog) (bN++gs)).all (· <=reachBytes)=true->X W args->W.ShapedOpen C.prog->
   Calls C.prog f args W λe jG=>∃v,e=.returned v/\s.post enc C.prog fn apart fresh handsOn again W args v jG):
  ReturnsInHanded a C os f .any (λw args=>(s.pre enc C.prog fn conds apart w args/\X w args)/\sizedMet enc C.prog fn (OpenSpec.ofChange s) apart w args) (s.post enc C.prog fn apart fresh handsOn again):=by
 refine returnsInHanded_of_calls own started Zw witness ?_
 intro w tape i _ JR _ fB CR alB
 obtain⟨_,_,_,IC,Zy,_,_,_,_,ot⟩:=fB
 have e:IC=fn:=Option.some.inj (Zy.symm.trans ra)
 subst e
 obtain⟨⟨⟨bN,gs,before,hw,ak⟩,ab⟩,bm⟩:=CR
 have CN:=DataW.Whole.of_heap (w':=w.forCall tape i) (by rfl) hw
 refine(Zx (w.forCall tape i) w.heap.size i.args bN gs before ot CN (bm.weights hw) (bk _ _ _ (by rfl) ab) JR).mono λe jG ⟨v,he,a3⟩=>?_
 subst he
 exact ChangeSpec.post_blind a3
end
end aJ
namespace aJ
open Go Go.RowKit
mutual
def nI:aa->Bool
 |.bool _=>true
 |.int _ _=>true
 |.str _=>true
 |.au=>true
 |.ao=>true
 |.jA=>true
 |.lg=>true
 |.c3=>true
 |.fn _ a b=>l3 a&&l3 b
 |.iface _ v=>nI v
 |.agg cs=>l3 cs
 |.aF vs=>l3 vs
 |_=>false
def l3:List aa->Bool
 |[]=>true
 |v::vs=>nI v&&l3 vs
end
mutual
theorem CS{μ a2:bG}:∀(a:aa) (v:Value),nI a=true->bq μ a v->bq a2 a v
 |.bool _,v,_,h=>h
 |.int _ _,v,_,h=>h
 |.str _,v,_,h=>h
 |.au,v,_,h=>h
 |.ao,v,_,h=>h
 |.jA,v,_,h=>h
 |.lg,v,_,h=>h
 |.c3,v,_,h=>h
 |.fn f a b,v,aj,h=>by
  simp only[nI,Bool.and_eq_true] at aj
  obtain⟨dh,cs,e,J,ae⟩:=h
  exact⟨dh,cs,e,tu _ _ aj.1 J,tu _ _ aj.2 ae⟩
 |.iface t x,v,aj,h=>by
  simp only[nI] at aj
  obtain⟨y,e,J⟩:=h
  exact⟨y,e,CS _ _ aj J⟩
 |.agg cs,v,aj,h=>by
  simp only[nI] at aj
  obtain⟨l,e,J⟩:=h
  exact⟨l,e,tu _ _ aj J⟩
 |.aF cs,v,aj,h=>by
  simp only[nI] at aj
  obtain⟨l,e,J⟩:=h
  exact⟨l,e,tu _ _ aj J⟩
 |.bad,v,aj,h=>by simp[nI] at aj
 |.ptr _ _,v,aj,h=>by simp[nI] at aj
 |.slice _ _ _ _,v,aj,h=>by simp[nI] at aj
 |.map _,v,aj,h=>by simp[nI] at aj
 |.gJ _,v,aj,h=>by simp[nI] at aj
theorem tu{μ a2:bG}:∀(as:List aa) (vs:List Value),l3 as=true->cF μ as vs->cF a2 as vs
 |[],vs,_,h=>h
 |a::as,vs,aj,h=>by
  simp only[l3,Bool.and_eq_true] at aj
  obtain⟨v,FJ,e,J,ae⟩:=h
  exact⟨v,FJ,e,CS a v aj.1 J,tu as FJ aj.2 ae⟩
end
structure rh where
 f:Nat
 args:List aa
 v:aa
def wE:List rh->Nat->List aa->I->Option (aa×I)
 |[],_,_,_=>none
 |e::T,f,args,h=>match Nat.beq f e.f with
  |true=>match aa.o5 args e.args with
   |true=>some (e.v,h)
   |false=>wE T f args h
  |false=>wE T f args h
theorem JS:∀(T:List rh) (f:Nat) (args:List aa) (h:I) (v:aa) (ay:I),wE T f args h=some (v,ay)->ay=h/\∃e∈T,e.f=f/\e.args=args/\e.v=v
 |[],f,args,h,v,ay,ab=>by cases ab
 |e::T,f,args,h,v,ay,ab=>by
  simp only[wE] at ab
  have rest:wE T f args h=some (v,ay)->ay=h/\∃b0∈e::T,b0.f=f/\b0.args=args/\b0.v=v:=λab=>by
   obtain⟨J,b0,ae,aq⟩:=JS T f args h v ay ab
   exact⟨J,b0,List.mem_cons_of_mem _ ae,aq⟩
  split at ab
  · rename_i aM
    split at ab
    · rename_i a_
      cases ab
      exact⟨rfl,e,by simp,(Nat.eq_of_beq_eq_true aM).symm,(wx _ _ a_).symm,rfl⟩
    · exact rest ab
  · exact rest ab
section
variable {P:Program}
theorem x4.mono{f:FuncId}{vs:List Value}{w:World}{R P4:Ending->World->Prop}(h:∀e w',R e w'->P4 e w')(aB:x4 P f vs w R):x4 P f vs w P4:=by
 rcases aB with⟨v,w',J,ae⟩|⟨J,ae⟩
 · exact .inl ⟨v,w',J,h _ _ ae⟩
 · exact .inr ⟨J,ae.mono λe w' he=>h e w' he⟩
end
end aJ
namespace aJ
open Go
def Ar(h:I)(r:List aa×Nat):I:=h.push (.cells r.1 r.2 .ro 0 0)
theorem P5:∀(rows:List (List aa×Nat)) (h:I),(∀b,h.n<=b->h.get b=none)->(rows.foldl Ar h).n=h.n+rows.length/\∀b,(rows.foldl Ar h).get b=if b<h.n then h.get b else(rows[b-h.n]?).map λr=>.cells r.1 r.2 .ro 0 0
 |[],h,ag=>⟨rfl,λb=>by
  split
  · rfl
  · rename_i aT;simpa using ag b (by omega)⟩
 |r::rows,h,ag=>by
  have aT:(Ar h r).n=h.n+1:=rfl
  have aB:∀b,(Ar h r).get b=if b=h.n then some (.cells r.1 r.2 .ro 0 0) else h.get b:=λb=>I.mZ _ _ _
  obtain⟨aV,aU⟩:=P5 rows (Ar h r) λb J=>by rw[aB,if_neg (by omega)];exact ag b (by omega)
  refine⟨by rw[List.foldl_cons,aV,aT,List.length_cons];omega,λb=>?_⟩
  rw[List.foldl_cons,aU,aT,aB]
  by_cases J:b<h.n
  · rw[if_pos (by omega),if_neg (by omega),if_pos J]
  · rw[if_neg J]
    by_cases ae:b=h.n
    · subst ae;rw[if_pos (by omega),if_pos rfl,Nat.sub_self];rfl
    · rw[if_neg (by omega)]
      obtain⟨k,rfl⟩:∃k,b=h.n+(k+1):=⟨b-h.n-1,by omega⟩
      have aG:h.n+(k+1)-(h.n+1)=k:=by omega
      have aE:h.n+(k+1)-h.n=k+1:=by omega
      rw[aG,aE];rfl
def JT(W:World)(i:gx)(cs:List aa)(el:Nat):Prop:=∃c fz,W.heap[i.bo]? =some (.cells c el fz)/\(∀μ,BX μ cs c i.base)/\i.base+i.size=c.size
end aJ
namespace aJ
open Go
end aJ
