/-
  THE ABSTRACT EVALUATOR (drawn regions; a run of the evaluator is a run of the program): a deterministic semantics of loaded code, and the proof that its runs are runs of the program in the model, whatever the tape draws. No condition.
-/
import Derived.Test.YtfooahfebojldaaGreatDoorAec
import Derived.Handed
import Derived.ProofKit
import Derived.Below
import Derived.ChangeSame
import Derived.SliceStrings
import Derived.WideShapes
set_option linter.unusedVariables false
set_option linter.unusedSimpArgs false
namespace aC
open Go
structure ia where
 P:Program
 need:Nat
 cG:Nat
 inR:Bool
 call:aE->List J->aa->ao
 ops:Array Oper
 r:a0
 b:Frame
 nk:bG
 H:aa
 cX:World
 cs0:List Frame
 N:Nat
 f:Nat->tH
def ia.steps(X:ia):List DStep:=fK X.ops.toList 0 [] []
def ia.val(X:ia)(j:Nat):J:=(nth (X.N-1-j) (X.f X.N).env).getD .bad
structure gC(X:ia):Prop where
 ai:mL X.P X.call
 eV:X.inR=X.b.roundOf.isSome
 p1:∀o∈X.ops.toList,∀t,o.dst=some t->t<X.cG
 hdr:qM X.ops X.steps=true
 fU:X.N<=X.ops.size
 tJ:∀k s,k<X.N->X.steps[k]? =some s->tI X.P X.need X.inR X.call X.ops X.r X.H.n s (X.f k) (X.f (k+1))
 RC:(X.f 0).env=[]
 sk:(X.f 0).bg=[]
 looks:∀i s,i<X.N->X.steps[i]? =some s->kindOf X.P s.o.op=.pure->∃eF,lN X.P X.need X.ops X.r X.N (X.f X.N).env s (X.val i) eF (X.f X.N).h (X.f X.N).bg=true/\(∀e,eF=some e->e=X.N/\X.N<X.ops.size)
 last:∀s,X.steps[X.N]? =some s->kindOf X.P s.o.op=.eY/\(∀e m az l,(X.f X.N).bg=(e,m,az)::l->Nat.testBit s.fD e=true)/\∀k a2,X.N<k->X.steps[k]? =some a2->Nat.testBit a2.fD s.i=true
 pX:jt X.P X.nk
 A3:bD X.nk X.H X.cX
section
variable {X:ia}
theorem gC.mN(bB:gC X){i:Nat}(hi:i<X.ops.size):∃s,X.steps[i]? =some s/\s.i=i/\X.ops[i]? =some s.o/\s.loc=jC (X.ops.toList.take i) 0 []/\Sound X.ops i s.fD:=by
 have a7:X.ops.toList[i]? =some X.ops[i]:=by simp[hi]
 obtain⟨s,ab,ae,aB,aP,cg⟩:=ya (ops:=X.ops) X.ops.toList 0 [] [] (λk=>by simp) (vG bB.hdr) (λj aV=>by omega) i _ a7
 refine⟨s,ab,by omega,by rw[aB];exact Array.getElem?_eq_getElem hi,aP,by simpa using cg⟩
theorem gC.md(bB:gC X){i:Nat}{s:DStep}(h:X.steps[i]? =some s):i<X.ops.size/\s.i=i/\X.ops[i]? =some s.o/\s.loc=jC (X.ops.toList.take i) 0 []/\Sound X.ops i s.fD:=by
 have hi:i<X.ops.size:=by
  have ab:=(List.getElem?_eq_some_iff.1 h).1
  rw[ia.steps,D4] at ab
  simpa using ab
 obtain⟨a2,ab,ae⟩:=bB.mN hi
 rw[h] at ab;cases ab
 exact⟨hi,ae⟩
theorem gC.apart(bB:gC X){i j:Nat}{s a2:DStep}(yb:i<j)(ab:X.steps[i]? =some s)(ae:X.steps[j]? =some a2)(h:(∃t,s.o.dst=some t/\t∈mD X.ops a2.o)\/(∃t,a2.o.dst=some t/\t∈mD X.ops s.o)):Nat.testBit a2.fD i=true:=by
 have:=Je bB.hdr i j s a2 yb ab ae h
 rw[(bB.md ab).2.1] at this;exact this
theorem gC.A4(bB:gC X):∀k,k<=X.N->(X.f k).env.length=k
 |0,_=>by rw[bB.RC];rfl
 |k+1,ax=>by
  obtain⟨s,ab,_⟩:=bB.mN (i:=k) (by have:=bB.fU;omega)
  have bt:=bB.A4 k (by omega)
  have bh:=bB.tJ k s (by omega) ab
  generalize X.f (k+1)=st at bh
  cases bh<;>simp[bt]
theorem gC.Jg(bB:gC X)(k:Nat):∀m,k<=m->m<=X.N->∃l,(X.f m).env=l++(X.f k).env
 |0,ab,ae=>⟨[],by obtain rfl:k=0:=by omega
                  rfl⟩
 |m+1,ab,ae=>by
  by_cases e:k=m+1
  · exact⟨[],by rw[e];rfl⟩
  · obtain⟨l,aD⟩:=bB.Jg k m (by omega) (by omega)
    obtain⟨s,hs,_⟩:=bB.mN (i:=m) (by have:=bB.fU;omega)
    have bh:=bB.tJ m s (by omega) hs
    have:∃v,(X.f (m+1)).env=v::(X.f m).env:=by
     generalize X.f (m+1)=st at bh
     cases bh<;>exact⟨_,rfl⟩
    obtain⟨v,aJ⟩:=this
    exact⟨v::l,by rw[aJ,aD];rfl⟩
theorem Jh{α:Type}:∀(l m:List α) (k:Nat),nth (l.length+k) (l++m)=nth k m
 |[],m,k=>by simp
 |a::l,m,k=>by
  have:(a::l).length+k=(l.length+k)+1:=by simp;omega
  rw[this];exact Jh l m k
theorem gC.D5(bB:gC X){k j:Nat}(ax:k<=X.N)(aV:j<k):nth (k-1-j) (X.f k).env=nth (X.N-1-j) (X.f X.N).env:=by
 obtain⟨l,aD⟩:=bB.Jg k X.N ax (Nat.le_refl _)
 have ab:=bB.A4 k ax
 have ae:=bB.A4 X.N (Nat.le_refl _)
 rw[aD] at ae⊢
 simp only[List.length_append,ab] at ae
 have:X.N-1-j=l.length+(k-1-j):=by omega
 rw[this,Jh]
theorem gC.A5(bB:gC X){k:Nat}(ax:k<X.N){v:J}(h:(X.f (k+1)).env=v::(X.f k).env):X.val k=v:=by
 have ab:=bB.D5 (k:=k+1) (j:=k) ax (Nat.lt_succ_self k)
 unfold ia.val
 rw[<-ab,h]
 simp[nth]
theorem gC.Ji(bB:gC X){k:Nat}(ax:k<=X.N){a:Acc}(bl:a.below k):ez k (X.f k).env X.r a=ez X.N (X.f X.N).env X.r a:=by
 cases a with
 |env j=>simp only[ez];rw[bB.D5 ax bl]
 |reg p=>rfl
 |val v=>rfl
theorem yc(l:List Oper)(t:Nat):∀k,k<=l.length->
  (∀a,jm t (jC (l.take k) 0 [])=some a->∃j o,j<k/\a=.env j/\l[j]? =some o/\o.dst=some t/\∀ku o',j<ku->ku<k->l[ku]? =some o'->o'.dst≠some t)/\
  (jm t (jC (l.take k) 0 [])=none->∀j o,j<k->l[j]? =some o->o.dst≠some t)
 |0,_=>⟨λa h=>by simp[jC,jm] at h,λ_ j o aV=>by omega⟩
 |k+1,ax=>by
  obtain⟨A6,A7⟩:=yc l t k (by omega)
  have a7:l[k]? =some l[k]:=List.getElem?_eq_getElem (by omega)
  rw[Jc l 0 [] k l[k] a7,Nat.zero_add]
  unfold mA
  cases aj:(l[k]).dst with
  |none=>
   refine⟨λa h=>?_,λh j o aV na=>?_⟩
   · obtain⟨j,o,ab,ae,aB,aP,cg⟩:=A6 a h
     refine⟨j,o,by omega,ae,aB,aP,λku o' aY aR bW=>?_⟩
     by_cases e:ku=k
     · subst e;rw[a7] at bW;cases bW;rw[aj];simp
     · exact cg ku o' aY (by omega) bW
   · by_cases e:j=k
     · subst e;rw[a7] at na;cases na;rw[aj];simp
     · exact A7 h j o (by omega) na
  |some d=>
   simp only[oX]
   by_cases e:t=d
   · subst e
     refine⟨λa h=>?_,λh=>by simp at h⟩
     simp at h;subst h
     exact⟨k,_,by omega,rfl,a7,aj,λku o' aY aR=>by omega⟩
   · simp only[e,if_false]
     refine⟨λa h=>?_,λh j o aV na=>?_⟩
     · obtain⟨j,o,ab,ae,aB,aP,cg⟩:=A6 a h
       refine⟨j,o,by omega,ae,aB,aP,λku o' aY aR bW=>?_⟩
       by_cases aG:ku=k
       · subst aG;rw[a7] at bW;cases bW;rw[aj];simp;exactλed=>e ed.symm
       · exact cg ku o' aY (by omega) bW
     · by_cases aG:j=k
       · subst aG;rw[a7] at na;cases na;rw[aj];simp;exactλed=>e ed.symm
       · exact A7 h j o (by omega) na
def ia.tK(X:ia)(S:List Nat)(μ:bG)(cv:Array Value):Prop:=∀t,
 (∀j o,j∈S->X.ops[j]? =some o->o.dst=some t->(∀k o',k∈S->X.ops[k]? =some o'->o'.dst=some t->k<=j)->bn μ (X.val j) (cv.getD t undef))/\
 ((∀j o,j∈S->X.ops[j]? =some o->o.dst≠some t)->Nat.testBit X.need t=true->bn μ (X.r.get (hP t)) (cv.getD t undef))
theorem ia.tK.mono{S:List Nat}{μ a4:bG}{cv:Array Value}(hle:fL μ a4)(h:X.tK S μ cv):X.tK S a4 cv:=λt=>⟨λj o ab ae aB aP=>((h t).1 j o ab ae aB aP).mono hle,λab ae=>((h t).2 ab ae).mono hle⟩
theorem gC.Jj(bB:gC X){S:List Nat}(ir:A2 X.ops S){μ:bG}{cv:Array Value}(al:X.tK S μ cv){i:Nat}(hi:i<=X.N)(eG:i∉S)(dA:lQ X.ops S i){s:DStep}(hs:X.steps[i]? =some s){t:Nat}(bh:t∈mD X.ops s.o):
  bn μ (ez i (X.f i).env X.r (c_ X.P X.need s.loc (.tmp t))) (cv.getD t undef):=by
 obtain⟨eV,ix,fT,nm,mO⟩:=bB.md hs
 obtain⟨f1,f2⟩:=yc X.ops.toList t i (by simp;omega)
 have Jk:∀k o',k∈S->X.ops[k]? =some o'->o'.dst=some t->k<i:=λk o' ax iX aj=>by
  have p6:k<X.ops.size:=(Array.getElem?_eq_some_iff.1 iX).1
  rcases Nat.lt_trichotomy k i with h|h|h
  · exact h
  · subst h;exact absurd ax eG
  · obtain⟨a2,aY,aR,bW,eu,iD⟩:=bB.mN p6
    rw[iX] at bW;cases bW
    have:=bB.apart h hs aY (.inr ⟨t,aj,bh⟩)
    exact absurd (iD S ir (ir k ax) i this) eG
 simp only[c_,nm]
 cases hf:jm t (jC (X.ops.toList.take i) 0 []) with
 |some a=>
  obtain⟨j,o,aV,rfl,na,aj,rV⟩:=f1 a hf
  have Jl:X.ops[j]? =some o:=by simpa using na
  obtain⟨a2,aY,aR,bW,eu,iD⟩:=bB.mN (i:=j) (by omega)
  rw[Jl] at bW;cases bW
  have D6:j∈S:=mO S ir dA j (bB.apart aV aY hs (.inl ⟨t,aj,bh⟩))
  have:=(al t).1 j _ D6 Jl aj λk o' ax iX ng=>by
   have RD:=Jk k o' ax iX ng
   rcases Nat.lt_or_ge j k with h|h
   · exact absurd ng (rV k o' h RD (by simpa using iX))
   · exact h
  have aJ:ez i (X.f i).env X.r (.env j)=X.val j:=by
   simp only[ez,ia.val]
   rw[bB.D5 hi aV]
  simp only[aJ];exact this
 |none=>
  simp only[]
  cases ag:Nat.testBit X.need t with
  |false=>trivial
  |true=>
   exact(al t).2 (λj o aV a7 aj=>f2 hf j o (Jk j o aV a7 aj) (by simpa using a7) aj) ag
theorem gC.Jm(bB:gC X){S:List Nat}(ir:A2 X.ops S){μ:bG}{a:Act}(bX:a.tmps.size=X.cG)(al:X.tK S μ a.tmps){i:Nat}(eG:i∉S)(dA:lQ X.ops S i){s:DStep}(hs:X.steps[i]? =some s){u:Value}(hu:bn μ (X.val i) u):
  X.tK (i::S) μ (a.put s.o.dst u).tmps:=by
 obtain⟨eV,ix,fT,nm,mO⟩:=bB.md hs
 have cB:∀t,s.o.dst=some t->t<a.tmps.size:=λt h=>by
  rw[bX];exact bB.p1 s.o (by rw[<-Array.getElem?_toList] at fT;exact List.mem_of_getElem? fT) t h
 intro t
 by_cases aj:s.o.dst=some t
 · have js:(a.put s.o.dst u).tmps.getD t undef=u:=by
     rw[aj];simp only[Act.put];rw[x1 (cB t aj),if_pos rfl]
   have RE:∀k o',k∈S->X.ops[k]? =some o'->o'.dst=some t->k<i:=λk o' ax iX ng=>by
    have p6:k<X.ops.size:=(Array.getElem?_eq_some_iff.1 iX).1
    rcases Nat.lt_trichotomy k i with h|h|h
    · exact h
    · subst h;exact absurd ax eG
    · obtain⟨a2,aY,aR,bW,eu,iD⟩:=bB.mN p6
      rw[iX] at bW;cases bW
      have:=bB.apart h hs aY (.inr ⟨t,ng,by simp[mD,aj]⟩)
      exact absurd (iD S ir (ir k ax) i this) eG
   refine⟨λj o aV a7 A8 xU=>?_,λtL=>absurd aj (tL i s.o (by simp) fT)⟩
   have yb:=xU i s.o (by simp) fT aj
   rcases List.mem_cons.1 aV with rfl|aV
   · rw[js];exact hu
   · have:=RE j o aV a7 A8;omega
 · have js:(a.put s.o.dst u).tmps.getD t undef=a.tmps.getD t undef:=by
     cases vJ:s.o.dst with
     |none=>rfl
     |some d=>
      simp only[Act.put]
      rw[x1 (cB d vJ),if_neg (λe=>aj (by rw[vJ,e]))]
   rw[js]
   refine⟨λj o aV a7 A8 xU=>?_,λtL ag=>(al t).2 (λj o aV a7=>tL j o (by simp[aV]) a7) ag⟩
   rcases List.mem_cons.1 aV with rfl|aV
   · rw[fT] at a7;cases a7;exact absurd A8 aj
   · exact(al t).1 j o aV a7 A8 λk o' ax iX ng=>xU k o' (by simp[ax]) iX ng
def qW(μ:bG)(w:World)(b:Nat)(ob:cJ):Prop:=∃i O,μ b=some i/\w.heap[i.bo]? =some O/\(∀a4 w',fL μ a4->w'.heap[i.bo]? =some O->pH a4 ob i w')/\(∀c j,c≠b->μ c=some j->j.bo≠i.bo)
theorem bD.D7{μ:bG}{H:aa}{w:World}(h:bD μ H w){b:Nat}{ob:cJ}(ag:b<H.n)(aU:μ b=none\/qW μ w b ob):bD μ (H.set b (some ob)) w:=by
 refine⟨λc o i ai hi=>?_,λc d i j ai aj hi aV e=>?_,λc i hi=>h.lt c i hi,λc ai=>?_⟩
 · rw[aa.bV] at ai
   by_cases e:c=b
   · subst e
     rw[if_pos rfl] at ai;cases ai
     rcases aU with aU|⟨Jn,O,ab,ae,aB,aP⟩
     · rw[aU] at hi;cases hi
     · rw[ab] at hi;cases hi
       exact aB μ w (fL.refl μ) ae
   · rw[if_neg e] at ai;exact h.rel c o i ai hi
 · rw[aa.bV] at ai aj
   by_cases aF:c=b
   · by_cases aG:d=b
     · rw[aF,aG]
     · subst aF
       rcases aU with aU|⟨Jn,O,ab,ae,aB,aP⟩
       · rw[aU] at hi;cases hi
       · rw[ab] at hi;cases hi
         exact absurd e.symm (aP d j aG aV)
   · by_cases aG:d=b
     · subst aG
       rcases aU with aU|⟨Jn,O,ab,ae,aB,aP⟩
       · rw[aU] at aV;cases aV
       · rw[ab] at aV;cases aV
         exact absurd e (aP c i aF hi)
     · rw[if_neg aF] at ai;rw[if_neg aG] at aj
       exact h.inj c d i j ai aj hi aV e
 · rw[aa.bV,if_neg (by simp at ai;omega)];exact h.bound c (by simpa using ai)
theorem cw.D7{nk μ:bG}{H yd:aa}{cX w:World}(ah:bD nk H cX)(h:cw nk H cX μ yd w){b:Nat}(ob:cJ)(ag:H.n<=b):cw nk H cX μ (yd.set b (some ob)) w where
 le:=h.le
 size:=h.size
 n:=by simpa using h.n
 live:=λc ai aD=>h.live c ai (by rw[aa.bV,if_neg (by omega)] at aD;exact aD)
 idle:=λc ai hm=>by rw[aa.bV,if_neg (by omega)];exact h.idle c ai hm
 old:=h.old
 new:=h.new
 ro:=λc o i ai al hi=>by
  have:=(ah.lt c i hi).1
  rw[aa.bV,if_neg (by omega)];exact h.ro c o i ai al hi
 os:=h.os
 out:=h.out
 tape:=h.tape
 drawn:=h.drawn
theorem bD.early{μ:bG}{H:aa}{w:World}(h:bD μ H w){b:Nat}{ob:cJ}{O:Obj}{sz:Nat}(ag:b<H.n)(hm:μ b=none)(a7:∀o,H.get b=some o->o=ob)
  (RF:∀a4 w',fL μ a4->w'.heap[w.heap.size]? =some O->pH a4 ob ⟨w.heap.size,0,sz⟩ w'):fL μ (gX μ b ⟨w.heap.size,0,sz⟩)/\bD (gX μ b ⟨w.heap.size,0,sz⟩) H (w.alloc O):=by
 have hle:fL μ (gX μ b ⟨w.heap.size,0,sz⟩):=λc i hi=>by
  rw[h4];exact hi
  intro e;subst e;rw[hm] at hi;cases hi
 have hold:∀r,r<w.heap.size->(w.alloc O).heap[r]? =w.heap[r]? :=λr al=>by
  simp only[World.alloc,Array.getElem?_push];rw[if_neg (by omega)]
 refine⟨hle,λc o i ai hi=>?_,λc d i j ai aj hi aV e=>?_,λc i hi=>?_,h.bound⟩
 · by_cases e:c=b
   · subst e
     rw[gY] at hi;cases hi
     rw[a7 o ai]
     exact RF _ _ hle (World.heap_alloc_new _ _)
   · rw[h4 _ _ e] at hi
     exact(h.rel c o i ai hi).mono hle (hold _ (h.lt c i hi).2)
 · by_cases aF:c=b
   · by_cases aG:d=b
     · rw[aF,aG]
     · subst aF;rw[gY] at hi;cases hi
       rw[h4 _ _ aG] at aV
       have:=(h.lt d j aV).2
       simp only at e;omega
   · by_cases aG:d=b
     · subst aG;rw[gY] at aV;cases aV
       rw[h4 _ _ aF] at hi
       have:=(h.lt c i hi).2
       simp only at e;omega
     · rw[h4 _ _ aF] at hi;rw[h4 _ _ aG] at aV
       exact h.inj c d i j ai aj hi aV e
 · by_cases e:c=b
   · subst e;rw[gY] at hi;cases hi
     exact⟨ag,by simp⟩
   · rw[h4 _ _ e] at hi
     have:=h.lt c i hi
     simp only[World.size_alloc];omega
theorem cw.early{nk μ:bG}{H yd:aa}{cX w:World}(ah:bD nk H cX)(h:cw nk H cX μ yd w){b:Nat}(ag:H.n<=b)(hm:μ b=none){O:Obj}{sz:Nat}:cw nk H cX (gX μ b ⟨w.heap.size,0,sz⟩) yd (w.alloc O):=by
 have hold:∀r,r<w.heap.size->(w.alloc O).heap[r]? =w.heap[r]? :=λr al=>by
  simp only[World.alloc,Array.getElem?_push];rw[if_neg (by omega)]
 exact{
  le:=λc i hi=>by
   have ab:=h.le c i hi
   rw[h4];exact ab
   intro e;subst e;rw[hm] at ab;cases ab
  size:=by have:=h.size;simp only[World.size_alloc];omega
  n:=h.n
  live:=h.live
  idle:=h.idle
  old:=λr al aM=>(hold r (Nat.lt_of_lt_of_le al h.size)).trans (h.old r al aM)
  new:=λc i ab ae=>by
   by_cases e:c=b
   · subst e;rw[gY] at ae;cases ae;exact⟨ag,.inl h.size⟩
   · rw[h4 _ _ e] at ae;exact h.new c i ab ae
  ro:=λc o i ai al hi=>by
   obtain⟨ab,ae⟩:=h.ro c o i ai al hi
   exact⟨ab,(hold _ (Nat.lt_of_lt_of_le (ah.lt c i hi).2 h.size)).trans ae⟩
  os:=h.os
  out:=h.out
  tape:=h.tape
  drawn:=h.drawn}
theorem qW.early{μ:bG}{H:aa}{w:World}(h:bD μ H w){b c:Nat}{ob:cJ}{O:Obj}{sz:Nat}(hm:μ b=none)(aU:qW μ w c ob):qW (gX μ b ⟨w.heap.size,0,sz⟩) (w.alloc O) c ob:=by
 obtain⟨i,D8,ab,ae,aB,aP⟩:=aU
 have eb:c≠b:=by intro e;subst e;rw[hm] at ab;cases ab
 have cB:=(h.lt c i ab).2
 have hle:fL μ (gX μ b ⟨w.heap.size,0,sz⟩):=λc i hi=>by
  rw[h4];exact hi
  intro e;subst e;rw[hm] at hi;cases hi
 refine⟨i,D8,by rw[h4 _ _ eb];exact ab,?_,λa4 w' aD tM=>aB a4 w' (hle.trans aD) tM,λd j aj aV=>?_⟩
 · simp only[World.alloc,Array.getElem?_push];rw[if_neg (by omega)];exact ae
 · by_cases e:d=b
   · subst e;rw[gY] at aV;cases aV;simp only;omega
   · rw[h4 _ _ e] at aV;exact aP d j aj aV
theorem qW.p7{μ a4:bG}{H bf:aa}{w w':World}(ah:bD μ H w)(bl:cw μ H w a4 bf w'){c:Nat}{ob:cJ}(au:H.get c=none)(aU:qW μ w c ob):qW a4 w' c ob:=by
 obtain⟨i,D8,ab,ae,aB,aP⟩:=aU
 have cB:=(ah.lt c i ab).2
 refine⟨i,D8,bl.le _ _ ab,?_,λAn b3 aD tM=>aB An b3 (bl.le.trans aD) tM,λd j aj aV=>?_⟩
 · rw[bl.old i.bo cB]
   · exact ae
   · intro d j aD aV
     exact aP d j (λe=>by subst e;exact aD au) aV
 · cases qU:μ d with
   |some RG=>
    have:=bl.le d RG qU
    rw[aV] at this;cases this
    exact aP d j aj qU
   |none=>
    obtain⟨_,aM|⟨e,o,k,he,_,ax,D9⟩⟩:=bl.new d j qU aV
    · omega
    · rw[<-D9]
      exact aP e k (λed=>by subst ed;rw[au] at he;cases he) ax
end
end aC
namespace aC
open Go
section
variable {X:ia}
def sl(X:ia)(i:Nat)(s:DStep)(v:J)(ob:cJ):Prop:=
 i<X.N/\kindOf X.P s.o.op=.alloc/\e_ (hD X.P X.need X.ops X.r s.i (X.f i).env s)=some true/\lM X.P s.o.op (mM X.P X.need X.r s (X.f i).env) (X.H.n+i)=some (v,ob)
structure Inv(X:ia)(S:List Nat)(c:Nat)(μ:bG)(w:World)(a:Act)(cs:List Frame):Prop where
 ai:c<=X.N
 closed:A2 X.ops S
 sub:∀i∈S,i<X.N
 eY:∀i s,X.steps[i]? =some s->i<X.N->kindOf X.P s.o.op=.eY->(i∈S<->i<c)
 rel:bD μ (X.f c).h w
 p7:cw X.nk X.H X.cX μ (X.f c).h w
 vK:hr μ (X.f c).d a.defers
 qr:iW μ X.b.kind X.cs0 (X.f c).q cs
 e1:∀i,i<X.ops.size->i∉S->μ (X.H.n+i)=none
 lay:∀i s v ob,X.steps[i]? =some s->sl X i s v ob->i∉S->i<c->(X.f c).h.get (X.H.n+i)=some ob
 o1:∀i,c<=i->i<X.ops.size->(X.f c).h.get (X.H.n+i)=none
 o2:X.H.n+X.ops.size<=(X.f c).h.n
 gJ:∀i s v ob,X.steps[i]? =some s->sl X i s v ob->i∈S->c<=i->qW μ w (X.H.n+i) ob
 m6:X.tK S μ a.tmps
 sz:a.tmps.size=X.cG
theorem Inv.pass(bB:gC X){S:List Nat}{c:Nat}{μ:bG}{w:World}{a:Act}{cs:List Frame}(h:Inv X S c μ w a cs)(cB:c<X.N){s:DStep}(hs:X.steps[c]? =some s)(ax:kindOf X.P s.o.op≠ .eY):Inv X S (c+1) μ w a cs:=by
 obtain⟨eV,ix,fT,nm,mO⟩:=bB.md hs
 have bh:=bB.tJ c s cB hs
 have Jo:∀i a2,X.steps[i]? =some a2->i<X.N->kindOf X.P a2.o.op=.eY->(i∈S<->i<c+1):=λi a2 ab ae aB=>by
  rw[h.eY i a2 ab ae aB]
  have:i≠c:=by intro e;subst e;rw[hs] at ab;cases ab;exact ax aB
  omega
 have same:(X.f (c+1)).h=(X.f c).h->(X.f (c+1)).d=(X.f c).d->(X.f (c+1)).q=(X.f c).q->(∀v ob,¬sl X c s v ob)->Inv X S (c+1) μ w a cs:=λaF aG bJ RH=>by
  refine⟨cB,h.closed,h.sub,Jo,by rw[aF];exact h.rel,by rw[aF];exact h.p7,by rw[aG];exact h.vK,by rw[bJ];exact h.qr,h.e1,λi a2 v ob ab ae aB aP=>?_,λi ab ae=>(by rw[aF];exact h.o1 i (by omega) ae),by rw[aF];exact h.o2,λi a2 v ob ab ae aB aP=>h.gJ i a2 v ob ab ae aB (by omega),h.m6,h.sz⟩
  by_cases e:i=c
  · subst e;rw[hs] at ab;cases ab;exact absurd ae (RH v ob)
  · rw[aF];exact h.lay i a2 v ob ab ae aB (by omega)
 generalize hf:X.f (c+1)=st at bh
 cases bh with
 |vH gn hw=>
  refine same (by rw[hf]) (by rw[hf]) (by rw[hf]) λv ob jG=>?_
  have:=jG.2.2.1
  rw[hw] at this;cases this
 |pure gn he=>
  refine same (by rw[hf]) (by rw[hf]) (by rw[hf]) λv ob jG=>?_
  have:=jG.2.1
  rw[gn] at this;cases this
 |eY gn a7 he=>exact absurd gn ax
 |alloc gn hw bl=>
  rename_i v ob
  have aF:(X.f (c+1)).h=(X.f c).h.set (X.H.n+c) (some ob):=by rw[hf,ix]
  have aG:(X.f (c+1)).d=(X.f c).d:=by rw[hf]
  have bJ:(X.f (c+1)).q=(X.f c).q:=by rw[hf]
  have jG:sl X c s v ob:=⟨cB,gn,hw,by rw[<-ix];rw[<-ix] at bl;exact bl⟩
  have ag:X.H.n+c<(X.f c).h.n:=by have:=h.o2;omega
  have aU:μ (X.H.n+c)=none\/qW μ w (X.H.n+c) ob:=by
   by_cases Jp:c∈S
   · exact .inr (h.gJ c s v ob hs jG Jp (Nat.le_refl _))
   · exact .inl (h.e1 c eV Jp)
  refine⟨cB,h.closed,h.sub,Jo,by rw[aF];exact h.rel.D7 ag aU,by rw[aF];exact h.p7.D7 bB.A3 ob (by omega),by rw[aG];exact h.vK,by rw[bJ];exact h.qr,h.e1,λi a2 v' D_ ab ae aB aP=>?_,λi ab ae=>?_,by rw[aF];simpa using h.o2,λi a2 v ob ab ae aB aP=>h.gJ i a2 v ob ab ae aB (by omega),h.m6,h.sz⟩
  · rw[aF,aa.bV]
    by_cases e:i=c
    · subst e
      rw[hs] at ab;cases ab
      have:=ae.2.2.2.symm.trans jG.2.2.2
      cases this
      rw[if_pos rfl]
    · rw[if_neg (by omega)];exact h.lay i a2 v' D_ ab ae aB (by omega)
  · rw[aF,aa.bV,if_neg (by omega)]
    exact h.o1 i (by omega) ae
def Norm(X:ia)(c:Nat):Prop:=c=X.N\/∃s,X.steps[c]? =some s/\kindOf X.P s.o.op=.eY
theorem Inv.norm(bB:gC X){S:List Nat}{μ:bG}{w:World}{a:Act}{cs:List Frame}:∀(k c:Nat),X.N-c=k->Inv X S c μ w a cs->∃c',Norm X c'/\Inv X S c' μ w a cs
 |0,c,ax,h=>⟨c,.inl (by have:=h.ai;omega),h⟩
 |k+1,c,ax,h=>by
  obtain⟨s,hs,_⟩:=bB.mN (i:=c) (by have:=bB.fU;omega)
  by_cases he:kindOf X.P s.o.op=.eY
  · exact⟨c,.inr ⟨s,hs,he⟩,h⟩
  · exact Inv.norm bB k (c+1) (by omega) (h.pass bB (by omega) hs he)
def ye(ops:Array Oper)(o:Oper)(g:Operand->J):Operand->J
 |.tmp t=>if(mD ops o).contains t then g (.tmp t) else .bad
 |x=>g x
theorem A9{ops:Array Oper}{o:Oper}{g:Operand->J}:∀x∈o.op.operands,g x=ye ops o g x:=by
 intro x ad
 cases x with
 |tmp t=>
  have:(mD ops o).contains t=true:=by
   have ab:t∈o.op.operands.toList.filterMap λ|.tmp t=>some t|_=>none:=List.mem_filterMap.2 ⟨.tmp t,by simpa using ad,rfl⟩
   simp only[mD,List.contains_iff_mem,List.mem_append]
   exact .inl (.inr ab)
  simp only[ye,this,if_true]
 |_=>rfl
theorem Jq(bB:gC X){S:List Nat}{c:Nat}{μ:bG}{w:World}{a:Act}{cs:List Frame}(h:Inv X S c μ w a cs){i:Nat}(hi:i<=X.N)(eG:i∉S)(dA:lQ X.ops S i){s:DStep}(hs:X.steps[i]? =some s):
  ∀x,bn μ (ye X.ops s.o (mM X.P X.need X.r s (X.f i).env) x) (a.eval x):=by
 obtain⟨eV,ix,fT,nm,mO⟩:=bB.md hs
 intro x
 cases x with
 |tmp t=>
  simp only[ye]
  split
  · rename_i bh
    have:=bB.Jj h.closed h.m6 hi eG dA hs (t:=t) (by simpa using bh)
    unfold mM;rw[ix];exact this
  · trivial
 |const v=>exact kU μ v
 |global g=>
  simp only[ye,mM,c_,Act.eval]
  cases ag:Nat.blt g X.P.globals.size with
  |false=>exact trivial
  |true=>
   obtain⟨i,ab,ae,aB⟩:=bB.pX.mono h.p7.le g (by simpa using ag)
   obtain⟨ke,i0,AH⟩:=i
   simp only at ae aB
   subst ae;subst aB
   exact⟨_,ab,rfl⟩
 |func f=>exact⟨[],[],rfl,rfl,rfl⟩
theorem Ea(bB:gC X){S:List Nat}{c:Nat}{μ:bG}{w:World}{a:Act}{cs:List Frame}(h:Inv X S c μ w a cs){i:Nat}(hi:i<=X.N)(eG:i∉S)(dA:lQ X.ops S i){s:DStep}(hs:X.steps[i]? =some s):
  ∀mc,e_ (hD X.P X.need X.ops X.r s.i (X.f i).env s)=some mc->Region.wanted s.o (yielded X.ops a.tmps)=mc:=by
 obtain⟨eV,ix,fT,nm,mO⟩:=bB.md hs
 intro mc hw
 unfold hD kR at hw
 unfold Region.wanted
 cases au:s.o.guard with
 |none=>rw[au] at hw;simp only[e_] at hw;cases hw;rfl
 |some p=>
  obtain⟨j,eW⟩:=p
  rw[au] at hw
  simp only at hw⊢
  cases bh:(X.ops[j]?).bind (·.dst) with
  |none=>rw[bh] at hw;simp only[ez,e_] at hw;cases hw
  |some t=>
   rw[bh] at hw
   simp only at hw
   have al:=bB.Jj h.closed h.m6 hi eG dA hs (t:=t) (by
    simp only[mD,List.mem_append]
    refine .inr ?_
    rw[au];simp only[bh];simp)
   rw[IJ bh]
   rw[ix] at hw
   generalize ez i (X.f i).env X.r (c_ X.P X.need s.loc (.tmp t))=v at hw al
   unfold e_ at hw
   split at hw
   · rename_i he;cases he
   · rename_i he;cases he;cases hw
     have DN:a.tmps.getD t undef=_:=al
     rw[DN];rfl
   · rename_i he;cases he;cases hw
     obtain⟨l,aD,jT⟩:=al
     cases jT
     rw[aD];rfl
   · cases hw
theorem tN{P:Program}{inR:Bool}{call:aE->List J->aa->ao}{gd:Option (J×Bool)}{o:Oper}{g ep:Operand->J}{d:List bU}{q:bH}{H:aa}(h:∀x∈o.op.operands,g x=ep x):eA P inR call gd o g d q H=eA P inR call gd o ep d q H:=by
 unfold eA;rw[x8 o H h]
theorem Inv.one(bB:gC X){S:List Nat}{c:Nat}{μ:bG}{w:World}{a:Act}{cs:List Frame}(h:Inv X S c μ w a cs){i:Nat}(hi:i<=X.N)(eG:i∉S)(dA:lQ X.ops S i){s:DStep}(hs:X.steps[i]? =some s)(rest:List Nat)(k:List Item):
  DH X.P μ (X.f c).h w X.b a X.ops s.o i rest k X.cs0 cs (eA X.P X.inR X.call (hD X.P X.need X.ops X.r s.i (X.f i).env s) s.o (mM X.P X.need X.r s (X.f i).env) (X.f c).d (X.f c).q (X.f c).h):=by
 obtain⟨eV,ix,fT,nm,mO⟩:=bB.md hs
 rw[tN (A9 (ops:=X.ops))]
 exact IF bB.ai h.rel (bB.pX.mono h.p7.le) fT (Ea bB h hi eG dA hs) (Jq bB h hi eG dA hs) h.vK h.qr bB.eV
theorem Inv.A_(bB:gC X){S:List Nat}{c c':Nat}{μ a4:bG}{w w':World}{a:Act}{cs b9:List Frame}(h:Inv X S c μ w a cs){i:Nat}(hi:i<X.N)(eG:i∉S)(dA:lQ X.ops S i){s:DStep}(hs:X.steps[i]? =some s)(ax:∀v ob,¬sl X i s v ob)
  {u:Value}{bd:List Deferred}(aJ:bn a4 (X.val i) u)(ma:bD a4 (X.f c').h w')(oZ:cw μ (X.f c).h w a4 (X.f c').h w')(aj:hr a4 (X.f c').d bd)(aS:iW a4 X.b.kind X.cs0 (X.f c').q b9)
  (vL:(c'=c/\kindOf X.P s.o.op≠ .eY)\/(c'=c+1/\i=c)):Inv X (i::S) c' a4 w' {tmps:=(a.put s.o.dst u).tmps,defers:=bd} b9:=by
 obtain⟨eV,ix,fT,nm,mO⟩:=bB.md hs
 have hle:=oZ.le
 have yf:c<=c':=by rcases vL with⟨e,_⟩|⟨e,_⟩<;>omega
 have tO:=h.o2
 refine⟨?_,λj aV=>?_,λj aV=>?_,λj a2 ab ae aB=>?_,ma,cw.trans bB.A3 h.rel h.p7 oZ,aj,aS,λj ab ae=>?_,λj a2 v ob ab ae aB aP=>?_,λj ab ae=>?_,?_,λj a2 v ob ab ae aB aP=>?_,?_,?_⟩
 · rcases vL with⟨e,_⟩|⟨e,aG⟩
   · rw[e];exact h.ai
   · omega
 · have hm:lQ X.ops S j->lQ X.ops (i::S) j:=λah o a7 e he ag=>List.mem_cons_of_mem _ (ah o a7 e he ag)
   rcases List.mem_cons.1 aV with rfl|aV
   · exact hm dA
   · exact hm (h.closed j aV)
 · rcases List.mem_cons.1 aV with rfl|aV
   · exact hi
   · exact h.sub j aV
 · have:=h.eY j a2 ab ae aB
   rw[List.mem_cons,this]
   rcases vL with⟨e,aG⟩|⟨e,aG⟩
   · subst e
     have:j≠i:=by intro e;subst e;rw[hs] at ab;cases ab;exact aG aB
     simp[this]
   · omega
 · have Ba:j∉S:=λah=>ae (List.mem_cons_of_mem _ ah)
   cases hm:a4 (X.H.n+j) with
   |none=>rfl
   |some e1=>
    have:=(oZ.new _ e1 (h.e1 j ab Ba) hm).1
    omega
 · have Ba:j∉S:=λah=>aB (List.mem_cons_of_mem _ ah)
   have oL:j≠i:=λe=>aB (by simp[e])
   have acr:=ae.1
   have HR:j<c:=by rcases vL with⟨e,_⟩|⟨e,aG⟩<;>omega
   rw[oZ.idle _ (by have:=bB.fU;omega) (h.e1 j (by have:=bB.fU;omega) Ba)]
   exact h.lay j a2 v ob ab ae Ba HR
 · have az:=h.o1 j (by omega) ae
   cases au:(X.f c').h.get (X.H.n+j) with
   |none=>rfl
   |some o=>exact absurd az (oZ.live _ (by omega) (by rw[au];simp))
 · exact Nat.le_trans tO oZ.n
 · have oL:j≠i:=by
     intro e;subst e;rw[hs] at ab;cases ab;exact ax v ob ae
   have D6:j∈S:=by
    rcases List.mem_cons.1 aB with e|ah
    · exact absurd e oL
    · exact ah
   have acs:=ae.1
   exact(h.gJ j a2 v ob ab ae D6 (by omega)).p7 h.rel oZ (h.o1 j (by omega) (by have:=bB.fU;omega))
 · exact bB.Jm (a:=a) h.closed h.sz (h.m6.mono hle) eG dA hs aJ
 · simpa using(AP a s.o.dst u).trans h.sz
theorem yg{s:DStep}{v:J}(bB:gC X):∀(m:Nat),m<=X.N->∀(eF:Option Nat) (vM:aa),lN X.P X.need X.ops X.r X.N (X.f X.N).env s v eF vM (X.f m).bg=true->
  ∀c a2,c<m->X.steps[c]? =some a2->kindOf X.P a2.o.op=.eY->∃bg,bg=(X.f c).bg/\lN X.P X.need X.ops X.r X.N (X.f X.N).env s v (some c) (X.f c).h bg=true
 |0,_,eF,vM,h,c,a2,ai,_,_=>by omega
 |m+1,hm,eF,vM,h,c,a2,ai,er,ax=>by
  obtain⟨tP,aY,aR,_⟩:=bB.mN (i:=m) (by have:=bB.fU;omega)
  have bh:=bB.tJ m tP (by omega) aY
  by_cases e:c=m
  · subst e
    rw[aY] at er;cases er
    generalize hf:X.f (c+1)=st at bh h
    cases bh with
    |vH gn=>rw[ax] at gn;cases gn
    |alloc gn=>rw[ax] at gn;cases gn
    |pure gn=>rw[ax] at gn;cases gn
    |eY gn a7 he=>
     unfold lN at h
     rw[Bool.and_eq_true] at h
     have ae:=h.2
     simp only[aR] at ae
     exact⟨_,rfl,ae⟩
  · have cB:c<m:=by omega
    generalize hf:X.f (m+1)=st at bh h
    cases bh with
    |vH gn=>exact yg bB m (by omega) eF vM h c a2 cB er ax
    |alloc gn=>exact yg bB m (by omega) eF vM h c a2 cB er ax
    |pure gn=>exact yg bB m (by omega) eF vM h c a2 cB er ax
    |eY gn a7 he=>
     unfold lN at h
     rw[Bool.and_eq_true] at h
     have ae:=h.2
     simp only at ae
     exact yg bB m (by omega) _ _ ae c a2 cB er ax
theorem Eb(bB:gC X):∀(m:Nat),m<=X.N->∀e mk az l,(X.f m).bg=(e,mk,az)::l->e<m/\∃a2,X.steps[e]? =some a2/\kindOf X.P a2.o.op=.eY/\mk=a2.fD
 |0,_,e,mk,az,l,h=>by rw[bB.sk] at h;cases h
 |m+1,hm,e,mk,az,l,h=>by
  obtain⟨tP,aY,aR,_⟩:=bB.mN (i:=m) (by have:=bB.fU;omega)
  have bh:=bB.tJ m tP (by omega) aY
  generalize hf:X.f (m+1)=st at bh h
  cases bh with
  |eY gn a7 he=>
   simp only[List.cons.injEq,Prod.mk.injEq] at h
   obtain⟨⟨rfl,rfl,rfl⟩,rfl⟩:=h
   exact⟨by omega,tP,by rw[aR];exact aY,gn,rfl⟩
  |_=>obtain⟨ab,ae⟩:=Eb bB m (by omega) e mk az l h;exact⟨by omega,ae⟩
theorem Inv.looks(bB:gC X){S:List Nat}{c:Nat}{μ:bG}{w:World}{a:Act}{cs:List Frame}(h:Inv X S c μ w a cs)(aM:Norm X c){i:Nat}(hi:i<X.N)(eG:i∉S)(dA:lQ X.ops S i){s:DStep}(hs:X.steps[i]? =some s)(ax:kindOf X.P s.o.op=.pure):
  mB X.P X.need X.ops X.r X.N (X.f X.N).env s (X.val i) (X.f c).h=true:=by
 obtain⟨eV,ix,fT,nm,mO⟩:=bB.md hs
 obtain⟨eF,ab,ae⟩:=bB.looks i s hi hs ax
 have off:∀(eF:Option Nat),(∀e,eF=some e->e=c/\c∉S)->lN X.P X.need X.ops X.r X.N (X.f X.N).env s (X.val i) eF (X.f c).h (X.f c).bg=true->mB X.P X.need X.ops X.r X.N (X.f X.N).env s (X.val i) (X.f c).h=true:=by
  intro eF Bb cL
  unfold lN at cL
  rw[Bool.and_eq_true] at cL
  have aB:=cL.1
  split at aB
  · rename_i ag
    exfalso
    rw[Bool.or_eq_true] at ag
    rcases ag with ag|ag
    · cases eF with
      |none=>cases ag
      |some e=>
       obtain⟨rfl,q⟩:=Bb e rfl
       exact q (mO S h.closed dA _ ag)
    · cases sm:(X.f c).bg with
      |nil=>rw[sm] at ag;cases ag
      |cons p l=>
       obtain⟨e,mk,az⟩:=p
       rw[sm] at ag
       obtain⟨aY,a2,aR,bW,rfl⟩:=Eb bB c h.ai e mk az l sm
       have Ec:=(h.eY e a2 aR (by have:=h.ai;omega) bW).2 aY
       exact eG ((bB.md aR).2.2.2.2 S h.closed (h.closed e Ec) i (by rw[ix] at ag;exact ag))
  · exact aB
 have Jr:∀e a2,X.steps[e]? =some a2->e=X.N->e∉S:=λe a2 _ he ah=>by have:=h.sub e ah;omega
 by_cases yf:c=X.N
 · subst yf
   exact off eF (λe he=>⟨(ae e he).1,λah=>by have:=h.sub _ ah;omega⟩) ab
 · have Js:c<X.N:=by have:=h.ai;omega
   rcases aM with e|⟨a2,aY,aR⟩
   · exact absurd e yf
   · obtain⟨bg,rfl,aP⟩:=yg bB X.N (Nat.le_refl _) eF _ ab c a2 Js aY aR
     refine off (some c) (λe he=>⟨by cases he;rfl,λah=>?_⟩) aP
     have:=(h.eY c a2 aY Js aR).1 ah
     omega
end
end aC
namespace aC
open Go
section
variable {X:ia}
theorem Jt(bB:gC X):∀(m:Nat),m<=X.N->
  (∀e mk az l,(X.f m).bg=(e,mk,az)::l->∀j a2,e<j->j<m->X.steps[j]? =some a2->kindOf X.P a2.o.op≠ .eY)/\
  ((X.f m).bg=[]->∀j a2,j<m->X.steps[j]? =some a2->kindOf X.P a2.o.op≠ .eY)
 |0,_=>⟨λe mk az l h=>(by rw[bB.sk] at h;cases h),λ_ j a2 aV=>(by omega)⟩
 |m+1,hm=>by
  obtain⟨A6,A7⟩:=Jt bB m (by omega)
  obtain⟨tP,aY,aR,_⟩:=bB.mN (i:=m) (by have:=bB.fU;omega)
  have bh:=bB.tJ m tP (by omega) aY
  have same:kindOf X.P tP.o.op≠ .eY->(X.f (m+1)).bg=(X.f m).bg->_:=λax he=>(⟨λe mk az l h j a2 ab ae aB=>by
    by_cases ed:j=m
    · subst ed;rw[aY] at aB;cases aB;exact ax
    · exact A6 e mk az l (he▸h) j a2 ab (by omega) aB,λh j a2 ae aB=>by
    by_cases ed:j=m
    · subst ed;rw[aY] at aB;cases aB;exact ax
    · exact A7 (he▸h) j a2 (by omega) aB⟩:
   (∀e mk az l,(X.f (m+1)).bg=(e,mk,az)::l->∀j a2,e<j->j<m+1->X.steps[j]? =some a2->kindOf X.P a2.o.op≠ .eY)/\((X.f (m+1)).bg=[]->∀j a2,j<m+1->X.steps[j]? =some a2->kindOf X.P a2.o.op≠ .eY))
  generalize hf:X.f (m+1)=st at bh same⊢
  clear hf
  cases bh with
  |vH gn=>exact same (by rw[gn];simp) rfl
  |alloc gn=>exact same (by rw[gn];simp) rfl
  |pure gn=>exact same (by rw[gn];simp) rfl
  |eY gn a7 he=>
   refine⟨λe mk az l h j a2 ab ae aB=>?_,λh=>by cases h⟩
   simp only[List.cons.injEq,Prod.mk.injEq] at h
   obtain⟨⟨rfl,_,_⟩,_⟩:=h
   omega
theorem Inv.Ju(bB:gC X){S:List Nat}{c:Nat}{μ:bG}{w:World}{a:Act}{cs:List Frame}(h:Inv X S c μ w a cs)(aM:Norm X c){i:Nat}(hi:i<=X.N)(eG:i∉S)(dA:lQ X.ops S i){s:DStep}(hs:X.steps[i]? =some s)
  (ax:kindOf X.P s.o.op=.eY)(a7:∀e m az l,(X.f i).bg=(e,m,az)::l->Nat.testBit s.fD e=true):i=c:=by
 obtain⟨eV,ix,fT,nm,mO⟩:=bB.md hs
 have It:c<=i:=by
  rcases Nat.lt_or_ge i X.N with ab|ab
  · have:=h.eY i s hs ab ax
    rcases Nat.lt_or_ge i c with ae|ae
    · exact absurd (this.2 ae) eG
    · exact ae
  · have:=h.ai;omega
 rcases Nat.lt_or_ge c i with cB|vN
 · exfalso
   rcases aM with e|⟨a2,aY,aR⟩
   · omega
   · obtain⟨bq,a9⟩:=Jt bB i hi
     cases sm:(X.f i).bg with
     |nil=>exact a9 sm c a2 cB aY aR
     |cons p l=>
      obtain⟨e,mk,az⟩:=p
      obtain⟨cO,s2,eo,oO,_⟩:=Eb bB i hi e mk az l sm
      have Ec:=mO S h.closed dA e (a7 e mk az l sm)
      have RI:=(h.eY e s2 eo (by omega) oO).1 Ec
      exact bq e mk az l sm c a2 RI cB aY aR
 · omega
theorem Inv.RJ(bB:gC X){S:List Nat}{c:Nat}{μ:bG}{w:World}{a:Act}{cs:List Frame}(h:Inv X S c μ w a cs){i:Nat}(hi:i<X.N)(eG:i∉S)(dA:lQ X.ops S i){s:DStep}(hs:X.steps[i]? =some s){v:J}{ob:cJ}(jG:sl X i s v ob)(aJ:X.val i=v)(rest:List Nat)(k:List Item):
  ∃a4 w' dM,Steps X.P (lone (X.b.atR a (.inRegion X.ops (i::rest)::k)) cs w) (lone (X.b.atR dM (.inRegion X.ops rest::k)) cs w')/\Inv X (i::S) c a4 w' dM cs:=by
 obtain⟨eV,ix,fT,nm,mO⟩:=bB.md hs
 obtain⟨_,ax,hw,bl⟩:=jG
 have DK:=Ea bB h (Nat.le_of_lt hi) eG dA hs _ hw
 rw[x9 _ _ (A9 (ops:=X.ops))] at bl
 obtain⟨u,O,sz,aD⟩:=QH (P:=X.P) (w:=w) s.o (Jq bB h (Nat.le_of_lt hi) eG dA hs) bl
 have cL:=stepGR_op (P:=X.P) (b:=X.b) (a:=a) (k:=k) (cs:=cs) (w:=w) (rest:=rest) fT DK
 have xY:s.o.semAt X.b.roundOf a.eval=execOp a.eval s.o:=Oper.semAt_eq _ _ _ λeX e=>by rw[e] at ax;cases ax
 rw[xY] at cL
 obtain⟨aq,_⟩:=DG cL
 have hT:=aq _ _ aD.run
 have oW:(X.b.atR a (.inRegion X.ops (i::rest)::k)).finish u=X.b.atR (a.put s.o.dst u) (.inRegion X.ops rest::k):=by
  rw[Frame.finish_atR,fT];rfl
 rw[oW] at hT
 have jE:=h.e1 i eV eG
 have tO:=h.o2
 have h_:∀o,(X.f c).h.get (X.H.n+i)=some o->o=ob:=λo au=>by
  rcases Nat.lt_or_ge i c with cB|vN
  · have:=h.lay i s v ob hs ⟨hi,ax,hw,by rw[x9 _ _ (A9 (ops:=X.ops))];exact bl⟩ eG cB
    rw[au] at this;cases this;rfl
  · rw[h.o1 i vN eV] at au;cases au
 obtain⟨hle,ma⟩:=h.rel.early (b:=X.H.n+i) (by omega) jE h_ aD.obj
 have oZ:=h.p7.early bB.A3 (b:=X.H.n+i) (by omega) jE (O:=O) (sz:=sz)
 have RK:bn (gX μ (X.H.n+i) ⟨w.heap.size,0,sz⟩) (X.val i) u:=by rw[aJ];exact aD.val _ hle (gY _ _ _)
 refine⟨gX μ (X.H.n+i) ⟨w.heap.size,0,sz⟩,_,_,hT,?_⟩
 have hm:∀{j},lQ X.ops S j->lQ X.ops (i::S) j:=λah o a7 e he ag=>List.mem_cons_of_mem _ (ah o a7 e he ag)
 refine⟨h.ai,λj aV=>?_,λj aV=>?_,λj a2 ab ae aB=>?_,ma,oZ,?_,h.qr.mono hle,λj ab ae=>?_,λj a2 v ob ab ae aB aP=>h.lay j a2 v ob ab ae (λah=>aB (List.mem_cons_of_mem _ ah)) aP,h.o1,h.o2,λj a2 v' D_ ab ae aB aP=>?_,bB.Jm h.closed h.sz (h.m6.mono hle) eG dA hs RK,(AP _ _ _).trans h.sz⟩
 · rcases List.mem_cons.1 aV with rfl|aV
   · exact hm dA
   · exact hm (h.closed j aV)
 · rcases List.mem_cons.1 aV with rfl|aV
   · exact hi
   · exact h.sub j aV
 · have oL:j≠i:=by intro e;subst e;rw[hs] at ab;cases ab;rw[ax] at aB;cases aB
   rw[List.mem_cons]
   simp only[oL,false_or]
   exact h.eY j a2 ab ae aB
 · rw[put_defers];exact h.vK.mono hle
 · have oL:j≠i:=λe=>ae (by simp[e])
   rw[h4 _ _ (by omega)]
   exact h.e1 j ab (λah=>ae (List.mem_cons_of_mem _ ah))
 · rcases List.mem_cons.1 aB with e|aB
   · subst e
     rw[hs] at ab;cases ab
     have:=ae.2.2.2
     rw[x9 _ _ (A9 (ops:=X.ops)),bl] at this
     cases this
     refine⟨⟨w.heap.size,0,sz⟩,O,gY _ _ _,World.heap_alloc_new _ _,λa4 w' Av tM=>aD.obj a4 w' (hle.trans Av) tM,λd ku aj aV=>?_⟩
     rw[h4 _ _ aj] at aV
     have:=(h.rel.lt d ku aV).2
     simp only;omega
   · exact(h.gJ j a2 v' D_ ab ae aB aP).early h.rel jE
theorem Ed(bB:gC X){i:Nat}(hi:i<=X.N):DM i (jC (X.ops.toList.take i) 0 []):=λt a bl=>by
 obtain⟨j,o,ab,rfl,_⟩:=(yc X.ops.toList t i (by have:=bB.fU;simp;omega)).1 a bl
 exact ab
theorem Inv.step(bB:gC X){S:List Nat}{c:Nat}{μ:bG}{w:World}{a:Act}{cs:List Frame}(h:Inv X S c μ w a cs){i:Nat}(hi:i<X.N)(eG:i∉S)(dA:lQ X.ops S i)(rest:List Nat)(k:List Item):
  ∃c' a4 w' dM b9,Steps X.P (lone (X.b.atR a (.inRegion X.ops (i::rest)::k)) cs w) (lone (X.b.atR dM (.inRegion X.ops rest::k)) b9 w')/\Inv X (i::S) c' a4 w' dM b9:=by
 obtain⟨c,aM,h⟩:=h.norm bB _ _ rfl
 obtain⟨s,hs,ix,fT,_⟩:=bB.mN (i:=i) (by have:=bB.fU;omega)
 have bh:=bB.tJ i s hi hs
 have hle:=Nat.le_of_lt hi
 generalize hf:X.f (i+1)=st at bh
 cases bh with
 |vH ax hw=>
  have aJ:=bB.A5 hi (v:=.aL []) (by rw[hf])
  have DJ:=Ea bB h hle eG dA hs _ hw
  have xD:=stepR_op_skip (P:=X.P) (b:=X.b) (a:=a) (k:=k) (cs:=cs) (w:=w) (ops:=X.ops) (i:=i) (rest:=rest) (by simp[fT,DJ])
  rw[fT] at xD
  have he:a.put ((some s.o).bind (·.dst)) undef={tmps:=(a.put s.o.dst undef).tmps,defers:=a.defers}:=AM a s.o.dst undef
  rw[he] at xD
  refine⟨c,μ,w,_,cs,.one xD,h.A_ bB hi eG dA hs (λv ob jG=>?_) (by rw[aJ];exact⟨[],rfl,rfl⟩) h.rel (cw.refl _ _ _) h.vK h.qr (.inl ⟨rfl,by rw[ax];simp⟩)⟩
  have:=jG.2.2.1
  rw[hw] at this;cases this
 |alloc ax hw bl=>
  rename_i v ob
  have aJ:=bB.A5 hi (v:=v) (by rw[hf])
  obtain⟨a4,w',dM,ab,ae⟩:=h.RJ bB hi eG dA hs ⟨hi,ax,hw,by rw[<-ix];rw[<-ix] at bl;exact bl⟩ aJ rest k
  exact⟨c,a4,w',dM,cs,ab,ae⟩
 |pure ax he=>
  rename_i v bO bE an
  have aJ:=bB.A5 hi (v:=v) (by rw[hf])
  have ln:=h.looks bB aM hi eG dA hs ax
  have hd:=h.one bB hle eG dA hs rest k
  have hS:hD X.P X.need X.ops X.r X.N (X.f X.N).env s=hD X.P X.need X.ops X.r s.i (X.f i).env s:=by
   unfold hD kR
   cases Ee:s.o.guard with
   |none=>rfl
   |some p=>
    obtain⟨j,eW⟩:=p
    simp only
    cases acu:(X.ops[j]?).bind (·.dst) with
    |none=>rfl
    |some t=>
     simp only
     rw[ix,bB.Ji hle (by rw[(bB.md hs).2.2.2.1];exact AO (Ed bB hle) _)]
  have eR:∀x,ez X.N (X.f X.N).env X.r (c_ X.P X.need s.loc x)=mM X.P X.need X.r s (X.f i).env x:=λx=>by
   unfold mM
   rw[ix,bB.Ji hle (by rw[(bB.md hs).2.2.2.1];exact AO (Ed bB hle) _)]
  unfold mB at ln
  rw[hS] at ln
  have sh:(λx=>ez X.N (X.f X.N).env X.r (c_ X.P X.need s.loc x))=mM X.P X.need X.r s (X.f i).env:=funext eR
  rw[sh] at ln
  have Bc:∀v ob,¬sl X i s v ob:=λv ob jG=>by have:=jG.2.1;rw[ax] at this;cases this
  have eb:kindOf X.P s.o.op≠ .eY:=by rw[ax];simp
  unfold eA at hd he
  cases Jv:e_ (hD X.P X.need X.ops X.r s.i (X.f i).env s) with
  |none=>rw[Jv] at ln;cases ln
  |some eW=>
   rw[Jv] at ln hd he
   cases eW with
   |false=>
    simp only at hd he
    cases he
    obtain⟨a4,w',u,nf,b9,s1,s2,ck,b6,cW,dO⟩:=hd
    exact⟨c,a4,w',_,b9,s1,h.A_ bB hi eG dA hs Bc (by rw[aJ];exact s2) ck b6 cW dO (.inl ⟨rfl,eb⟩)⟩
   |true=>
    simp only at ln hd
    split at ln
    · rename_i v' acv hc
      rw[hc] at hd
      simp only at hd
      have RL:=beq_eq _ _ ln
      have RM:=Rx ax hc
      rw[RM] at hd
      obtain⟨a4,w',u,nf,b9,s1,s2,ck,b6,cW,dO⟩:=hd
      exact⟨c,a4,w',_,b9,s1,h.A_ bB hi eG dA hs Bc (by rw[<-RL];exact s2) ck b6 cW dO (.inl ⟨rfl,eb⟩)⟩
    · cases ln
 |eY ax a7 he=>
  rename_i v bO bE an
  have aJ:=bB.A5 hi (v:=v) (by rw[hf])
  have qX:=h.Ju bB aM hle eG dA hs ax a7
  have hd:=h.one bB hle eG dA hs rest k
  have Bc:∀v ob,¬sl X i s v ob:=λv ob jG=>by have:=jG.2.1;rw[ax] at this;cases this
  rw[<-qX,he] at hd
  obtain⟨a4,w',u,nf,b9,s1,s2,ck,b6,cW,dO⟩:=hd
  have aF:(X.f (c+1)).h=an:=by rw[<-qX,hf]
  have aG:(X.f (c+1)).d=bO:=by rw[<-qX,hf]
  have bJ:(X.f (c+1)).q=bE:=by rw[<-qX,hf]
  exact⟨c+1,a4,w',_,b9,s1,h.A_ bB hi eG dA hs Bc (by rw[aJ];exact s2) (by rw[aF];exact ck) (by rw[aF,<-qX];exact b6) (by rw[aG];exact cW) (by rw[bJ];exact dO) (.inr ⟨rfl,qX⟩)⟩
end
end aC
namespace aC
open Go
section
variable {X:ia}
def ia.ends(X:ia)(k:List Item)(gP:Machine)(res:m8):Prop:=p0 X.P X.need X.cG X.nk X.r X.H X.cX X.b k X.cs0 gP (jC X.ops.toList 0 []) res
theorem ia.Ef{k:List Item}{gP c9:Machine}{res:m8}(h:Steps X.P gP c9)(an:X.ends k c9 res):X.ends k gP res:=by
 unfold ia.ends at*
 cases res with
 |ok env d q bf=>obtain⟨a4,w',dM,b9,s1,s2⟩:=an;exact⟨a4,w',dM,b9,h.trans s1,s2⟩
 |bp v d q bf=>obtain⟨a4,w',dM,b9,u,bN,s1,s2⟩:=an;exact⟨a4,w',dM,b9,u,bN,h.trans s1,s2⟩
 |fail s=>trivial
structure Eg(X:ia)(res:m8):Prop where
 ok:X.N=X.ops.size->res=.ok (X.f X.N).env (X.f X.N).d (X.f X.N).q (X.f X.N).h
 bp:X.N<X.ops.size->∀s,X.steps[X.N]? =some s->∃v bO bE an,eA X.P X.inR X.call (hD X.P X.need X.ops X.r s.i (X.f X.N).env s) s.o (mM X.P X.need X.r s (X.f X.N).env) (X.f X.N).d (X.f X.N).q (X.f X.N).h=.bp v bO bE an/\res=.bp v bO bE an
theorem Inv.order(bB:gC X){res:m8}(gA:Eg X res)(k:List Item):∀(L:List Nat) (S:List Nat) (c:Nat) (μ:bG) (w:World) (a:Act) (cs:List Frame),tF X.ops S L->Inv X S c μ w a cs->X.ends k (lone (X.b.atR a (.inRegion X.ops L::k)) cs w) res
 |[],S,c,μ,w,a,cs,a7,h=>by
  have gm:∀i,i<X.ops.size->i∈S:=a7
  have fU:X.N=X.ops.size:=by
   have:=bB.fU
   rcases Nat.lt_or_ge X.N X.ops.size with cB|vN
   · have:=h.sub _ (gm _ cB);omega
   · omega
  obtain⟨c,aM,h⟩:=h.norm bB _ _ rfl
  have Jr:c=X.N:=by
   rcases aM with e|⟨s,aY,aR⟩
   · exact e
   · have:=h.ai
     rcases Nat.lt_or_ge c X.N with cB|vN
     · have:=(h.eY c s aY cB aR).1 (gm c (by omega));omega
     · omega
  subst Jr
  rw[gA.ok fU]
  have hlen:=bB.A4 X.N (Nat.le_refl _)
  have Jw:X.ops.toList.take X.N=X.ops.toList:=by rw[fU];exact List.take_of_length_le (by simp)
  have nm:=Ed bB (Nat.le_refl X.N)
  rw[Jw] at nm
  refine⟨μ,w,a,cs,.one stepR_region_end,⟨by rw[hlen];exact nm,λt=>?_⟩,h.sz,h.rel,h.p7,h.vK,h.qr⟩
  rw[hlen]
  obtain⟨f1,f2⟩:=yc X.ops.toList t X.N (by simp;omega)
  rw[Jw] at f1 f2
  simp only[c_]
  cases hf:jm t (jC X.ops.toList 0 []) with
  |some ac=>
   obtain⟨j,o,aV,rfl,na,aj,rV⟩:=f1 ac hf
   have:=(h.m6 t).1 j o (gm j (by omega)) (by simpa using na) aj λk o' ax iX ng=>by
    rcases Nat.lt_or_ge j k with cB|vN
    · exact absurd ng (rV k o' cB (h.sub k ax) (by simpa using iX))
    · exact vN
   exact this
  |none=>
   simp only[]
   cases ag:Nat.testBit X.need t with
   |false=>trivial
   |true=>
    exact(h.m6 t).2 (λj o aV iX aj=>f2 hf j o (h.sub j aV) (by simpa using iX) aj) ag
 |i::L,S,c,μ,w,a,cs,a7,h=>by
  obtain⟨hi,eG,dA,rW⟩:=a7
  rcases Nat.lt_trichotomy i X.N with cB|heq|tQ
  · obtain⟨c',a4,w',dM,b9,ab,ae⟩:=h.step bB cB eG dA L k
    exact ia.Ef ab (Inv.order bB gA k L (i::S) c' a4 w' dM b9 rW ae)
  ·
   obtain⟨s,hs,ix,fT,_⟩:=bB.mN hi
   obtain⟨c,aM,h⟩:=h.norm bB _ _ rfl
   rw[heq] at hs
   obtain⟨bK,bQ,dW⟩:=bB.last s hs
   rw[<-heq] at hs bQ
   have qX:=h.Ju bB aM (Nat.le_of_eq heq) eG dA hs bK bQ
   have hd:=h.one bB (Nat.le_of_eq heq) eG dA hs L k
   obtain⟨v,bO,bE,an,aF,aG⟩:=gA.bp (by omega) s (by rw[<-heq];exact hs)
   rw[<-heq] at aF
   rw[<-qX,aF] at hd
   rw[aG]
   obtain⟨a4,w',u,s1,s2,ck,b6,cW,dO⟩:=hd
   rw[qX] at b6
   refine⟨a4,w',a,cs,u,_,s1,trivial,s2,λt bh ag=>?_,h.sz,ck,cw.trans bB.A3 h.rel h.p7 b6,cW,dO⟩
   obtain⟨f1,f2⟩:=yc X.ops.toList t X.ops.toList.length (Nat.le_refl _)
   rw[List.take_length] at f2
   have:=(h.m6 t).2 (λj o aV iX aj=>f2 bh j o (by have:=h.sub j aV;have:=bB.fU;simp;omega) (by simpa using iX) aj) ag
   exact this.mono b6.le
  · exfalso
    obtain⟨s,hs,_⟩:=bB.mN (i:=X.N) (by omega)
    obtain⟨a2,er,_,_,_,mO⟩:=bB.mN hi
    have:=(bB.last s hs).2.2 i a2 tQ er
    rw[(bB.md hs).2.1] at this
    have:=h.sub _ (mO S h.closed dA _ this)
    omega
end
section
variable {P:Program}
theorem Jx{need:Nat}{ops:Array Oper}{r:a0}{n:Nat}{env:List J}{last:Option Nat}{h:aa}{bg:List (Nat×Nat×aa)}:∀{l:List DStep},l_ P need ops r n env last h bg l=true->∀s∈l,s.i<n->kindOf P s.o.op=.pure->lN P need ops r n env s ((nth (n-1-s.i) env).getD .bad) last h bg=true
 |[],_,s,hs,_,_=>by cases hs
 |x::l,aD,s,hs,hi,ax=>by
  simp only[l_,Bool.and_eq_true] at aD
  rcases List.mem_cons.1 hs with rfl|hs
  · have ab:=aD.1
    have ag:Nat.blt s.i n=true:=by simpa using hi
    rw[ag,ax] at ab
    exact ab
  · exact Jx aD.2 s hs hi ax
theorem RN(hm:P.follows .mixedOrders=true){call:aE->List J->aa->ao}(ai:mL P call)(need cG:Nat):sg P need cG call:=by
 intro ops id p1 hdr b inR r d q H μ w a k cs0 cs eV al bX ah au aj aS
 unfold tc
 simp only
 obtain⟨p3,lp⟩:∃p3:tH,p3=⟨[],d,q,⟨H.t,H.n+ops.size⟩,[]⟩:=⟨_,rfl⟩
 obtain⟨res,hv⟩:∃res,gT P need inR call ops r H.n (fK ops.toList 0 [] []) [] d q ⟨H.t,H.n+ops.size⟩ []=res:=⟨_,rfl⟩
 rw[hv]
 by_cases Jy:∃vO,res=.fail vO
 · obtain⟨vO,e⟩:=Jy;subst e;trivial
 have RO:∀vO,res≠ .fail vO:=λvO e=>Jy ⟨vO,e⟩
 have RP:gT P need inR call ops r H.n (fK ops.toList 0 [] []) p3.env p3.d p3.q p3.h p3.bg=res:=by rw[lp];exact hv
 obtain⟨f,N,f0,fU,Jz,vL⟩:=Jf _ _ _ RP RO
 have hlen:(fK ops.toList 0 [] []).length=ops.size:=by rw[D4];simp
 rw[hlen] at fU
 have JA:∀m,m<=N->(f m).env.length=m:=λm=>by
  induction m with
  |zero=>intro _;rw[f0,lp];rfl
  |succ m bt=>
   intro Dd
   have hs:(fK ops.toList 0 [] [])[m]? =some (fK ops.toList 0 [] [])[m]:=List.getElem?_eq_getElem (by omega)
   have bh:=Jz m _ (by omega) hs
   have RQ:=bt (by omega)
   generalize f (m+1)=st at bh
   cases bh<;>simp[RQ]
 let X:ia:={P:=P,need:=need,cG:=cG,inR:=inR,call:=call,ops:=ops,r:=r,b:=b,nk:=μ,H:=H,cX:=w,cs0:=cs0,N:=N,f:=f}
 let bR:World:={w with drawn:=w.drawn+1}
 have sj:∀o i,ops[i]? =some o->oK o i=true:=λo i a7=>by
  have hi:i<ops.size:=(Array.getElem?_eq_some_iff.1 a7).1
  have iX:ops.toList[i]? =some o:=by simpa using a7
  obtain⟨s,ab,ae,aB,_⟩:=ya (ops:=ops) ops.toList 0 [] [] (λk=>by simp) (vG hdr) (λj aV=>by omega) i o iX
  have:=vG hdr s (List.mem_of_getElem? ab)
  rw[aB] at this
  have yh:s.i=i:=by omega
  rw[yh] at this;exact this
 have me:=Rw sj (w.tape w.drawn (.order b.fn id))
 have fr:Steps P (lone (b.atR a (.code (.region id ops true)::k)) cs w) (lone (b.atR a (.inRegion ops (Region.schedule true ops (w.tape w.drawn (.order b.fn id)))::k)) cs bR):=by
  have:=stepR_region_draw (P:=P) (b:=b) (a:=a) (k:=k) (cs:=cs) (w:=w) (ops:=ops) (id:=id)
  rw[hm] at this
  exact .one this
 have hinv:Inv X [] 0 μ bR a cs:=by
  refine⟨Nat.zero_le _,(λj aV=>by cases aV),(λj aV=>by cases aV),(λi s ab ae aB=>⟨λaV=>(by cases aV),λaV=>(by omega)⟩),?_,?_,?_,?_,λi hi _=>?_,(λi s v ob ab ae aB aP=>by omega),λi hi ae=>?_,?_,(λi s v ob ab ae aB aP=>by cases aB),?_,bX⟩
  · show bD μ (f 0).h bR
    rw[f0,lp]
    exact⟨λeW o i ag hi=>(ah.rel eW o i ag hi).mono (fL.refl μ) rfl,ah.inj,λeW i hi=>⟨Nat.lt_of_lt_of_le (ah.lt eW i hi).1 (Nat.le_add_right _ _),(ah.lt eW i hi).2⟩,λeW ag=>ah.bound eW (Nat.le_trans (Nat.le_add_right _ _) ag)⟩
  · show cw μ H w μ (f 0).h bR
    rw[f0,lp]
    exact⟨fL.refl μ,Nat.le_refl _,Nat.le_add_right _ _,λ_ _ aD=>aD,λ_ _ _=>rfl,λ_ _ _=>rfl,(λeW i ab ae=>by rw[ab] at ae;cases ae),λ_ _ _ ag _ _=>⟨ag,rfl⟩,rfl,rfl,rfl,Nat.le_succ _⟩
  · show hr μ (f 0).d a.defers
    rw[f0,lp];exact aj
  · show iW μ b.kind cs0 (f 0).q cs
    rw[f0,lp];exact aS
  · show μ (H.n+i)=none
    cases e:μ (H.n+i) with
    |none=>rfl
    |some e1=>have:=(ah.lt _ e1 e).1;omega
  · show(f 0).h.get (H.n+i)=none
    rw[f0,lp]
    exact ah.bound (H.n+i) (Nat.le_add_right _ _)
  · show H.n+ops.size<=(f 0).h.n
    rw[f0,lp];exact Nat.le_refl _
  · intro t
    exact⟨λj o aV=>(by cases aV),λ_ ag=>al t ag⟩
 have JB:∀(eF:Option Nat) (ln:l_ P need ops r (f N).env.length (f N).env eF (f N).h (f N).bg (fK ops.toList 0 [] [])=true) (Bb:∀e,eF=some e->e=N/\N<ops.size)
   (rV:∀s,(fK ops.toList 0 [] [])[N]? =some s->kindOf P s.o.op=.eY/\(∀e m az l,(f N).bg=(e,m,az)::l->Nat.testBit s.fD e=true)/\∀k a2,N<k->(fK ops.toList 0 [] [])[k]? =some a2->Nat.testBit a2.fD s.i=true),gC X:=by
  intro eF ln Bb rV
  refine⟨ai,eV,p1,hdr,fU,Jz,by show(f 0).env=[];rw[f0,lp],by show(f 0).bg=[];rw[f0,lp],λi s hi hs ax=>?_,rV,au,ah⟩
  have ix:s.i=i:=by
   have Eh:i<ops.size:=Nat.lt_of_lt_of_le hi fU
   obtain⟨a2,ab,ae,_⟩:=ya (ops:=ops) ops.toList 0 [] [] (λk=>by simp) (vG hdr) (λj aV=>by omega) i _ (show ops.toList[i]? =some ops[i] by simp[Eh])
   have kZ:(fK ops.toList 0 [] [])[i]? =some s:=hs
   rw[ab] at kZ;cases kZ;omega
  have:=Jx ln s (List.mem_of_getElem? hs) (by rw[JA N (Nat.le_refl _),ix];exact hi) ax
  rw[JA N (Nat.le_refl _),ix] at this
  exact⟨eF,this,Bb⟩
 rcases vL with⟨acw,ad⟩|⟨s,hs,ax,a7,RR,v,bO,bE,an,he,ad⟩
 · subst ad
   simp only
   cases ln:l_ P need ops r (f N).env.length (f N).env none (f N).h (f N).bg (fK ops.toList 0 [] []) with
   |false=>trivial
   |true=>
    simp only
    have bB:=JB none ln (λe he=>by cases he) (λs hs=>by rw[List.getElem?_eq_none (by omega)] at hs;cases hs)
    have gA:Eg X (.ok (f N).env (f N).d (f N).q (f N).h):=⟨λ_=>rfl,λcB=>by
     have Dg:N<ops.size:=cB
     omega⟩
    exact ia.Ef (X:=X) fr (Inv.order bB gA k _ [] 0 μ bR a cs me hinv)
 · subst ad
   simp only
   have ix:s.i=N:=by
    have Eh:N<ops.size:=by have:=(List.getElem?_eq_some_iff.1 hs).1;omega
    obtain⟨a2,ab,ae,_⟩:=ya (ops:=ops) ops.toList 0 [] [] (λk=>by simp) (vG hdr) (λj aV=>by omega) N _ (show ops.toList[N]? =some ops[N] by simp[Eh])
    rw[ab] at hs;cases hs;omega
   have RS:N<ops.size:=by have:=(List.getElem?_eq_some_iff.1 hs).1;omega
   cases ln:l_ P need ops r (f N).env.length (f N).env (some s.i) (f N).h (f N).bg (fK ops.toList 0 [] []) with
   |false=>trivial
   |true=>
    simp only
    have bB:=JB (some s.i) ln (λe he=>by cases he;exact⟨ix,RS⟩) (λa2 er=>by rw[hs] at er;cases er;exact⟨ax,a7,RR⟩)
    have gA:Eg X (.bp v bO bE an):=⟨λe=>by
     have ed:N=ops.size:=e
     omega,λ_ a2 er=>by
     have kZ:(fK ops.toList 0 [] [])[N]? =some a2:=er
     rw[hs] at kZ;cases kZ
     exact⟨v,bO,bE,an,he,rfl⟩⟩
    exact ia.Ef (X:=X) fr (Inv.order bB gA k _ [] 0 μ bR a cs me hinv)
structure Fit(P:Program):Prop where
 mixed:P.follows .mixedOrders=true
 code:x2 P
 ext:AY P
theorem JC(hf:Fit P){intr:Nat->List J->aa->Option (J×aa)}(hi:tE P intr)(n:Nat):mL P (gk P intr n):=
 I_ hi (λcall ai need cG=>RN hf.mixed ai need cG) hf.code hf.ext n
end
end aC
namespace aC
open Go Go.RowKit Go.ChangeShapes Go.WideShapes
section
variable {P:Program}
def RT(P:Program):Bool:=P.funcs.toList.all λfn=>match fn.body with
 |some c=>jD fn.ntmps c&&!(fn.name== "runtime.NumGoroutine")
 |none=>true
def RU(P:Program):Bool:=P.funcs.toList.all λfn=>match fn.body with
 |some _=>true
 |none=>!si.contains fn.name||(Extern.findNext fn).isNone
theorem JD{g:FuncId}{eQ:Func}(h:P.funcs[g]? =some eQ):eQ∈P.funcs.toList:=by
 rw[<-Array.getElem?_toList] at h;exact List.mem_of_getElem? h
theorem RV(hm:P.follows .mixedOrders=true)(ai:RT P=true)(he:RU P=true):Fit P where
 mixed:=hm
 code:=λg eQ gc au ag=>by
  have:=List.all_eq_true.1 ai eQ (JD au)
  rw[ag] at this
  simp only[Bool.and_eq_true,Bool.not_eq_true'] at this
  exact this
 ext:=λg eQ au ag aM=>by
  have:=List.all_eq_true.1 he eQ (JD au)
  rw[ag] at this
  simp only[Bool.or_eq_true,Bool.not_eq_true',List.contains_eq_mem,decide_eq_false_iff_not] at this
  rcases this with h|h
  · exact absurd aM h
  · simpa using h
def Ei(H:aa):Prop:=∀b o,H.get b=some o->o.pI=true
theorem cw.below{μ a4:bG}{H bf:aa}{W iY:World}(al:Ei H)(ah:bD μ H W)(h:cw μ H W a4 bf iY):Below W.heap.size W iY:=by
 refine⟨h.os,h.tape,h.out,h.size,λr cB=>?_⟩
 by_cases he:∃b i,H.get b≠none/\μ b=some i/\i.bo=r
 · obtain⟨b,i,ab,ae,rfl⟩:=he
   cases au:H.get b with
   |none=>exact absurd au ab
   |some o=>exact(h.ro b o i au (al b o au) ae).2
 · exact h.old r cB λb i ab ae aB=>he ⟨b,i,ab,ae,aB⟩
def yi(G:Nat):bG:=λb=>if b<G then some ⟨b,0,0⟩ else none
theorem JE{W:World}(lq:P.globals.size<=W.heap.size):bD (yi P.globals.size) (oJ P.globals.size) W/\jt P (yi P.globals.size)/\Ei (oJ P.globals.size):=by
 have aM:∀b,(oJ P.globals.size).get b=none:=λb=>rfl
 refine⟨⟨λb o i h=>(by rw[aM] at h;cases h),λb c i j h=>absurd (aM b) h,λb i h=>?_,λb _=>aM b⟩,λg au=>⟨⟨g,0,0⟩,by simp[yi,au],rfl,rfl⟩,λb o h=>(by rw[aM] at h;cases h)⟩
 unfold yi at h
 split at h
 · rename_i ag;cases h;exact⟨ag,Nat.lt_of_lt_of_le ag lq⟩
 · cases h
theorem RW(hf:Fit P){intr:Nat->List J->aa->Option (J×aa)}(hi:tE P intr){n:Nat}{f:Nat}{fn:Func}{c:Code}(n1:P.funcs[f]? =some fn)(ag:fn.body=some c){args:List J}{H:aa}{v:J}{bf:aa}
  (fr:gk P intr n (.fn f) args H=.ret v bf){μ:bG}{W:World}{vs:List Value}(ah:bD μ H W)(au:jt P μ)(aJ:cy μ args vs):
  Calls P f ⟨vs⟩ W λe iY=>∃a4 u,e=.returned u/\bn a4 v u/\bD a4 bf iY/\cw μ H W a4 bf iY:=by
 have ab:=(JC hf hi n).fn f args H (by rw[fr];rfl) μ W vs ah au aJ
 rw[fr] at ab
 obtain⟨_,x7⟩:=hf.code f fn c n1 ag
 have he:=DV n1 ag x7 ⟨vs⟩ W
 rcases ab with⟨v',w',aY,_⟩|⟨_,aR⟩
 · rw[he] at aY;cases aY
 · exact aR.mono λe iY h=>h
def Bd:ao->Bool
 |.ret (.bool true) _=>true
 |_=>false
theorem RX{r:ao}(h:Bd r=true):∃H,r=.ret (.bool true) H:=by
 unfold Bd at h
 split at h
 · exact⟨_,rfl⟩
 · cases h
theorem RY(hf:Fit P){intr:Nat->List J->aa->Option (J×aa)}(hi:tE P intr){n:Nat}{f:Nat}{fn:Func}{c:Code}(n1:P.funcs[f]? =some fn)(ag:fn.body=some c){args:List J}{H:aa}
  (fr:Bd (gk P intr n (.fn f) args H)=true){μ:bG}{W:World}{vs:List Value}(ah:bD μ H W)(al:Ei H)(au:jt P μ)(aJ:cy μ args vs):
  Calls P f ⟨vs⟩ W λe iY=>e=.returned (.bool true)/\Below W.heap.size W iY:=by
 obtain⟨bf,e⟩:=RX fr
 exact(RW hf hi n1 ag e ah au aJ).mono λe iY ⟨a4,u,ab,ae,aB,aP⟩=>⟨by cases ae;exact ab,aP.below al ah⟩
def Ej(P:Program):Bool:=match P.globals.size with
 |0=>true
 |g+1=>(((begin P (λ_ _=>0) default).world.heap[g]?).bind Obj.row?).isSome
theorem RZ{W:World}(hs:W.ShapedOpen P)(ag:Ej P=true):P.globals.size<=W.heap.size:=by
 unfold Ej at ag
 cases au:P.globals.size with
 |zero=>exact Nat.zero_le _
 |succ g=>
  rw[au] at ag
  simp only at ag
  obtain⟨⟨zero,t⟩,ad⟩:=Option.isSome_iff_exists.1 ag
  obtain⟨cs,ab,_⟩:=hs.1 g zero t (by omega) ad
  have:=(Array.getElem?_eq_some_iff.1 ab).1
  omega
variable {H:Type} {enc:TypeId×Value->H}
theorem JF(aD:laidOutB P=true){W iY:World}(ag:Below W.heap.size W iY){sp:Nat->Bool}:∀{c7:List TypeId} {vs:List Value} {bd:List (DataW H)} {ps:List MemPlace},(∀t∈c7,P.readableRec t=true/\t<P.types.size)->
  DataW.TrodAll enc P W 0 (λ_=>true) true c7 vs bd ps->(∀x∈ps,x.block<W.heap.size/\sp x.block=true)->DataW.TrodAll enc P iY 0 sp true c7 vs bd ps
 |[],[],[],_,_,h,_=>h
 |_::_,_::_,_::_,_,mP,⟨p,q,ab,ae,e⟩,hs=>
  ⟨p,q,WideElems.Trod_stays aD (mP _ (by simp)).1 (mP _ (by simp)).2 ab (λx ad=>ag.same (hs x (by rw[e];simp[ad])).1) (λx ad=>(hs x (by rw[e];simp[ad])).2),
    JF aD ag (λt bh=>mP t (by simp[bh])) ae (λx ad=>hs x (by rw[e];simp[ad])),e⟩
theorem R0{f:Func}{s:ChangeSpec}{apart fresh handsOn again:Bool}{W iY:World}{args:Array Value}{bd gs:List (DataW H)}{before:List MemPlace}{JG:TypeId}
  (aD:laidOutB P=true)(mP:∀t∈f.params.toList,P.readableRec t=true/\t<P.types.size)(hv:f.resultTypes=#[JG])(JH:P.underlying JG=some .bool)(Ek:s.vars=[])
  (lq:DataW.Whole enc P f.params.toList s.vars apart W args.toList bd gs before)(n1:s.fn H bd={results:=[.lit (.bool true)],args:=bd})(ag:Below W.heap.size W iY):
  s.post enc P f apart fresh handsOn again W args (.bool true) iY:=by
 have cB:∀p∈before,p.block<W.heap.size:=λp aU=>lq.lt p aU
 have R1:=lq
 obtain⟨sn,DD,kB,qY,rfl,bj,aM⟩:=lq
 rw[Ek] at qY
 obtain⟨rfl,rfl⟩:=trodVars_none qY
 have e:s.fn H (bd++[])={results:=[.lit (.bool true)],args:=bd}:=by rw[List.append_nil];exact n1
 have ib:∀sp:Nat->Bool,(∀p∈sn++[],sp p.block=true)->DataW.TrodAll enc P iY 0 sp true f.params.toList args.toList bd sn:=λsp R2=>
  JF aD ag mP kB (λx ad=>⟨cB x (by simp[ad]),R2 x (by simp[ad])⟩)
 have hd:∀(b:Nat) (sp:Nat->Bool) (aj:Bool),DataW.TrodAll enc P iY b sp aj f.resultTypes.toList ((Value.bool true).resultList f.resultTypes.size) [.lit (.bool true)] []:=λb sp aj=>by
  rw[hv];exact trodAll_mk1 (shut_bool JH true)
 refine⟨bd,[],sn++[],[],sn,[],R1,?_,?_,?_,World.keptBut_mono (λp aU=>⟨aU,?_⟩) (ag.frame (· ∈sn++[])),λ_=>?_⟩
 · rw[e];exact hd _ _ _
 · rw[e];exact ib _ λp aU=>by simpa using cB p aU
 · rw[e,Ek];rfl
 · exact Or.inr (by simpa using aU)
 · refine⟨ok_one hv rfl (okWide_bool_mk JH true),_,_,([]++sn)++[],⟨[]++sn,[],trodAll_append (ib _ (λ_ _=>rfl)) (hd _ _ _),show DataW.TrodVars enc P iY (λ_=>true) s.vars [] [] from by rw[Ek];rfl,rfl,?_,?_⟩,?_⟩
   · intro b off aU
     have eV:MemPlace.cell b off∈sn++[]:=by simpa using aU
     rw[ag.frozen (cB _ eV)]
     exact bj b off eV
   · intro bl
     simpa using aM bl
   · intro p aU _
     simpa using aU
theorem R3{a:Assume}{C:Checked}{os:Os}{f:FuncId}{fn:Func}{s:ChangeSpec}{conds:List PathCond}{apart fresh handsOn again:Bool}{X:World->Array Value->Prop}
  (bB:∀(w w':World) (args:Array Value),w.heap=w'.heap->X w args->X w' args)
  (own:ownKnob C.prog.godebug=none)(started:os.Started)(R4:C.prog.inits.idxOf? f=none)(n1:C.prog.funcs[f]? =some fn)
  (witness:∃(w:World) (tape:Tape) (i:Input),w.os=os/\(w.forCall tape i).Shaped C.prog/\i.vars=[]/\Input.okWide C.prog (w.forCall tape i) .any w.heap.size f i/\
   ((s.pre enc C.prog fn conds apart (w.forCall tape i).memory i.args/\X (w.forCall tape i).memory i.args)/\sizedMet enc C.prog fn (OpenSpec.ofChange s) apart (w.forCall tape i).memory i.args)/\a.holds C.prog (lone (Frame.enter C.prog f i.args .normal) [] (w.forCall tape i)))
  (R5:∀(W:World) (base:Nat) (args:Array Value) (bd gs:List (DataW H)) (before:List MemPlace),
   (∀(j:Nat) t v,fn.params[j]? =some t->args[j]? =some v->Value.okWide C.prog W .any base t v)->
   DataW.Whole enc C.prog fn.params.toList s.vars apart W args.toList bd gs before->
   (DataW.weightsEach C.prog (fn.params.toList++s.plain.varTypes C.prog) (bd++gs)).all (· <=reachBytes)=true->X W args->W.ShapedOpen C.prog->
   Calls C.prog f args W λe iY=>∃v,e=.returned v/\s.post enc C.prog fn apart fresh handsOn again W args v iY):
  ReturnsInHanded a C os f .any (λw args=>(s.pre enc C.prog fn conds apart w args/\X w args)/\sizedMet enc C.prog fn (OpenSpec.ofChange s) apart w args) (s.post enc C.prog fn apart fresh handsOn again):=by
 refine returnsInHanded_of_calls own started R4 witness ?_
 intro w tape i _ ju _ cp R6 acx
 obtain⟨_,_,_,C6,R7,_,_,_,_,pZ⟩:=cp
 have e:C6=fn:=Option.some.inj (R7.symm.trans n1)
 subst e
 obtain⟨⟨⟨bd,gs,before,hw,ai⟩,ad⟩,bj⟩:=R6
 have El:=DataW.Whole.of_heap (w':=w.forCall tape i) (by rfl) hw
 refine(R5 (w.forCall tape i) w.heap.size i.args bd gs before pZ El (bj.weights hw) (bB _ _ _ (by rfl) ad) ju).mono λe iY ⟨v,he,aU⟩=>?_
 subst he
 exact ChangeSpec.post_blind aU
end
end aC
namespace aC
open Go Go.RowKit
mutual
def nn:J->Bool
 |.bool _=>true
 |.int _ _=>true
 |.str _=>true
 |.bb=>true
 |.aA=>true
 |.iR=>true
 |.gj=>true
 |.fy=>true
 |.fn _ a b=>so a&&so b
 |.iface _ v=>nn v
 |.agg cs=>so cs
 |.aL vs=>so vs
 |_=>false
def so:List J->Bool
 |[]=>true
 |v::vs=>nn v&&so vs
end
mutual
theorem Em{μ a4:bG}:∀(a:J) (v:Value),nn a=true->bn μ a v->bn a4 a v
 |.bool _,v,_,h=>h
 |.int _ _,v,_,h=>h
 |.str _,v,_,h=>h
 |.bb,v,_,h=>h
 |.aA,v,_,h=>h
 |.iR,v,_,h=>h
 |.gj,v,_,h=>h
 |.fy,v,_,h=>h
 |.fn f a b,v,al,h=>by
  simp only[nn,Bool.and_eq_true] at al
  obtain⟨dm,cs,e,ab,ae⟩:=h
  exact⟨dm,cs,e,vP _ _ al.1 ab,vP _ _ al.2 ae⟩
 |.iface t x,v,al,h=>by
  simp only[nn] at al
  obtain⟨y,e,ab⟩:=h
  exact⟨y,e,Em _ _ al ab⟩
 |.agg cs,v,al,h=>by
  simp only[nn] at al
  obtain⟨l,e,ab⟩:=h
  exact⟨l,e,vP _ _ al ab⟩
 |.aL cs,v,al,h=>by
  simp only[nn] at al
  obtain⟨l,e,ab⟩:=h
  exact⟨l,e,vP _ _ al ab⟩
 |.bad,v,al,h=>by simp[nn] at al
 |.ptr _ _,v,al,h=>by simp[nn] at al
 |.slice _ _ _ _,v,al,h=>by simp[nn] at al
 |.map _,v,al,h=>by simp[nn] at al
 |.ca _,v,al,h=>by simp[nn] at al
theorem vP{μ a4:bG}:∀(as:List J) (vs:List Value),so as=true->cy μ as vs->cy a4 as vs
 |[],vs,_,h=>h
 |a::as,vs,al,h=>by
  simp only[so,Bool.and_eq_true] at al
  obtain⟨v,tC,e,ab,ae⟩:=h
  exact⟨v,tC,e,Em a v al.1 ab,vP as tC al.2 ae⟩
end
structure qZ where
 f:Nat
 args:List J
 v:J
def q1:List qZ->Nat->List J->aa->Option (J×aa)
 |[],_,_,_=>none
 |e::T,f,args,h=>match Nat.beq f e.f with
  |true=>match J.nS args e.args with
   |true=>some (e.v,h)
   |false=>q1 T f args h
  |false=>q1 T f args h
theorem JI:∀(T:List qZ) (f:Nat) (args:List J) (h:aa) (v:J) (an:aa),q1 T f args h=some (v,an)->an=h/\∃e∈T,e.f=f/\e.args=args/\e.v=v
 |[],f,args,h,v,an,ad=>by cases ad
 |e::T,f,args,h,v,an,ad=>by
  simp only[q1] at ad
  have rest:q1 T f args h=some (v,an)->an=h/\∃ed∈e::T,ed.f=f/\ed.args=args/\ed.v=v:=λad=>by
   obtain⟨ab,ed,ae,aB⟩:=JI T f args h v an ad
   exact⟨ab,ed,List.mem_cons_of_mem _ ae,aB⟩
  split at ad
  · rename_i hf
    split at ad
    · rename_i bl
      cases ad
      exact⟨rfl,e,by simp,(Nat.eq_of_beq_eq_true hf).symm,(vI _ _ bl).symm,rfl⟩
    · exact rest ad
  · exact rest ad
section
variable {P:Program}
def En(P:Program)(intr:Nat->List J->aa->Option (J×aa))(n:Nat)(e:qZ):Bool:=
 match gk P intr n (.fn e.f) e.args (oJ P.globals.size) with
 |.ret v _=>J.beq v e.v&&nn e.v&&so e.args
 |_=>false
def tR(P:Program)(e:qZ):Prop:=∃(intr:Nat->List J->aa->Option (J×aa)) (n:Nat),tE P intr/\En P intr n e=true
theorem vC.mono{f:FuncId}{vs:List Value}{w:World}{R e3:Ending->World->Prop}(h:∀e w',R e w'->e3 e w')(au:vC P f vs w R):vC P f vs w e3:=by
 rcases au with⟨v,w',ab,ae⟩|⟨ab,ae⟩
 · exact .inl ⟨v,w',ab,h _ _ ae⟩
 · exact .inr ⟨ab,ae.mono λe w' he=>h e w' he⟩
theorem JJ(hf:Fit P){T:List qZ}(mP:∀e∈T,tR P e):tE P (q1 T):=by
 intro f args H v bf ad μ w vs ah au aJ
 obtain⟨rfl,e,he,rfl,rfl,rfl⟩:=JI T f args H v bf ad
 obtain⟨intr,n,hi,ag⟩:=mP e he
 unfold En at ag
 split at ag
 · rename_i v1 H1 fr
   simp only[Bool.and_eq_true] at ag
   obtain⟨⟨fg,fe⟩,tS⟩:=ag
   have R8:=beq_eq _ _ fg
   subst R8
   have eS:P.globals.size<=w.heap.size:=by
    cases bX:P.globals.size with
    |zero=>exact Nat.zero_le _
    |succ g=>
     obtain⟨i,ab,ae,aB⟩:=au g (by omega)
     have:=(ah.lt _ i ab).2
     omega
   obtain⟨s1,s2,ck⟩:=JE (P:=P) eS
   have h_:=(JC hf hi n).fn e.f e.args (oJ P.globals.size) (by rw[fr];rfl) (yi P.globals.size) w vs s1 s2 (vP _ _ tS aJ)
   rw[fr] at h_
   refine h_.mono λlk w' xP=>?_
   obtain⟨a4,u,rfl,aY,aR,bW⟩:=xP
   have hold:∀r,r<w.heap.size->w'.heap[r]? =w.heap[r]? :=λr al=>bW.old r al λb i aD=>absurd rfl aD
   refine⟨μ,u,rfl,Em _ _ fe aY,⟨λb o i ag hi=>(ah.rel b o i ag hi).mono (fL.refl μ) (hold _ (ah.lt b i hi).2),ah.inj,λb i hi=>⟨(ah.lt b i hi).1,Nat.lt_of_lt_of_le (ah.lt b i hi).2 bW.size⟩,ah.bound⟩,?_⟩
   exact⟨fL.refl μ,bW.size,Nat.le_refl _,λ_ _ aD=>aD,λ_ _ _=>rfl,λr al _=>hold r al,(λb i ab ae=>by rw[ab] at ae;cases ae),λb o i ag _ hi=>⟨ag,hold _ (ah.lt b i hi).2⟩,bW.os,bW.out,bW.tape,bW.drawn⟩
 · cases ag
def yj(P:Program):List qZ->Prop
 |[]=>True
 |e::T=>tR P e/\yj P T
theorem yj.ok:∀{T:List qZ},yj P T->∀e∈T,tR P e
 |[],_,e,he=>by cases he
 |x::T,h,e,he=>by
  rcases List.mem_cons.1 he with rfl|he
  · exact h.1
  · exact yj.ok h.2 e he
theorem Eo(hf:Fit P){T:List qZ}(mP:yj P T){n:Nat}{e:qZ}(h:En P (q1 T) n e=true):tR P e:=⟨q1 T,n,JJ hf mP.ok,h⟩
end
end aC
namespace aC
open Go
end aC
namespace aC
open Go
end aC
