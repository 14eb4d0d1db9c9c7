/-
  THE ABSTRACT EVALUATOR (drawn regions; a run of the evaluator is a run of the program): a deterministic semantics of loaded code, and the proof that its runs are runs of the program in the model, whatever the tape draws. No condition.
-/
import Derived.Test.YtfooahfebojldaaGreatDoorAec
import Derived.Handed
import Derived.ProofKit
import Derived.Below
import Derived.ChangeSame
import Derived.SliceStrings
import Derived.WideShapes
set_option linter.unusedVariables false
set_option linter.unusedSimpArgs false
namespace aD
open Go
structure hd where
 P:Program
 need:Nat
 cm:Nat
 inR:Bool
 call:ay->List I->J->an
 ops:Array Oper
 r:aT
 b:Frame
 mh:bn
 H:J
 jm:World
 cs0:List Frame
 N:Nat
 f:Nat->sk
def hd.steps(X:hd):List DStep:=e1 X.ops.toList 0 [] []
def hd.val(X:hd)(j:Nat):I:=(nth (X.N-1-j) (X.f X.N).env).getD .bad
structure fH(X:hd):Prop where
 ah:lC X.P X.call
 dO:X.inR=X.b.roundOf.isSome
 oM:∀o∈X.ops.toList,∀t,o.dst=some t->t<X.cm
 hdr:pw X.ops X.steps=true
 gJ:X.N<=X.ops.size
 sm:∀k s,k<X.N->X.steps[k]? =some s->sl X.P X.need X.inR X.call X.ops X.r X.H.n s (X.f k) (X.f (k+1))
 PG:(X.f 0).env=[]
 q0:(X.f 0).a9=[]
 looks:∀i s,i<X.N->X.steps[i]? =some s->kindOf X.P s.o.op=.pure->∃dX,kx X.P X.need X.ops X.r X.N (X.f X.N).env s (X.val i) dX (X.f X.N).h (X.f X.N).a9=true/\(∀e,dX=some e->e=X.N/\X.N<X.ops.size)
 last:∀s,X.steps[X.N]? =some s->kindOf X.P s.o.op=.eg/\(∀e m h0 l,(X.f X.N).a9=(e,m,h0)::l->Nat.testBit s.eU e=true)/\∀k bM,X.N<k->X.steps[k]? =some bM->Nat.testBit bM.eU s.i=true
 oI:hz X.P X.mh
 zt:br X.mh X.H X.jm
section
variable {X:hd}
theorem fH.lH(bt:fH X){i:Nat}(ae:i<X.ops.size):∃s,X.steps[i]? =some s/\s.i=i/\X.ops[i]? =some s.o/\s.loc=ib (X.ops.toList.take i) 0 []/\Sound X.ops i s.eU:=by
 have bd:X.ops.toList[i]? =some X.ops[i]:=by simp[ae]
 obtain⟨s,aa,ad,ax,aO,bZ⟩:=wN (ops:=X.ops) X.ops.toList 0 [] [] (λk=>by simp) (uf bt.hdr) (λj aL=>by omega) i _ bd
 refine⟨s,aa,by omega,by rw[ax];exact Array.getElem?_eq_getElem ae,aO,by simpa using bZ⟩
theorem fH.kZ(bt:fH X){i:Nat}{s:DStep}(h:X.steps[i]? =some s):i<X.ops.size/\s.i=i/\X.ops[i]? =some s.o/\s.loc=ib (X.ops.toList.take i) 0 []/\Sound X.ops i s.eU:=by
 have ae:i<X.ops.size:=by
  have aa:=(List.getElem?_eq_some_iff.1 h).1
  rw[hd.steps,CD] at aa
  simpa using aa
 obtain⟨bM,aa,ad⟩:=bt.lH ae
 rw[h] at aa;cases aa
 exact⟨ae,ad⟩
theorem fH.apart(bt:fH X){i j:Nat}{s bM:DStep}(qZ:i<j)(aa:X.steps[i]? =some s)(ad:X.steps[j]? =some bM)(h:(∃t,s.o.dst=some t/\t∈lq X.ops bM.o)\/(∃t,bM.o.dst=some t/\t∈lq X.ops s.o)):Nat.testBit bM.eU i=true:=by
 have:=HO bt.hdr i j s bM qZ aa ad h
 rw[(bt.kZ aa).2.1] at this;exact this
theorem fH.zu(bt:fH X):∀k,k<=X.N->(X.f k).env.length=k
 |0,_=>by rw[bt.PG];rfl
 |k+1,aw=>by
  obtain⟨s,aa,_⟩:=bt.lH (i:=k) (by have:=bt.gJ;omega)
  have ba:=bt.zu k (by omega)
  have a6:=bt.sm k s (by omega) aa
  generalize X.f (k+1)=st at a6
  cases a6<;>simp[ba]
theorem fH.HR(bt:fH X)(k:Nat):∀m,k<=m->m<=X.N->∃l,(X.f m).env=l++(X.f k).env
 |0,aa,ad=>⟨[],by obtain rfl:k=0:=by omega
                  rfl⟩
 |m+1,aa,ad=>by
  by_cases e:k=m+1
  · exact⟨[],by rw[e];rfl⟩
  · obtain⟨l,au⟩:=bt.HR k m (by omega) (by omega)
    obtain⟨s,hs,_⟩:=bt.lH (i:=m) (by have:=bt.gJ;omega)
    have a6:=bt.sm m s (by omega) hs
    have:∃v,(X.f (m+1)).env=v::(X.f m).env:=by
     generalize X.f (m+1)=st at a6
     cases a6<;>exact⟨_,rfl⟩
    obtain⟨v,aE⟩:=this
    exact⟨v::l,by rw[aE,au];rfl⟩
theorem HS{α:Type}:∀(l m:List α) (k:Nat),nth (l.length+k) (l++m)=nth k m
 |[],m,k=>by simp
 |a::l,m,k=>by
  have:(a::l).length+k=(l.length+k)+1:=by simp;omega
  rw[this];exact HS l m k
theorem fH.CE(bt:fH X){k j:Nat}(aw:k<=X.N)(aL:j<k):nth (k-1-j) (X.f k).env=nth (X.N-1-j) (X.f X.N).env:=by
 obtain⟨l,au⟩:=bt.HR k X.N aw (Nat.le_refl _)
 have aa:=bt.zu k aw
 have ad:=bt.zu X.N (Nat.le_refl _)
 rw[au] at ad⊢
 simp only[List.length_append,aa] at ad
 have:X.N-1-j=l.length+(k-1-j):=by omega
 rw[this,HS]
theorem fH.zv(bt:fH X){k:Nat}(aw:k<X.N){v:I}(h:(X.f (k+1)).env=v::(X.f k).env):X.val k=v:=by
 have aa:=bt.CE (k:=k+1) (j:=k) aw (Nat.lt_succ_self k)
 unfold hd.val
 rw[<-aa,h]
 simp[nth]
theorem fH.HT(bt:fH X){k:Nat}(aw:k<=X.N){a:Acc}(a2:a.below k):dU k (X.f k).env X.r a=dU X.N (X.f X.N).env X.r a:=by
 cases a with
 |env j=>simp only[dU];rw[bt.CE aw a2]
 |reg p=>rfl
 |val v=>rfl
theorem wO(l:List Oper)(t:Nat):∀k,k<=l.length->
  (∀a,hY t (ib (l.take k) 0 [])=some a->∃j o,j<k/\a=.env j/\l[j]? =some o/\o.dst=some t/\∀ji o',j<ji->ji<k->l[ji]? =some o'->o'.dst≠some t)/\
  (hY t (ib (l.take k) 0 [])=none->∀j o,j<k->l[j]? =some o->o.dst≠some t)
 |0,_=>⟨λa h=>by simp[ib,hY] at h,λ_ j o aL=>by omega⟩
 |k+1,aw=>by
  obtain⟨zw,zx⟩:=wO l t k (by omega)
  have bd:l[k]? =some l[k]:=List.getElem?_eq_getElem (by omega)
  rw[HM l 0 [] k l[k] bd,Nat.zero_add]
  unfold lo
  cases aG:(l[k]).dst with
  |none=>
   refine⟨λa h=>?_,λh j o aL mb=>?_⟩
   · obtain⟨j,o,aa,ad,ax,aO,bZ⟩:=zw a h
     refine⟨j,o,by omega,ad,ax,aO,λji o' aV aN cz=>?_⟩
     by_cases e:ji=k
     · subst e;rw[bd] at cz;cases cz;rw[aG];simp
     · exact bZ ji o' aV (by omega) cz
   · by_cases e:j=k
     · subst e;rw[bd] at mb;cases mb;rw[aG];simp
     · exact zx h j o (by omega) mb
  |some d=>
   simp only[nH]
   by_cases e:t=d
   · subst e
     refine⟨λa h=>?_,λh=>by simp at h⟩
     simp at h;subst h
     exact⟨k,_,by omega,rfl,bd,aG,λji o' aV aN=>by omega⟩
   · simp only[e,if_false]
     refine⟨λa h=>?_,λh j o aL mb=>?_⟩
     · obtain⟨j,o,aa,ad,ax,aO,bZ⟩:=zw a h
       refine⟨j,o,by omega,ad,ax,aO,λji o' aV aN cz=>?_⟩
       by_cases aC:ji=k
       · subst aC;rw[bd] at cz;cases cz;rw[aG];simp;exactλcY=>e cY.symm
       · exact bZ ji o' aV (by omega) cz
     · by_cases aC:j=k
       · subst aC;rw[bd] at mb;cases mb;rw[aG];simp;exactλcY=>e cY.symm
       · exact zx h j o (by omega) mb
def hd.sn(X:hd)(S:List Nat)(μ:bn)(cf:Array Value):Prop:=∀t,
 (∀j o,j∈S->X.ops[j]? =some o->o.dst=some t->(∀k o',k∈S->X.ops[k]? =some o'->o'.dst=some t->k<=j)->bc μ (X.val j) (cf.getD t undef))/\
 ((∀j o,j∈S->X.ops[j]? =some o->o.dst≠some t)->Nat.testBit X.need t=true->bc μ (X.r.get (gO t)) (cf.getD t undef))
theorem hd.sn.mono{S:List Nat}{μ aP:bn}{cf:Array Value}(hle:eV μ aP)(h:X.sn S μ cf):X.sn S aP cf:=λt=>⟨λj o aa ad ax aO=>((h t).1 j o aa ad ax aO).mono hle,λaa ad=>((h t).2 aa ad).mono hle⟩
theorem fH.HU(bt:fH X){S:List Nat}(gR:zs X.ops S){μ:bn}{cf:Array Value}(ai:X.sn S μ cf){i:Nat}(ae:i<=X.N)(dY:i∉S)(dg:kA X.ops S i){s:DStep}(hs:X.steps[i]? =some s){t:Nat}(a6:t∈lq X.ops s.o):
  bc μ (dU i (X.f i).env X.r (cT X.P X.need s.loc (.tmp t))) (cf.getD t undef):=by
 obtain⟨dO,hq,e8,mi,lI⟩:=bt.kZ hs
 obtain⟨f1,f2⟩:=wO X.ops.toList t i (by simp;omega)
 have HV:∀k o',k∈S->X.ops[k]? =some o'->o'.dst=some t->k<i:=λk o' aw hN aG=>by
  have oP:k<X.ops.size:=(Array.getElem?_eq_some_iff.1 hN).1
  rcases Nat.lt_trichotomy k i with h|h|h
  · exact h
  · subst h;exact absurd aw dY
  · obtain⟨bM,aV,aN,cz,jj,jk⟩:=bt.lH oP
    rw[hN] at cz;cases cz
    have:=bt.apart h hs aV (.inr ⟨t,aG,a6⟩)
    exact absurd (jk S gR (gR k aw) i this) dY
 simp only[cT,mi]
 cases hf:hY t (ib (X.ops.toList.take i) 0 []) with
 |some a=>
  obtain⟨j,o,aL,rfl,mb,aG,qA⟩:=f1 a hf
  have HW:X.ops[j]? =some o:=by simpa using mb
  obtain⟨bM,aV,aN,cz,jj,jk⟩:=bt.lH (i:=j) (by omega)
  rw[HW] at cz;cases cz
  have CF:j∈S:=lI S gR dg j (bt.apart aL aV hs (.inl ⟨t,aG,a6⟩))
  have:=(ai t).1 j _ CF HW aG λk o' aw hN mf=>by
   have PH:=HV k o' aw hN mf
   rcases Nat.lt_or_ge j k with h|h
   · exact absurd mf (qA k o' h PH (by simpa using hN))
   · exact h
  have aE:dU i (X.f i).env X.r (.env j)=X.val j:=by
   simp only[dU,hd.val]
   rw[bt.CE ae aL]
  simp only[aE];exact this
 |none=>
  simp only[]
  cases af:Nat.testBit X.need t with
  |false=>trivial
  |true=>
   exact(ai t).2 (λj o aL bd aG=>f2 hf j o (HV j o aL bd aG) (by simpa using bd) aG) af
theorem fH.HX(bt:fH X){S:List Nat}(gR:zs X.ops S){μ:bn}{a:Act}(bL:a.tmps.size=X.cm)(ai:X.sn S μ a.tmps){i:Nat}(dY:i∉S)(dg:kA X.ops S i){s:DStep}(hs:X.steps[i]? =some s){u:Value}(hu:bc μ (X.val i) u):
  X.sn (i::S) μ (a.put s.o.dst u).tmps:=by
 obtain⟨dO,hq,e8,mi,lI⟩:=bt.kZ hs
 have cy:∀t,s.o.dst=some t->t<a.tmps.size:=λt h=>by
  rw[bL];exact bt.oM s.o (by rw[<-Array.getElem?_toList] at e8;exact List.mem_of_getElem? e8) t h
 intro t
 by_cases aG:s.o.dst=some t
 · have fw:(a.put s.o.dst u).tmps.getD t undef=u:=by
     rw[aG];simp only[Act.put];rw[wz (cy t aG),if_pos rfl]
   have PI:∀k o',k∈S->X.ops[k]? =some o'->o'.dst=some t->k<i:=λk o' aw hN mf=>by
    have oP:k<X.ops.size:=(Array.getElem?_eq_some_iff.1 hN).1
    rcases Nat.lt_trichotomy k i with h|h|h
    · exact h
    · subst h;exact absurd aw dY
    · obtain⟨bM,aV,aN,cz,jj,jk⟩:=bt.lH oP
      rw[hN] at cz;cases cz
      have:=bt.apart h hs aV (.inr ⟨t,mf,by simp[lq,aG]⟩)
      exact absurd (jk S gR (gR k aw) i this) dY
   refine⟨λj o aL bd zy wm=>?_,λso=>absurd aG (so i s.o (by simp) e8)⟩
   have qZ:=wm i s.o (by simp) e8 aG
   rcases List.mem_cons.1 aL with rfl|aL
   · rw[fw];exact hu
   · have:=PI j o aL bd zy;omega
 · have fw:(a.put s.o.dst u).tmps.getD t undef=a.tmps.getD t undef:=by
     cases HY:s.o.dst with
     |none=>rfl
     |some d=>
      simp only[Act.put]
      rw[wz (cy d HY),if_neg (λe=>aG (by rw[HY,e]))]
   rw[fw]
   refine⟨λj o aL bd zy wm=>?_,λso af=>(ai t).2 (λj o aL bd=>so j o (by simp[aL]) bd) af⟩
   rcases List.mem_cons.1 aL with rfl|aL
   · rw[e8] at bd;cases bd;exact absurd zy aG
   · exact(ai t).1 j o aL bd zy λk o' aw hN mf=>wm k o' (by simp[aw]) hN mf
def pG(μ:bn)(w:World)(b:Nat)(ob:cx):Prop:=∃i O,μ b=some i/\w.heap[i.bj]? =some O/\(∀aP w',eV μ aP->w'.heap[i.bj]? =some O->mU aP ob i w')/\(∀c j,c≠b->μ c=some j->j.bj≠i.bj)
theorem br.CG{μ:bn}{H:J}{w:World}(h:br μ H w){b:Nat}{ob:cx}(af:b<H.n)(bl:μ b=none\/pG μ w b ob):br μ (H.set b (some ob)) w:=by
 refine⟨λc o i ah ae=>?_,λc d i j ah aG ae aL e=>?_,λc i ae=>h.lt c i ae,λc ah=>?_⟩
 · rw[J.b_] at ah
   by_cases e:c=b
   · subst e
     rw[if_pos rfl] at ah;cases ah
     rcases bl with bl|⟨sq,O,aa,ad,ax,aO⟩
     · rw[bl] at ae;cases ae
     · rw[aa] at ae;cases ae
       exact ax μ w (eV.refl μ) ad
   · rw[if_neg e] at ah;exact h.rel c o i ah ae
 · rw[J.b_] at ah aG
   by_cases aA:c=b
   · by_cases aC:d=b
     · rw[aA,aC]
     · subst aA
       rcases bl with bl|⟨sq,O,aa,ad,ax,aO⟩
       · rw[bl] at ae;cases ae
       · rw[aa] at ae;cases ae
         exact absurd e.symm (aO d j aC aL)
   · by_cases aC:d=b
     · subst aC
       rcases bl with bl|⟨sq,O,aa,ad,ax,aO⟩
       · rw[bl] at aL;cases aL
       · rw[aa] at aL;cases aL
         exact absurd e (aO c i aA ae)
     · rw[if_neg aA] at ah;rw[if_neg aC] at aG
       exact h.inj c d i j ah aG ae aL e
 · rw[J.b_,if_neg (by simp at ah;omega)];exact h.bound c (by simpa using ah)
theorem cb.CG{mh μ:bn}{H wP:J}{jm w:World}(ak:br mh H jm)(h:cb mh H jm μ wP w){b:Nat}(ob:cx)(af:H.n<=b):cb mh H jm μ (wP.set b (some ob)) w where
 le:=h.le
 size:=h.size
 n:=by simpa using h.n
 live:=λc ah au=>h.live c ah (by rw[J.b_,if_neg (by omega)] at au;exact au)
 idle:=λc ah hm=>by rw[J.b_,if_neg (by omega)];exact h.idle c ah hm
 old:=h.old
 new:=h.new
 ro:=λc o i ah ai ae=>by
  have:=(ak.lt c i ae).1
  rw[J.b_,if_neg (by omega)];exact h.ro c o i ah ai ae
 os:=h.os
 out:=h.out
 tape:=h.tape
 drawn:=h.drawn
theorem br.early{μ:bn}{H:J}{w:World}(h:br μ H w){b:Nat}{ob:cx}{O:Obj}{sz:Nat}(af:b<H.n)(hm:μ b=none)(bd:∀o,H.get b=some o->o=ob)
  (PJ:∀aP w',eV μ aP->w'.heap[w.heap.size]? =some O->mU aP ob ⟨w.heap.size,0,sz⟩ w'):eV μ (gb μ b ⟨w.heap.size,0,sz⟩)/\br (gb μ b ⟨w.heap.size,0,sz⟩) H (w.alloc O):=by
 have hle:eV μ (gb μ b ⟨w.heap.size,0,sz⟩):=λc i ae=>by
  rw[g0];exact ae
  intro e;subst e;rw[hm] at ae;cases ae
 have hold:∀r,r<w.heap.size->(w.alloc O).heap[r]? =w.heap[r]? :=λr ai=>by
  simp only[World.alloc,Array.getElem?_push];rw[if_neg (by omega)]
 refine⟨hle,λc o i ah ae=>?_,λc d i j ah aG ae aL e=>?_,λc i ae=>?_,h.bound⟩
 · by_cases e:c=b
   · subst e
     rw[gf] at ae;cases ae
     rw[bd o ah]
     exact PJ _ _ hle (World.heap_alloc_new _ _)
   · rw[g0 _ _ e] at ae
     exact(h.rel c o i ah ae).mono hle (hold _ (h.lt c i ae).2)
 · by_cases aA:c=b
   · by_cases aC:d=b
     · rw[aA,aC]
     · subst aA;rw[gf] at ae;cases ae
       rw[g0 _ _ aC] at aL
       have:=(h.lt d j aL).2
       simp only at e;omega
   · by_cases aC:d=b
     · subst aC;rw[gf] at aL;cases aL
       rw[g0 _ _ aA] at ae
       have:=(h.lt c i ae).2
       simp only at e;omega
     · rw[g0 _ _ aA] at ae;rw[g0 _ _ aC] at aL
       exact h.inj c d i j ah aG ae aL e
 · by_cases e:c=b
   · subst e;rw[gf] at ae;cases ae
     exact⟨af,by simp⟩
   · rw[g0 _ _ e] at ae
     have:=h.lt c i ae
     simp only[World.size_alloc];omega
theorem cb.early{mh μ:bn}{H wP:J}{jm w:World}(ak:br mh H jm)(h:cb mh H jm μ wP w){b:Nat}(af:H.n<=b)(hm:μ b=none){O:Obj}{sz:Nat}:cb mh H jm (gb μ b ⟨w.heap.size,0,sz⟩) wP (w.alloc O):=by
 have hold:∀r,r<w.heap.size->(w.alloc O).heap[r]? =w.heap[r]? :=λr ai=>by
  simp only[World.alloc,Array.getElem?_push];rw[if_neg (by omega)]
 exact{
  le:=λc i ae=>by
   have aa:=h.le c i ae
   rw[g0];exact aa
   intro e;subst e;rw[hm] at aa;cases aa
  size:=by have:=h.size;simp only[World.size_alloc];omega
  n:=h.n
  live:=h.live
  idle:=h.idle
  old:=λr ai aK=>(hold r (Nat.lt_of_lt_of_le ai h.size)).trans (h.old r ai aK)
  new:=λc i aa ad=>by
   by_cases e:c=b
   · subst e;rw[gf] at ad;cases ad;exact⟨af,.inl h.size⟩
   · rw[g0 _ _ e] at ad;exact h.new c i aa ad
  ro:=λc o i ah ai ae=>by
   obtain⟨aa,ad⟩:=h.ro c o i ah ai ae
   exact⟨aa,(hold _ (Nat.lt_of_lt_of_le (ak.lt c i ae).2 h.size)).trans ad⟩
  os:=h.os
  out:=h.out
  tape:=h.tape
  drawn:=h.drawn}
theorem pG.early{μ:bn}{H:J}{w:World}(h:br μ H w){b c:Nat}{ob:cx}{O:Obj}{sz:Nat}(hm:μ b=none)(bl:pG μ w c ob):pG (gb μ b ⟨w.heap.size,0,sz⟩) (w.alloc O) c ob:=by
 obtain⟨i,CH,aa,ad,ax,aO⟩:=bl
 have dC:c≠b:=by intro e;subst e;rw[hm] at aa;cases aa
 have cy:=(h.lt c i aa).2
 have hle:eV μ (gb μ b ⟨w.heap.size,0,sz⟩):=λc i ae=>by
  rw[g0];exact ae
  intro e;subst e;rw[hm] at ae;cases ae
 refine⟨i,CH,by rw[g0 _ _ dC];exact aa,?_,λaP w' au pH=>ax aP w' (hle.trans au) pH,λd j aG aL=>?_⟩
 · simp only[World.alloc,Array.getElem?_push];rw[if_neg (by omega)];exact ad
 · by_cases e:d=b
   · subst e;rw[gf] at aL;cases aL;simp only;omega
   · rw[g0 _ _ e] at aL;exact aO d j aG aL
theorem pG.oQ{μ aP:bn}{H aX:J}{w w':World}(ak:br μ H w)(a2:cb μ H w aP aX w'){c:Nat}{ob:cx}(aj:H.get c=none)(bl:pG μ w c ob):pG aP w' c ob:=by
 obtain⟨i,CH,aa,ad,ax,aO⟩:=bl
 have cy:=(ak.lt c i aa).2
 refine⟨i,CH,a2.le _ _ aa,?_,λyQ c9 au pH=>ax yQ c9 (a2.le.trans au) pH,λd j aG aL=>?_⟩
 · rw[a2.old i.bj cy]
   · exact ad
   · intro d j au aL
     exact aO d j (λe=>by subst e;exact au aj) aL
 · cases pD:μ d with
   |some PK=>
    have:=a2.le d PK pD
    rw[aL] at this;cases this
    exact aO d j aG pD
   |none=>
    obtain⟨_,aK|⟨e,o,k,he,_,aw,CI⟩⟩:=a2.new d j pD aL
    · omega
    · rw[<-CI]
      exact aO e k (λcY=>by subst cY;rw[aj] at he;cases he) aw
end
end aD
namespace aD
open Go
section
variable {X:hd}
def q1(X:hd)(i:Nat)(s:DStep)(v:I)(ob:cx):Prop:=
 i<X.N/\kindOf X.P s.o.op=.alloc/\ey (gG X.P X.need X.ops X.r s.i (X.f i).env s)=some true/\jL X.P s.o.op (lG X.P X.need X.r s (X.f i).env) (X.H.n+i)=some (v,ob)
structure Inv(X:hd)(S:List Nat)(c:Nat)(μ:bn)(w:World)(a:Act)(cs:List Frame):Prop where
 ah:c<=X.N
 closed:zs X.ops S
 sub:∀i∈S,i<X.N
 eg:∀i s,X.steps[i]? =some s->i<X.N->kindOf X.P s.o.op=.eg->(i∈S<->i<c)
 rel:br μ (X.f c).h w
 oQ:cb X.mh X.H X.jm μ (X.f c).h w
 uh:gz μ (X.f c).d a.defers
 qr:hL μ X.b.kind X.cs0 (X.f c).q cs
 en:∀i,i<X.ops.size->i∉S->μ (X.H.n+i)=none
 lay:∀i s v ob,X.steps[i]? =some s->q1 X i s v ob->i∉S->i<c->(X.f c).h.get (X.H.n+i)=some ob
 nN:∀i,c<=i->i<X.ops.size->(X.f c).h.get (X.H.n+i)=none
 pI:X.H.n+X.ops.size<=(X.f c).h.n
 fL:∀i s v ob,X.steps[i]? =some s->q1 X i s v ob->i∈S->c<=i->pG μ w (X.H.n+i) ob
 l3:X.sn S μ a.tmps
 sz:a.tmps.size=X.cm
theorem Inv.pass(bt:fH X){S:List Nat}{c:Nat}{μ:bn}{w:World}{a:Act}{cs:List Frame}(h:Inv X S c μ w a cs)(cy:c<X.N){s:DStep}(hs:X.steps[c]? =some s)(aw:kindOf X.P s.o.op≠ .eg):Inv X S (c+1) μ w a cs:=by
 obtain⟨dO,hq,e8,mi,lI⟩:=bt.kZ hs
 have a6:=bt.sm c s cy hs
 have HZ:∀i bM,X.steps[i]? =some bM->i<X.N->kindOf X.P bM.o.op=.eg->(i∈S<->i<c+1):=λi bM aa ad ax=>by
  rw[h.eg i bM aa ad ax]
  have:i≠c:=by intro e;subst e;rw[hs] at aa;cases aa;exact aw ax
  omega
 have same:(X.f (c+1)).h=(X.f c).h->(X.f (c+1)).d=(X.f c).d->(X.f (c+1)).q=(X.f c).q->(∀v ob,¬q1 X c s v ob)->Inv X S (c+1) μ w a cs:=λaA aC bN PL=>by
  refine⟨cy,h.closed,h.sub,HZ,by rw[aA];exact h.rel,by rw[aA];exact h.oQ,by rw[aC];exact h.uh,by rw[bN];exact h.qr,h.en,λi bM v ob aa ad ax aO=>?_,λi aa ad=>(by rw[aA];exact h.nN i (by omega) ad),by rw[aA];exact h.pI,λi bM v ob aa ad ax aO=>h.fL i bM v ob aa ad ax (by omega),h.l3,h.sz⟩
  by_cases e:i=c
  · subst e;rw[hs] at aa;cases aa;exact absurd ad (PL v ob)
  · rw[aA];exact h.lay i bM v ob aa ad ax (by omega)
 generalize hf:X.f (c+1)=st at a6
 cases a6 with
 |ug fj hw=>
  refine same (by rw[hf]) (by rw[hf]) (by rw[hf]) λv ob hO=>?_
  have:=hO.2.2.1
  rw[hw] at this;cases this
 |pure fj he=>
  refine same (by rw[hf]) (by rw[hf]) (by rw[hf]) λv ob hO=>?_
  have:=hO.2.1
  rw[fj] at this;cases this
 |eg fj bd he=>exact absurd fj aw
 |alloc fj hw a2=>
  rename_i v ob
  have aA:(X.f (c+1)).h=(X.f c).h.set (X.H.n+c) (some ob):=by rw[hf,hq]
  have aC:(X.f (c+1)).d=(X.f c).d:=by rw[hf]
  have bN:(X.f (c+1)).q=(X.f c).q:=by rw[hf]
  have hO:q1 X c s v ob:=⟨cy,fj,hw,by rw[<-hq];rw[<-hq] at a2;exact a2⟩
  have af:X.H.n+c<(X.f c).h.n:=by have:=h.pI;omega
  have bl:μ (X.H.n+c)=none\/pG μ w (X.H.n+c) ob:=by
   by_cases H0:c∈S
   · exact .inr (h.fL c s v ob hs hO H0 (Nat.le_refl _))
   · exact .inl (h.en c dO H0)
  refine⟨cy,h.closed,h.sub,HZ,by rw[aA];exact h.rel.CG af bl,by rw[aA];exact h.oQ.CG bt.zt ob (by omega),by rw[aC];exact h.uh,by rw[bN];exact h.qr,h.en,λi bM v' CJ aa ad ax aO=>?_,λi aa ad=>?_,by rw[aA];simpa using h.pI,λi bM v ob aa ad ax aO=>h.fL i bM v ob aa ad ax (by omega),h.l3,h.sz⟩
  · rw[aA,J.b_]
    by_cases e:i=c
    · subst e
      rw[hs] at aa;cases aa
      have:=ad.2.2.2.symm.trans hO.2.2.2
      cases this
      rw[if_pos rfl]
    · rw[if_neg (by omega)];exact h.lay i bM v' CJ aa ad ax (by omega)
  · rw[aA,J.b_,if_neg (by omega)]
    exact h.nN i (by omega) ad
def Norm(X:hd)(c:Nat):Prop:=c=X.N\/∃s,X.steps[c]? =some s/\kindOf X.P s.o.op=.eg
theorem Inv.norm(bt:fH X){S:List Nat}{μ:bn}{w:World}{a:Act}{cs:List Frame}:∀(k c:Nat),X.N-c=k->Inv X S c μ w a cs->∃c',Norm X c'/\Inv X S c' μ w a cs
 |0,c,aw,h=>⟨c,.inl (by have:=h.ah;omega),h⟩
 |k+1,c,aw,h=>by
  obtain⟨s,hs,_⟩:=bt.lH (i:=c) (by have:=bt.gJ;omega)
  by_cases he:kindOf X.P s.o.op=.eg
  · exact⟨c,.inr ⟨s,hs,he⟩,h⟩
  · exact Inv.norm bt k (c+1) (by omega) (h.pass bt (by omega) hs he)
def wQ(ops:Array Oper)(o:Oper)(g:Operand->I):Operand->I
 |.tmp t=>if(lq ops o).contains t then g (.tmp t) else .bad
 |x=>g x
theorem zz{ops:Array Oper}{o:Oper}{g:Operand->I}:∀x∈o.op.operands,g x=wQ ops o g x:=by
 intro x ab
 cases x with
 |tmp t=>
  have:(lq ops o).contains t=true:=by
   have aa:t∈o.op.operands.toList.filterMap λ|.tmp t=>some t|_=>none:=List.mem_filterMap.2 ⟨.tmp t,by simpa using ab,rfl⟩
   simp only[lq,List.contains_iff_mem,List.mem_append]
   exact .inl (.inr aa)
  simp only[wQ,this,if_true]
 |_=>rfl
theorem H2(bt:fH X){S:List Nat}{c:Nat}{μ:bn}{w:World}{a:Act}{cs:List Frame}(h:Inv X S c μ w a cs){i:Nat}(ae:i<=X.N)(dY:i∉S)(dg:kA X.ops S i){s:DStep}(hs:X.steps[i]? =some s):
  ∀x,bc μ (wQ X.ops s.o (lG X.P X.need X.r s (X.f i).env) x) (a.eval x):=by
 obtain⟨dO,hq,e8,mi,lI⟩:=bt.kZ hs
 intro x
 cases x with
 |tmp t=>
  simp only[wQ]
  split
  · rename_i a6
    have:=bt.HU h.closed h.l3 ae dY dg hs (t:=t) (by simpa using a6)
    unfold lG;rw[hq];exact this
  · trivial
 |const v=>exact jN μ v
 |global g=>
  simp only[wQ,lG,cT,Act.eval]
  cases af:Nat.blt g X.P.globals.size with
  |false=>exact trivial
  |true=>
   obtain⟨i,aa,ad,ax⟩:=bt.oI.mono h.oQ.le g (by simpa using af)
   obtain⟨iP,i0,y_⟩:=i
   simp only at ad ax
   subst ad;subst ax
   exact⟨_,aa,rfl⟩
 |func f=>exact⟨[],[],rfl,rfl,rfl⟩
theorem CK(bt:fH X){S:List Nat}{c:Nat}{μ:bn}{w:World}{a:Act}{cs:List Frame}(h:Inv X S c μ w a cs){i:Nat}(ae:i<=X.N)(dY:i∉S)(dg:kA X.ops S i){s:DStep}(hs:X.steps[i]? =some s):
  ∀oJ,ey (gG X.P X.need X.ops X.r s.i (X.f i).env s)=some oJ->Region.wanted s.o (yielded X.ops a.tmps)=oJ:=by
 obtain⟨dO,hq,e8,mi,lI⟩:=bt.kZ hs
 intro oJ hw
 unfold gG jI at hw
 unfold Region.wanted
 cases aj:s.o.guard with
 |none=>rw[aj] at hw;simp only[ey] at hw;cases hw;rfl
 |some p=>
  obtain⟨j,da⟩:=p
  rw[aj] at hw
  simp only at hw⊢
  cases a6:(X.ops[j]?).bind (·.dst) with
  |none=>rw[a6] at hw;simp only[dU,ey] at hw;cases hw
  |some t=>
   rw[a6] at hw
   simp only at hw
   have ai:=bt.HU h.closed h.l3 ae dY dg hs (t:=t) (by
    simp only[lq,List.mem_append]
    refine .inr ?_
    rw[aj];simp only[a6];simp)
   rw[Hj a6]
   rw[hq] at hw
   generalize dU i (X.f i).env X.r (cT X.P X.need s.loc (.tmp t))=v at hw ai
   unfold ey at hw
   split at hw
   · rename_i he;cases he
   · rename_i he;cases he;cases hw
     have Cl:a.tmps.getD t undef=_:=ai
     rw[Cl];rfl
   · rename_i he;cases he;cases hw
     obtain⟨l,au,h4⟩:=ai
     cases h4
     rw[au];rfl
   · cases hw
theorem sr{P:Program}{inR:Bool}{call:ay->List I->J->an}{gd:Option (I×Bool)}{o:Oper}{g gv:Operand->I}{d:List b1}{q:bJ}{H:J}(h:∀x∈o.op.operands,g x=gv x):dV P inR call gd o g d q H=dV P inR call gd o gv d q H:=by
 unfold dV;rw[wK o H h]
theorem Inv.one(bt:fH X){S:List Nat}{c:Nat}{μ:bn}{w:World}{a:Act}{cs:List Frame}(h:Inv X S c μ w a cs){i:Nat}(ae:i<=X.N)(dY:i∉S)(dg:kA X.ops S i){s:DStep}(hs:X.steps[i]? =some s)(rest:List Nat)(k:List Item):
  Cf X.P μ (X.f c).h w X.b a X.ops s.o i rest k X.cs0 cs (dV X.P X.inR X.call (gG X.P X.need X.ops X.r s.i (X.f i).env s) s.o (lG X.P X.need X.r s (X.f i).env) (X.f c).d (X.f c).q (X.f c).h):=by
 obtain⟨dO,hq,e8,mi,lI⟩:=bt.kZ hs
 rw[sr (zz (ops:=X.ops))]
 exact Hf bt.ah h.rel (bt.oI.mono h.oQ.le) e8 (CK bt h ae dY dg hs) (H2 bt h ae dY dg hs) h.uh h.qr bt.dO
theorem Inv.zA(bt:fH X){S:List Nat}{c c':Nat}{μ aP:bn}{w w':World}{a:Act}{cs b6:List Frame}(h:Inv X S c μ w a cs){i:Nat}(ae:i<X.N)(dY:i∉S)(dg:kA X.ops S i){s:DStep}(hs:X.steps[i]? =some s)(aw:∀v ob,¬q1 X i s v ob)
  {u:Value}{bm:List Deferred}(aE:bc aP (X.val i) u)(kV:br aP (X.f c').h w')(nK:cb μ (X.f c).h w aP (X.f c').h w')(aG:gz aP (X.f c').d bm)(bq:hL aP X.b.kind X.cs0 (X.f c').q b6)
  (ui:(c'=c/\kindOf X.P s.o.op≠ .eg)\/(c'=c+1/\i=c)):Inv X (i::S) c' aP w' {tmps:=(a.put s.o.dst u).tmps,defers:=bm} b6:=by
 obtain⟨dO,hq,e8,mi,lI⟩:=bt.kZ hs
 have hle:=nK.le
 have wR:c<=c':=by rcases ui with⟨e,_⟩|⟨e,_⟩<;>omega
 have uj:=h.pI
 refine⟨?_,λj aL=>?_,λj aL=>?_,λj bM aa ad ax=>?_,kV,cb.trans bt.zt h.rel h.oQ nK,aG,bq,λj aa ad=>?_,λj bM v ob aa ad ax aO=>?_,λj aa ad=>?_,?_,λj bM v ob aa ad ax aO=>?_,?_,?_⟩
 · rcases ui with⟨e,_⟩|⟨e,aC⟩
   · rw[e];exact h.ah
   · omega
 · have hm:kA X.ops S j->kA X.ops (i::S) j:=λak o bd e he af=>List.mem_cons_of_mem _ (ak o bd e he af)
   rcases List.mem_cons.1 aL with rfl|aL
   · exact hm dg
   · exact hm (h.closed j aL)
 · rcases List.mem_cons.1 aL with rfl|aL
   · exact ae
   · exact h.sub j aL
 · have:=h.eg j bM aa ad ax
   rw[List.mem_cons,this]
   rcases ui with⟨e,aC⟩|⟨e,aC⟩
   · subst e
     have:j≠i:=by intro e;subst e;rw[hs] at aa;cases aa;exact aC ax
     simp[this]
   · omega
 · have zB:j∉S:=λak=>ad (List.mem_cons_of_mem _ ak)
   cases hm:aP (X.H.n+j) with
   |none=>rfl
   |some en=>
    have:=(nK.new _ en (h.en j aa zB) hm).1
    omega
 · have zB:j∉S:=λak=>ax (List.mem_cons_of_mem _ ak)
   have lu:j≠i:=λe=>ax (by simp[e])
   have aad:=ad.1
   have Gs:j<c:=by rcases ui with⟨e,_⟩|⟨e,aC⟩<;>omega
   rw[nK.idle _ (by have:=bt.gJ;omega) (h.en j (by have:=bt.gJ;omega) zB)]
   exact h.lay j bM v ob aa ad zB Gs
 · have h0:=h.nN j (by omega) ad
   cases aj:(X.f c').h.get (X.H.n+j) with
   |none=>rfl
   |some o=>exact absurd h0 (nK.live _ (by omega) (by rw[aj];simp))
 · exact Nat.le_trans uj nK.n
 · have lu:j≠i:=by
     intro e;subst e;rw[hs] at aa;cases aa;exact aw v ob ad
   have CF:j∈S:=by
    rcases List.mem_cons.1 ax with e|ak
    · exact absurd e lu
    · exact ak
   have aae:=ad.1
   exact(h.fL j bM v ob aa ad CF (by omega)).oQ h.rel nK (h.nN j (by omega) (by have:=bt.gJ;omega))
 · exact bt.HX (a:=a) h.closed h.sz (h.l3.mono hle) dY dg hs aE
 · simpa using(zh a s.o.dst u).trans h.sz
theorem wS{s:DStep}{v:I}(bt:fH X):∀(m:Nat),m<=X.N->∀(dX:Option Nat) (uk:J),kx X.P X.need X.ops X.r X.N (X.f X.N).env s v dX uk (X.f m).a9=true->
  ∀c bM,c<m->X.steps[c]? =some bM->kindOf X.P bM.o.op=.eg->∃a9,a9=(X.f c).a9/\kx X.P X.need X.ops X.r X.N (X.f X.N).env s v (some c) (X.f c).h a9=true
 |0,_,dX,uk,h,c,bM,ah,_,_=>by omega
 |m+1,hm,dX,uk,h,c,bM,ah,dx,aw=>by
  obtain⟨ss,aV,aN,_⟩:=bt.lH (i:=m) (by have:=bt.gJ;omega)
  have a6:=bt.sm m ss (by omega) aV
  by_cases e:c=m
  · subst e
    rw[aV] at dx;cases dx
    generalize hf:X.f (c+1)=st at a6 h
    cases a6 with
    |ug fj=>rw[aw] at fj;cases fj
    |alloc fj=>rw[aw] at fj;cases fj
    |pure fj=>rw[aw] at fj;cases fj
    |eg fj bd he=>
     unfold kx at h
     rw[Bool.and_eq_true] at h
     have ad:=h.2
     simp only[aN] at ad
     exact⟨_,rfl,ad⟩
  · have cy:c<m:=by omega
    generalize hf:X.f (m+1)=st at a6 h
    cases a6 with
    |ug fj=>exact wS bt m (by omega) dX uk h c bM cy dx aw
    |alloc fj=>exact wS bt m (by omega) dX uk h c bM cy dx aw
    |pure fj=>exact wS bt m (by omega) dX uk h c bM cy dx aw
    |eg fj bd he=>
     unfold kx at h
     rw[Bool.and_eq_true] at h
     have ad:=h.2
     simp only at ad
     exact wS bt m (by omega) _ _ ad c bM cy dx aw
theorem CL(bt:fH X):∀(m:Nat),m<=X.N->∀e mk h0 l,(X.f m).a9=(e,mk,h0)::l->e<m/\∃bM,X.steps[e]? =some bM/\kindOf X.P bM.o.op=.eg/\mk=bM.eU
 |0,_,e,mk,h0,l,h=>by rw[bt.q0] at h;cases h
 |m+1,hm,e,mk,h0,l,h=>by
  obtain⟨ss,aV,aN,_⟩:=bt.lH (i:=m) (by have:=bt.gJ;omega)
  have a6:=bt.sm m ss (by omega) aV
  generalize hf:X.f (m+1)=st at a6 h
  cases a6 with
  |eg fj bd he=>
   simp only[List.cons.injEq,Prod.mk.injEq] at h
   obtain⟨⟨rfl,rfl,rfl⟩,rfl⟩:=h
   exact⟨by omega,ss,by rw[aN];exact aV,fj,rfl⟩
  |_=>obtain⟨aa,ad⟩:=CL bt m (by omega) e mk h0 l h;exact⟨by omega,ad⟩
theorem Inv.looks(bt:fH X){S:List Nat}{c:Nat}{μ:bn}{w:World}{a:Act}{cs:List Frame}(h:Inv X S c μ w a cs)(aK:Norm X c){i:Nat}(ae:i<X.N)(dY:i∉S)(dg:kA X.ops S i){s:DStep}(hs:X.steps[i]? =some s)(aw:kindOf X.P s.o.op=.pure):
  lp X.P X.need X.ops X.r X.N (X.f X.N).env s (X.val i) (X.f c).h=true:=by
 obtain⟨dO,hq,e8,mi,lI⟩:=bt.kZ hs
 obtain⟨dX,aa,ad⟩:=bt.looks i s ae hs aw
 have off:∀(dX:Option Nat),(∀e,dX=some e->e=c/\c∉S)->kx X.P X.need X.ops X.r X.N (X.f X.N).env s (X.val i) dX (X.f c).h (X.f c).a9=true->lp X.P X.need X.ops X.r X.N (X.f X.N).env s (X.val i) (X.f c).h=true:=by
  intro dX su ct
  unfold kx at ct
  rw[Bool.and_eq_true] at ct
  have ax:=ct.1
  split at ax
  · rename_i af
    exfalso
    rw[Bool.or_eq_true] at af
    rcases af with af|af
    · cases dX with
      |none=>cases af
      |some e=>
       obtain⟨rfl,q⟩:=su e rfl
       exact q (lI S h.closed dg _ af)
    · cases q2:(X.f c).a9 with
      |nil=>rw[q2] at af;cases af
      |cons p l=>
       obtain⟨e,mk,h0⟩:=p
       rw[q2] at af
       obtain⟨aV,bM,aN,cz,rfl⟩:=CL bt c h.ah e mk h0 l q2
       have CM:=(h.eg e bM aN (by have:=h.ah;omega) cz).2 aV
       exact dY ((bt.kZ aN).2.2.2.2 S h.closed (h.closed e CM) i (by rw[hq] at af;exact af))
  · exact ax
 have H3:∀e bM,X.steps[e]? =some bM->e=X.N->e∉S:=λe bM _ he ak=>by have:=h.sub e ak;omega
 by_cases wR:c=X.N
 · subst wR
   exact off dX (λe he=>⟨(ad e he).1,λak=>by have:=h.sub _ ak;omega⟩) aa
 · have H4:c<X.N:=by have:=h.ah;omega
   rcases aK with e|⟨bM,aV,aN⟩
   · exact absurd e wR
   · obtain⟨a9,rfl,aO⟩:=wS bt X.N (Nat.le_refl _) dX _ aa c bM H4 aV aN
     refine off (some c) (λe he=>⟨by cases he;rfl,λak=>?_⟩) aO
     have:=(h.eg c bM aV H4 aN).1 ak
     omega
end
end aD
namespace aD
open Go
section
variable {X:hd}
theorem H5(bt:fH X):∀(m:Nat),m<=X.N->
  (∀e mk h0 l,(X.f m).a9=(e,mk,h0)::l->∀j bM,e<j->j<m->X.steps[j]? =some bM->kindOf X.P bM.o.op≠ .eg)/\
  ((X.f m).a9=[]->∀j bM,j<m->X.steps[j]? =some bM->kindOf X.P bM.o.op≠ .eg)
 |0,_=>⟨λe mk h0 l h=>(by rw[bt.q0] at h;cases h),λ_ j bM aL=>(by omega)⟩
 |m+1,hm=>by
  obtain⟨zw,zx⟩:=H5 bt m (by omega)
  obtain⟨ss,aV,aN,_⟩:=bt.lH (i:=m) (by have:=bt.gJ;omega)
  have a6:=bt.sm m ss (by omega) aV
  have same:kindOf X.P ss.o.op≠ .eg->(X.f (m+1)).a9=(X.f m).a9->_:=λaw he=>(⟨λe mk h0 l h j bM aa ad ax=>by
    by_cases cY:j=m
    · subst cY;rw[aV] at ax;cases ax;exact aw
    · exact zw e mk h0 l (he▸h) j bM aa (by omega) ax,λh j bM ad ax=>by
    by_cases cY:j=m
    · subst cY;rw[aV] at ax;cases ax;exact aw
    · exact zx (he▸h) j bM (by omega) ax⟩:
   (∀e mk h0 l,(X.f (m+1)).a9=(e,mk,h0)::l->∀j bM,e<j->j<m+1->X.steps[j]? =some bM->kindOf X.P bM.o.op≠ .eg)/\((X.f (m+1)).a9=[]->∀j bM,j<m+1->X.steps[j]? =some bM->kindOf X.P bM.o.op≠ .eg))
  generalize hf:X.f (m+1)=st at a6 same⊢
  clear hf
  cases a6 with
  |ug fj=>exact same (by rw[fj];simp) rfl
  |alloc fj=>exact same (by rw[fj];simp) rfl
  |pure fj=>exact same (by rw[fj];simp) rfl
  |eg fj bd he=>
   refine⟨λe mk h0 l h j bM aa ad ax=>?_,λh=>by cases h⟩
   simp only[List.cons.injEq,Prod.mk.injEq] at h
   obtain⟨⟨rfl,_,_⟩,_⟩:=h
   omega
theorem Inv.H6(bt:fH X){S:List Nat}{c:Nat}{μ:bn}{w:World}{a:Act}{cs:List Frame}(h:Inv X S c μ w a cs)(aK:Norm X c){i:Nat}(ae:i<=X.N)(dY:i∉S)(dg:kA X.ops S i){s:DStep}(hs:X.steps[i]? =some s)
  (aw:kindOf X.P s.o.op=.eg)(bd:∀e m h0 l,(X.f i).a9=(e,m,h0)::l->Nat.testBit s.eU e=true):i=c:=by
 obtain⟨dO,hq,e8,mi,lI⟩:=bt.kZ hs
 have G4:c<=i:=by
  rcases Nat.lt_or_ge i X.N with aa|aa
  · have:=h.eg i s hs aa aw
    rcases Nat.lt_or_ge i c with ad|ad
    · exact absurd (this.2 ad) dY
    · exact ad
  · have:=h.ah;omega
 rcases Nat.lt_or_ge c i with cy|um
 · exfalso
   rcases aK with e|⟨bM,aV,aN⟩
   · omega
   · obtain⟨bb,a3⟩:=H5 bt i ae
     cases q2:(X.f i).a9 with
     |nil=>exact a3 q2 c bM cy aV aN
     |cons p l=>
      obtain⟨e,mk,h0⟩:=p
      obtain⟨du,s2,dp,l8,_⟩:=CL bt i ae e mk h0 l q2
      have CM:=lI S h.closed dg e (bd e mk h0 l q2)
      have PM:=(h.eg e s2 dp (by omega) l8).1 CM
      exact bb e mk h0 l q2 c bM PM cy aV aN
 · omega
theorem Inv.PN(bt:fH X){S:List Nat}{c:Nat}{μ:bn}{w:World}{a:Act}{cs:List Frame}(h:Inv X S c μ w a cs){i:Nat}(ae:i<X.N)(dY:i∉S)(dg:kA X.ops S i){s:DStep}(hs:X.steps[i]? =some s){v:I}{ob:cx}(hO:q1 X i s v ob)(aE:X.val i=v)(rest:List Nat)(k:List Item):
  ∃aP w' dr,Steps X.P (lone (X.b.atR a (.inRegion X.ops (i::rest)::k)) cs w) (lone (X.b.atR dr (.inRegion X.ops rest::k)) cs w')/\Inv X (i::S) c aP w' dr cs:=by
 obtain⟨dO,hq,e8,mi,lI⟩:=bt.kZ hs
 obtain⟨_,aw,hw,a2⟩:=hO
 have Ci:=CK bt h (Nat.le_of_lt ae) dY dg hs _ hw
 rw[wL _ _ (zz (ops:=X.ops))] at a2
 obtain⟨u,O,sz,au⟩:=OJ (P:=X.P) (w:=w) s.o (H2 bt h (Nat.le_of_lt ae) dY dg hs) a2
 have ct:=stepGR_op (P:=X.P) (b:=X.b) (a:=a) (k:=k) (cs:=cs) (w:=w) (rest:=rest) e8 Ci
 have wv:s.o.semAt X.b.roundOf a.eval=execOp a.eval s.o:=Oper.semAt_eq _ _ _ λaaf e=>by rw[e] at aw;cases aw
 rw[wv] at ct
 obtain⟨ao,_⟩:=Ce ct
 have hr:=ao _ _ au.run
 have nG:(X.b.atR a (.inRegion X.ops (i::rest)::k)).finish u=X.b.atR (a.put s.o.dst u) (.inRegion X.ops rest::k):=by
  rw[Frame.finish_atR,e8];rfl
 rw[nG] at hr
 have ig:=h.en i dO dY
 have uj:=h.pI
 have g5:∀o,(X.f c).h.get (X.H.n+i)=some o->o=ob:=λo aj=>by
  rcases Nat.lt_or_ge i c with cy|um
  · have:=h.lay i s v ob hs ⟨ae,aw,hw,by rw[wL _ _ (zz (ops:=X.ops))];exact a2⟩ dY cy
    rw[aj] at this;cases this;rfl
  · rw[h.nN i um dO] at aj;cases aj
 obtain⟨hle,kV⟩:=h.rel.early (b:=X.H.n+i) (by omega) ig g5 au.obj
 have nK:=h.oQ.early bt.zt (b:=X.H.n+i) (by omega) ig (O:=O) (sz:=sz)
 have PO:bc (gb μ (X.H.n+i) ⟨w.heap.size,0,sz⟩) (X.val i) u:=by rw[aE];exact au.val _ hle (gf _ _ _)
 refine⟨gb μ (X.H.n+i) ⟨w.heap.size,0,sz⟩,_,_,hr,?_⟩
 have hm:∀{j},kA X.ops S j->kA X.ops (i::S) j:=λak o bd e he af=>List.mem_cons_of_mem _ (ak o bd e he af)
 refine⟨h.ah,λj aL=>?_,λj aL=>?_,λj bM aa ad ax=>?_,kV,nK,?_,h.qr.mono hle,λj aa ad=>?_,λj bM v ob aa ad ax aO=>h.lay j bM v ob aa ad (λak=>ax (List.mem_cons_of_mem _ ak)) aO,h.nN,h.pI,λj bM v' CJ aa ad ax aO=>?_,bt.HX h.closed h.sz (h.l3.mono hle) dY dg hs PO,(zh _ _ _).trans h.sz⟩
 · rcases List.mem_cons.1 aL with rfl|aL
   · exact hm dg
   · exact hm (h.closed j aL)
 · rcases List.mem_cons.1 aL with rfl|aL
   · exact ae
   · exact h.sub j aL
 · have lu:j≠i:=by intro e;subst e;rw[hs] at aa;cases aa;rw[aw] at ax;cases ax
   rw[List.mem_cons]
   simp only[lu,false_or]
   exact h.eg j bM aa ad ax
 · rw[put_defers];exact h.uh.mono hle
 · have lu:j≠i:=λe=>ad (by simp[e])
   rw[g0 _ _ (by omega)]
   exact h.en j aa (λak=>ad (List.mem_cons_of_mem _ ak))
 · rcases List.mem_cons.1 ax with e|ax
   · subst e
     rw[hs] at aa;cases aa
     have:=ad.2.2.2
     rw[wL _ _ (zz (ops:=X.ops)),a2] at this
     cases this
     refine⟨⟨w.heap.size,0,sz⟩,O,gf _ _ _,World.heap_alloc_new _ _,λaP w' yZ pH=>au.obj aP w' (hle.trans yZ) pH,λd ji aG aL=>?_⟩
     rw[g0 _ _ aG] at aL
     have:=(h.rel.lt d ji aL).2
     simp only;omega
   · exact(h.fL j bM v' CJ aa ad ax aO).early h.rel ig
theorem CN(bt:fH X){i:Nat}(ae:i<=X.N):Ck i (ib (X.ops.toList.take i) 0 []):=λt a a2=>by
 obtain⟨j,o,aa,rfl,_⟩:=(wO X.ops.toList t i (by have:=bt.gJ;simp;omega)).1 a a2
 exact aa
theorem Inv.step(bt:fH X){S:List Nat}{c:Nat}{μ:bn}{w:World}{a:Act}{cs:List Frame}(h:Inv X S c μ w a cs){i:Nat}(ae:i<X.N)(dY:i∉S)(dg:kA X.ops S i)(rest:List Nat)(k:List Item):
  ∃c' aP w' dr b6,Steps X.P (lone (X.b.atR a (.inRegion X.ops (i::rest)::k)) cs w) (lone (X.b.atR dr (.inRegion X.ops rest::k)) b6 w')/\Inv X (i::S) c' aP w' dr b6:=by
 obtain⟨c,aK,h⟩:=h.norm bt _ _ rfl
 obtain⟨s,hs,hq,e8,_⟩:=bt.lH (i:=i) (by have:=bt.gJ;omega)
 have a6:=bt.sm i s ae hs
 have hle:=Nat.le_of_lt ae
 generalize hf:X.f (i+1)=st at a6
 cases a6 with
 |ug aw hw=>
  have aE:=bt.zv ae (v:=.aW []) (by rw[hf])
  have Ch:=CK bt h hle dY dg hs _ hw
  have vW:=stepR_op_skip (P:=X.P) (b:=X.b) (a:=a) (k:=k) (cs:=cs) (w:=w) (ops:=X.ops) (i:=i) (rest:=rest) (by simp[e8,Ch])
  rw[e8] at vW
  have he:a.put ((some s.o).bind (·.dst)) undef={tmps:=(a.put s.o.dst undef).tmps,defers:=a.defers}:=ze a s.o.dst undef
  rw[he] at vW
  refine⟨c,μ,w,_,cs,.one vW,h.zA bt ae dY dg hs (λv ob hO=>?_) (by rw[aE];exact⟨[],rfl,rfl⟩) h.rel (cb.refl _ _ _) h.uh h.qr (.inl ⟨rfl,by rw[aw];simp⟩)⟩
  have:=hO.2.2.1
  rw[hw] at this;cases this
 |alloc aw hw a2=>
  rename_i v ob
  have aE:=bt.zv ae (v:=v) (by rw[hf])
  obtain⟨aP,w',dr,aa,ad⟩:=h.PN bt ae dY dg hs ⟨ae,aw,hw,by rw[<-hq];rw[<-hq] at a2;exact a2⟩ aE rest k
  exact⟨c,aP,w',dr,cs,aa,ad⟩
 |pure aw he=>
  rename_i v bG bP al
  have aE:=bt.zv ae (v:=v) (by rw[hf])
  have kb:=h.looks bt aK ae dY dg hs aw
  have gu:=h.one bt hle dY dg hs rest k
  have gS:gG X.P X.need X.ops X.r X.N (X.f X.N).env s=gG X.P X.need X.ops X.r s.i (X.f i).env s:=by
   unfold gG jI
   cases CO:s.o.guard with
   |none=>rfl
   |some p=>
    obtain⟨j,da⟩:=p
    simp only
    cases aag:(X.ops[j]?).bind (·.dst) with
    |none=>rfl
    |some t=>
     simp only
     rw[hq,bt.HT hle (by rw[(bt.kZ hs).2.2.2.1];exact zg (CN bt hle) _)]
  have ed:∀x,dU X.N (X.f X.N).env X.r (cT X.P X.need s.loc x)=lG X.P X.need X.r s (X.f i).env x:=λx=>by
   unfold lG
   rw[hq,bt.HT hle (by rw[(bt.kZ hs).2.2.2.1];exact zg (CN bt hle) _)]
  unfold lp at kb
  rw[gS] at kb
  have qV:(λx=>dU X.N (X.f X.N).env X.r (cT X.P X.need s.loc x))=lG X.P X.need X.r s (X.f i).env:=funext ed
  rw[qV] at kb
  have zC:∀v ob,¬q1 X i s v ob:=λv ob hO=>by have:=hO.2.1;rw[aw] at this;cases this
  have dC:kindOf X.P s.o.op≠ .eg:=by rw[aw];simp
  unfold dV at gu he
  cases H7:ey (gG X.P X.need X.ops X.r s.i (X.f i).env s) with
  |none=>rw[H7] at kb;cases kb
  |some da=>
   rw[H7] at kb gu he
   cases da with
   |false=>
    simp only at gu he
    cases he
    obtain⟨aP,w',u,sf,b6,s1,s2,bE,bX,cZ,ea⟩:=gu
    exact⟨c,aP,w',_,b6,s1,h.zA bt ae dY dg hs zC (by rw[aE];exact s2) bE bX cZ ea (.inl ⟨rfl,dC⟩)⟩
   |true=>
    simp only at kb gu
    split at kb
    · rename_i v' aah gr
      rw[gr] at gu
      simp only at gu
      have PQ:=beq_eq _ _ kb
      have PR:=PA aw gr
      rw[PR] at gu
      obtain⟨aP,w',u,sf,b6,s1,s2,bE,bX,cZ,ea⟩:=gu
      exact⟨c,aP,w',_,b6,s1,h.zA bt ae dY dg hs zC (by rw[<-PQ];exact s2) bE bX cZ ea (.inl ⟨rfl,dC⟩)⟩
    · cases kb
 |eg aw bd he=>
  rename_i v bG bP al
  have aE:=bt.zv ae (v:=v) (by rw[hf])
  have pJ:=h.H6 bt aK hle dY dg hs aw bd
  have gu:=h.one bt hle dY dg hs rest k
  have zC:∀v ob,¬q1 X i s v ob:=λv ob hO=>by have:=hO.2.1;rw[aw] at this;cases this
  rw[<-pJ,he] at gu
  obtain⟨aP,w',u,sf,b6,s1,s2,bE,bX,cZ,ea⟩:=gu
  have aA:(X.f (c+1)).h=al:=by rw[<-pJ,hf]
  have aC:(X.f (c+1)).d=bG:=by rw[<-pJ,hf]
  have bN:(X.f (c+1)).q=bP:=by rw[<-pJ,hf]
  exact⟨c+1,aP,w',_,b6,s1,h.zA bt ae dY dg hs zC (by rw[aE];exact s2) (by rw[aA];exact bE) (by rw[aA,<-pJ];exact bX) (by rw[aC];exact cZ) (by rw[bN];exact ea) (.inr ⟨rfl,pJ⟩)⟩
end
end aD
namespace aD
open Go
section
variable {X:hd}
def hd.ends(X:hd)(k:List Item)(fV:Machine)(res:l5):Prop:=oL X.P X.need X.cm X.mh X.r X.H X.jm X.b k X.cs0 fV (ib X.ops.toList 0 []) res
theorem hd.CP{k:List Item}{fV cV:Machine}{res:l5}(h:Steps X.P fV cV)(al:X.ends k cV res):X.ends k fV res:=by
 unfold hd.ends at*
 cases res with
 |ok env d q aX=>obtain⟨aP,w',dr,b6,s1,s2⟩:=al;exact⟨aP,w',dr,b6,h.trans s1,s2⟩
 |b9 v d q aX=>obtain⟨aP,w',dr,b6,u,bS,s1,s2⟩:=al;exact⟨aP,w',dr,b6,u,bS,h.trans s1,s2⟩
 |fail s=>trivial
structure CQ(X:hd)(res:l5):Prop where
 ok:X.N=X.ops.size->res=.ok (X.f X.N).env (X.f X.N).d (X.f X.N).q (X.f X.N).h
 b9:X.N<X.ops.size->∀s,X.steps[X.N]? =some s->∃v bG bP al,dV X.P X.inR X.call (gG X.P X.need X.ops X.r s.i (X.f X.N).env s) s.o (lG X.P X.need X.r s (X.f X.N).env) (X.f X.N).d (X.f X.N).q (X.f X.N).h=.b9 v bG bP al/\res=.b9 v bG bP al
theorem Inv.order(bt:fH X){res:l5}(fF:CQ X res)(k:List Item):∀(L:List Nat) (S:List Nat) (c:Nat) (μ:bn) (w:World) (a:Act) (cs:List Frame),si X.ops S L->Inv X S c μ w a cs->X.ends k (lone (X.b.atR a (.inRegion X.ops L::k)) cs w) res
 |[],S,c,μ,w,a,cs,bd,h=>by
  have fQ:∀i,i<X.ops.size->i∈S:=bd
  have gJ:X.N=X.ops.size:=by
   have:=bt.gJ
   rcases Nat.lt_or_ge X.N X.ops.size with cy|um
   · have:=h.sub _ (fQ _ cy);omega
   · omega
  obtain⟨c,aK,h⟩:=h.norm bt _ _ rfl
  have H3:c=X.N:=by
   rcases aK with e|⟨s,aV,aN⟩
   · exact e
   · have:=h.ah
     rcases Nat.lt_or_ge c X.N with cy|um
     · have:=(h.eg c s aV cy aN).1 (fQ c (by omega));omega
     · omega
  subst H3
  rw[fF.ok gJ]
  have hlen:=bt.zu X.N (Nat.le_refl _)
  have H8:X.ops.toList.take X.N=X.ops.toList:=by rw[gJ];exact List.take_of_length_le (by simp)
  have mi:=CN bt (Nat.le_refl X.N)
  rw[H8] at mi
  refine⟨μ,w,a,cs,.one stepR_region_end,⟨by rw[hlen];exact mi,λt=>?_⟩,h.sz,h.rel,h.oQ,h.uh,h.qr⟩
  rw[hlen]
  obtain⟨f1,f2⟩:=wO X.ops.toList t X.N (by simp;omega)
  rw[H8] at f1 f2
  simp only[cT]
  cases hf:hY t (ib X.ops.toList 0 []) with
  |some ac=>
   obtain⟨j,o,aL,rfl,mb,aG,qA⟩:=f1 ac hf
   have:=(h.l3 t).1 j o (fQ j (by omega)) (by simpa using mb) aG λk o' aw hN mf=>by
    rcases Nat.lt_or_ge j k with cy|um
    · exact absurd mf (qA k o' cy (h.sub k aw) (by simpa using hN))
    · exact um
   exact this
  |none=>
   simp only[]
   cases af:Nat.testBit X.need t with
   |false=>trivial
   |true=>
    exact(h.l3 t).2 (λj o aL hN aG=>f2 hf j o (h.sub j aL) (by simpa using hN) aG) af
 |i::L,S,c,μ,w,a,cs,bd,h=>by
  obtain⟨ae,dY,dg,qB⟩:=bd
  rcases Nat.lt_trichotomy i X.N with cy|heq|sv
  · obtain⟨c',aP,w',dr,b6,aa,ad⟩:=h.step bt cy dY dg L k
    exact hd.CP aa (Inv.order bt fF k L (i::S) c' aP w' dr b6 qB ad)
  ·
   obtain⟨s,hs,hq,e8,_⟩:=bt.lH ae
   obtain⟨c,aK,h⟩:=h.norm bt _ _ rfl
   rw[heq] at hs
   obtain⟨bp,bB,cU⟩:=bt.last s hs
   rw[<-heq] at hs bB
   have pJ:=h.H6 bt aK (Nat.le_of_eq heq) dY dg hs bp bB
   have gu:=h.one bt (Nat.le_of_eq heq) dY dg hs L k
   obtain⟨v,bG,bP,al,aA,aC⟩:=fF.b9 (by omega) s (by rw[<-heq];exact hs)
   rw[<-heq] at aA
   rw[<-pJ,aA] at gu
   rw[aC]
   obtain⟨aP,w',u,s1,s2,bE,bX,cZ,ea⟩:=gu
   rw[pJ] at bX
   refine⟨aP,w',a,cs,u,_,s1,trivial,s2,λt a6 af=>?_,h.sz,bE,cb.trans bt.zt h.rel h.oQ bX,cZ,ea⟩
   obtain⟨f1,f2⟩:=wO X.ops.toList t X.ops.toList.length (Nat.le_refl _)
   rw[List.take_length] at f2
   have:=(h.l3 t).2 (λj o aL hN aG=>f2 a6 j o (by have:=h.sub j aL;have:=bt.gJ;simp;omega) (by simpa using hN) aG) af
   exact this.mono bX.le
  · exfalso
    obtain⟨s,hs,_⟩:=bt.lH (i:=X.N) (by omega)
    obtain⟨bM,dx,_,_,_,lI⟩:=bt.lH ae
    have:=(bt.last s hs).2.2 i bM sv dx
    rw[(bt.kZ hs).2.1] at this
    have:=h.sub _ (lI S h.closed dg _ this)
    omega
end
section
variable {P:Program}
theorem H9{need:Nat}{ops:Array Oper}{r:aT}{n:Nat}{env:List I}{last:Option Nat}{h:J}{a9:List (Nat×Nat×J)}:∀{l:List DStep},kQ P need ops r n env last h a9 l=true->∀s∈l,s.i<n->kindOf P s.o.op=.pure->kx P need ops r n env s ((nth (n-1-s.i) env).getD .bad) last h a9=true
 |[],_,s,hs,_,_=>by cases hs
 |x::l,au,s,hs,ae,aw=>by
  simp only[kQ,Bool.and_eq_true] at au
  rcases List.mem_cons.1 hs with rfl|hs
  · have aa:=au.1
    have af:Nat.blt s.i n=true:=by simpa using ae
    rw[af,aw] at aa
    exact aa
  · exact H9 au.2 s hs ae aw
theorem PS(hm:P.follows .mixedOrders=true){call:ay->List I->J->an}(ah:lC P call)(need cm:Nat):qU P need cm call:=by
 intro ops id oM hdr b inR r d q H μ w a k cs0 cs dO ai bL ak aj aG bq
 unfold rT
 simp only
 obtain⟨oO,kd⟩:∃oO:sk,oO=⟨[],d,q,⟨H.t,H.n+ops.size⟩,[]⟩:=⟨_,rfl⟩
 obtain⟨res,h5⟩:∃res,ga P need inR call ops r H.n (e1 ops.toList 0 [] []) [] d q ⟨H.t,H.n+ops.size⟩ []=res:=⟨_,rfl⟩
 rw[h5]
 by_cases H_:∃uo,res=.fail uo
 · obtain⟨uo,e⟩:=H_;subst e;trivial
 have PT:∀uo,res≠ .fail uo:=λuo e=>H_ ⟨uo,e⟩
 have PU:ga P need inR call ops r H.n (e1 ops.toList 0 [] []) oO.env oO.d oO.q oO.h oO.a9=res:=by rw[kd];exact h5
 obtain⟨f,N,f0,gJ,Ia,ui⟩:=HP _ _ _ PU PT
 have hlen:(e1 ops.toList 0 [] []).length=ops.size:=by rw[CD];simp
 rw[hlen] at gJ
 have Ib:∀m,m<=N->(f m).env.length=m:=λm=>by
  induction m with
  |zero=>intro _;rw[f0,kd];rfl
  |succ m ba=>
   intro BL
   have hs:(e1 ops.toList 0 [] [])[m]? =some (e1 ops.toList 0 [] [])[m]:=List.getElem?_eq_getElem (by omega)
   have a6:=Ia m _ (by omega) hs
   have PV:=ba (by omega)
   generalize f (m+1)=st at a6
   cases a6<;>simp[PV]
 let X:hd:={P:=P,need:=need,cm:=cm,inR:=inR,call:=call,ops:=ops,r:=r,b:=b,mh:=μ,H:=H,jm:=w,cs0:=cs0,N:=N,f:=f}
 let dI:World:={w with drawn:=w.drawn+1}
 have qY:∀o i,ops[i]? =some o->nA o i=true:=λo i bd=>by
  have ae:i<ops.size:=(Array.getElem?_eq_some_iff.1 bd).1
  have hN:ops.toList[i]? =some o:=by simpa using bd
  obtain⟨s,aa,ad,ax,_⟩:=wN (ops:=ops) ops.toList 0 [] [] (λk=>by simp) (uf hdr) (λj aL=>by omega) i o hN
  have:=uf hdr s (List.mem_of_getElem? aa)
  rw[ax] at this
  have CR:s.i=i:=by omega
  rw[CR] at this;exact this
 have k0:=Pz qY (w.tape w.drawn (.order b.fn id))
 have eX:Steps P (lone (b.atR a (.code (.region id ops true)::k)) cs w) (lone (b.atR a (.inRegion ops (Region.schedule true ops (w.tape w.drawn (.order b.fn id)))::k)) cs dI):=by
  have:=stepR_region_draw (P:=P) (b:=b) (a:=a) (k:=k) (cs:=cs) (w:=w) (ops:=ops) (id:=id)
  rw[hm] at this
  exact .one this
 have hinv:Inv X [] 0 μ dI a cs:=by
  refine⟨Nat.zero_le _,(λj aL=>by cases aL),(λj aL=>by cases aL),(λi s aa ad ax=>⟨λaL=>(by cases aL),λaL=>(by omega)⟩),?_,?_,?_,?_,λi ae _=>?_,(λi s v ob aa ad ax aO=>by omega),λi ae ad=>?_,?_,(λi s v ob aa ad ax aO=>by cases ax),?_,bL⟩
  · show br μ (f 0).h dI
    rw[f0,kd]
    exact⟨λda o i af ae=>(ak.rel da o i af ae).mono (eV.refl μ) rfl,ak.inj,λda i ae=>⟨Nat.lt_of_lt_of_le (ak.lt da i ae).1 (Nat.le_add_right _ _),(ak.lt da i ae).2⟩,λda af=>ak.bound da (Nat.le_trans (Nat.le_add_right _ _) af)⟩
  · show cb μ H w μ (f 0).h dI
    rw[f0,kd]
    exact⟨eV.refl μ,Nat.le_refl _,Nat.le_add_right _ _,λ_ _ au=>au,λ_ _ _=>rfl,λ_ _ _=>rfl,(λda i aa ad=>by rw[aa] at ad;cases ad),λ_ _ _ af _ _=>⟨af,rfl⟩,rfl,rfl,rfl,Nat.le_succ _⟩
  · show gz μ (f 0).d a.defers
    rw[f0,kd];exact aG
  · show hL μ b.kind cs0 (f 0).q cs
    rw[f0,kd];exact bq
  · show μ (H.n+i)=none
    cases e:μ (H.n+i) with
    |none=>rfl
    |some en=>have:=(ak.lt _ en e).1;omega
  · show(f 0).h.get (H.n+i)=none
    rw[f0,kd]
    exact ak.bound (H.n+i) (Nat.le_add_right _ _)
  · show H.n+ops.size<=(f 0).h.n
    rw[f0,kd];exact Nat.le_refl _
  · intro t
    exact⟨λj o aL=>(by cases aL),λ_ af=>ai t af⟩
 have Ic:∀(dX:Option Nat) (kb:kQ P need ops r (f N).env.length (f N).env dX (f N).h (f N).a9 (e1 ops.toList 0 [] [])=true) (su:∀e,dX=some e->e=N/\N<ops.size)
   (qA:∀s,(e1 ops.toList 0 [] [])[N]? =some s->kindOf P s.o.op=.eg/\(∀e m h0 l,(f N).a9=(e,m,h0)::l->Nat.testBit s.eU e=true)/\∀k bM,N<k->(e1 ops.toList 0 [] [])[k]? =some bM->Nat.testBit bM.eU s.i=true),fH X:=by
  intro dX kb su qA
  refine⟨ah,dO,oM,hdr,gJ,Ia,by show(f 0).env=[];rw[f0,kd],by show(f 0).a9=[];rw[f0,kd],λi s ae hs aw=>?_,qA,aj,ak⟩
  have hq:s.i=i:=by
   have CS:i<ops.size:=Nat.lt_of_lt_of_le ae gJ
   obtain⟨bM,aa,ad,_⟩:=wN (ops:=ops) ops.toList 0 [] [] (λk=>by simp) (uf hdr) (λj aL=>by omega) i _ (show ops.toList[i]? =some ops[i] by simp[CS])
   have jR:(e1 ops.toList 0 [] [])[i]? =some s:=hs
   rw[aa] at jR;cases jR;omega
  have:=H9 kb s (List.mem_of_getElem? hs) (by rw[Ib N (Nat.le_refl _),hq];exact ae) aw
  rw[Ib N (Nat.le_refl _),hq] at this
  exact⟨dX,this,su⟩
 rcases ui with⟨aai,ab⟩|⟨s,hs,aw,bd,PW,v,bG,bP,al,he,ab⟩
 · subst ab
   simp only
   cases kb:kQ P need ops r (f N).env.length (f N).env none (f N).h (f N).a9 (e1 ops.toList 0 [] []) with
   |false=>trivial
   |true=>
    simp only
    have bt:=Ic none kb (λe he=>by cases he) (λs hs=>by rw[List.getElem?_eq_none (by omega)] at hs;cases hs)
    have fF:CQ X (.ok (f N).env (f N).d (f N).q (f N).h):=⟨λ_=>rfl,λcy=>by
     have BO:N<ops.size:=cy
     omega⟩
    exact hd.CP (X:=X) eX (Inv.order bt fF k _ [] 0 μ dI a cs k0 hinv)
 · subst ab
   simp only
   have hq:s.i=N:=by
    have CS:N<ops.size:=by have:=(List.getElem?_eq_some_iff.1 hs).1;omega
    obtain⟨bM,aa,ad,_⟩:=wN (ops:=ops) ops.toList 0 [] [] (λk=>by simp) (uf hdr) (λj aL=>by omega) N _ (show ops.toList[N]? =some ops[N] by simp[CS])
    rw[aa] at hs;cases hs;omega
   have PX:N<ops.size:=by have:=(List.getElem?_eq_some_iff.1 hs).1;omega
   cases kb:kQ P need ops r (f N).env.length (f N).env (some s.i) (f N).h (f N).a9 (e1 ops.toList 0 [] []) with
   |false=>trivial
   |true=>
    simp only
    have bt:=Ic (some s.i) kb (λe he=>by cases he;exact⟨hq,PX⟩) (λbM dx=>by rw[hs] at dx;cases dx;exact⟨aw,bd,PW⟩)
    have fF:CQ X (.b9 v bG bP al):=⟨λe=>by
     have cY:N=ops.size:=e
     omega,λ_ bM dx=>by
     have jR:(e1 ops.toList 0 [] [])[N]? =some bM:=dx
     rw[hs] at jR;cases jR
     exact⟨v,bG,bP,al,he,rfl⟩⟩
    exact hd.CP (X:=X) eX (Inv.order bt fF k _ [] 0 μ dI a cs k0 hinv)
structure Fit(P:Program):Prop where
 mixed:P.follows .mixedOrders=true
 code:wB P
 ext:zo P
theorem CT(hf:Fit P){intr:Nat->List I->J->Option (I×J)}(ae:lE P intr)(n:Nat):lC P (fD P intr n):=
 HJ ae (λcall ah need cm=>PS hf.mixed ah need cm) hf.code hf.ext n
end
end aD
namespace aD
open Go Go.RowKit Go.ChangeShapes Go.WideShapes
section
variable {P:Program}
def PY(P:Program):Bool:=P.funcs.toList.all λfn=>match fn.body with
 |some c=>ic fn.ntmps c&&!(fn.name== "runtime.NumGoroutine")
 |none=>true
def PZ(P:Program):Bool:=P.funcs.toList.all λfn=>match fn.body with
 |some _=>true
 |none=>!qW.contains fn.name||(Extern.findNext fn).isNone
theorem Ie{g:FuncId}{gH:Func}(h:P.funcs[g]? =some gH):gH∈P.funcs.toList:=by
 rw[<-Array.getElem?_toList] at h;exact List.mem_of_getElem? h
theorem P0(hm:P.follows .mixedOrders=true)(ah:PY P=true)(he:PZ P=true):Fit P where
 mixed:=hm
 code:=λg gH gc aj af=>by
  have:=List.all_eq_true.1 ah gH (Ie aj)
  rw[af] at this
  simp only[Bool.and_eq_true,Bool.not_eq_true'] at this
  exact this
 ext:=λg gH aj af aK=>by
  have:=List.all_eq_true.1 he gH (Ie aj)
  rw[af] at this
  simp only[Bool.or_eq_true,Bool.not_eq_true',List.contains_eq_mem,decide_eq_false_iff_not] at this
  rcases this with h|h
  · exact absurd aK h
  · simpa using h
def wT(H:J):Prop:=∀b o,H.get b=some o->o.mV=true
theorem cb.below{μ aP:bn}{H aX:J}{W hP:World}(ai:wT H)(ak:br μ H W)(h:cb μ H W aP aX hP):Below W.heap.size W hP:=by
 refine⟨h.os,h.tape,h.out,h.size,λr cy=>?_⟩
 by_cases he:∃b i,H.get b≠none/\μ b=some i/\i.bj=r
 · obtain⟨b,i,aa,ad,rfl⟩:=he
   cases aj:H.get b with
   |none=>exact absurd aj aa
   |some o=>exact(h.ro b o i aj (ai b o aj) ad).2
 · exact h.old r cy λb i aa ad ax=>he ⟨b,i,aa,ad,ax⟩
def wU(G:Nat):bn:=λb=>if b<G then some ⟨b,0,0⟩ else none
theorem P1{W:World}(iC:P.globals.size<=W.heap.size):br (wU P.globals.size) (iM P.globals.size) W/\hz P (wU P.globals.size)/\wT (iM P.globals.size):=by
 have aK:∀b,(iM P.globals.size).get b=none:=λb=>rfl
 refine⟨⟨λb o i h=>(by rw[aK] at h;cases h),λb c i j h=>absurd (aK b) h,λb i h=>?_,λb _=>aK b⟩,λg aj=>⟨⟨g,0,0⟩,by simp[wU,aj],rfl,rfl⟩,λb o h=>(by rw[aK] at h;cases h)⟩
 unfold wU at h
 split at h
 · rename_i af;cases h;exact⟨af,Nat.lt_of_lt_of_le af iC⟩
 · cases h
theorem P2(hf:Fit P){intr:Nat->List I->J->Option (I×J)}(ae:lE P intr){n:Nat}{f:Nat}{fn:Func}{c:Code}(m4:P.funcs[f]? =some fn)(af:fn.body=some c){args:List I}{H:J}{v:I}{aX:J}
  (eX:fD P intr n (.fn f) args H=.ret v aX){μ:bn}{W:World}{vs:List Value}(ak:br μ H W)(aj:hz P μ)(aE:cd μ args vs):
  Calls P f ⟨vs⟩ W λe hP=>∃aP u,e=.returned u/\bc aP v u/\br aP aX hP/\cb μ H W aP aX hP:=by
 have aa:=(CT hf ae n).fn f args H (by rw[eX];rfl) μ W vs ak aj aE
 rw[eX] at aa
 obtain⟨_,wJ⟩:=hf.code f fn c m4 af
 have he:=Cu m4 af wJ ⟨vs⟩ W
 rcases aa with⟨v',w',aV,_⟩|⟨_,aN⟩
 · rw[he] at aV;cases aV
 · exact aN.mono λe hP h=>h
def zD:an->Bool
 |.ret (.bool true) _=>true
 |_=>false
theorem P3{r:an}(h:zD r=true):∃H,r=.ret (.bool true) H:=by
 unfold zD at h
 split at h
 · exact⟨_,rfl⟩
 · cases h
theorem P4(hf:Fit P){intr:Nat->List I->J->Option (I×J)}(ae:lE P intr){n:Nat}{f:Nat}{fn:Func}{c:Code}(m4:P.funcs[f]? =some fn)(af:fn.body=some c){args:List I}{H:J}
  (eX:zD (fD P intr n (.fn f) args H)=true){μ:bn}{W:World}{vs:List Value}(ak:br μ H W)(ai:wT H)(aj:hz P μ)(aE:cd μ args vs):
  Calls P f ⟨vs⟩ W λe hP=>e=.returned (.bool true)/\Below W.heap.size W hP:=by
 obtain⟨aX,e⟩:=P3 eX
 exact(P2 hf ae m4 af e ak aj aE).mono λe hP ⟨aP,u,aa,ad,ax,aO⟩=>⟨by cases ad;exact aa,aO.below ai ak⟩
def CU(P:Program):Bool:=match P.globals.size with
 |0=>true
 |g+1=>(((begin P (λ_ _=>0) default).world.heap[g]?).bind Obj.row?).isSome
theorem P5{W:World}(hs:W.ShapedOpen P)(af:CU P=true):P.globals.size<=W.heap.size:=by
 unfold CU at af
 cases aj:P.globals.size with
 |zero=>exact Nat.zero_le _
 |succ g=>
  rw[aj] at af
  simp only at af
  obtain⟨⟨zero,t⟩,ab⟩:=Option.isSome_iff_exists.1 af
  obtain⟨cs,aa,_⟩:=hs.1 g zero t (by omega) ab
  have:=(Array.getElem?_eq_some_iff.1 aa).1
  omega
variable {H:Type} {enc:TypeId×Value->H}
theorem Ig(au:laidOutB P=true){W hP:World}(af:Below W.heap.size W hP){sp:Nat->Bool}:∀{ts:List TypeId} {vs:List Value} {bm:List (DataW H)} {ps:List MemPlace},(∀t∈ts,P.readableRec t=true/\t<P.types.size)->
  DataW.TrodAll enc P W 0 (λ_=>true) true ts vs bm ps->(∀x∈ps,x.block<W.heap.size/\sp x.block=true)->DataW.TrodAll enc P hP 0 sp true ts vs bm ps
 |[],[],[],_,_,h,_=>h
 |_::_,_::_,_::_,_,k1,⟨p,q,aa,ad,e⟩,hs=>
  ⟨p,q,WideElems.Trod_stays au (k1 _ (by simp)).1 (k1 _ (by simp)).2 aa (λx ab=>af.same (hs x (by rw[e];simp[ab])).1) (λx ab=>(hs x (by rw[e];simp[ab])).2),
    Ig au af (λt a6=>k1 t (by simp[a6])) ad (λx ab=>hs x (by rw[e];simp[ab])),e⟩
theorem P6{f:Func}{s:ChangeSpec}{apart fresh handsOn again:Bool}{W hP:World}{args:Array Value}{bm gs:List (DataW H)}{before:List MemPlace}{Ih:TypeId}
  (au:laidOutB P=true)(k1:∀t∈f.params.toList,P.readableRec t=true/\t<P.types.size)(h5:f.resultTypes=#[Ih])(Ii:P.underlying Ih=some .bool)(CV:s.vars=[])
  (iC:DataW.Whole enc P f.params.toList s.vars apart W args.toList bm gs before)(m4:s.fn H bm={results:=[.lit (.bool true)],args:=bm})(af:Below W.heap.size W hP):
  s.post enc P f apart fresh handsOn again W args (.bool true) hP:=by
 have cy:∀p∈before,p.block<W.heap.size:=λp bl=>iC.lt p bl
 have P7:=iC
 obtain⟨oR,Cb,iT,CW,rfl,a4,aK⟩:=iC
 rw[CV] at CW
 obtain⟨rfl,rfl⟩:=trodVars_none CW
 have e:s.fn H (bm++[])={results:=[.lit (.bool true)],args:=bm}:=by rw[List.append_nil];exact m4
 have hg:∀sp:Nat->Bool,(∀p∈oR++[],sp p.block=true)->DataW.TrodAll enc P hP 0 sp true f.params.toList args.toList bm oR:=λsp P8=>
  Ig au af k1 iT (λx ab=>⟨cy x (by simp[ab]),P8 x (by simp[ab])⟩)
 have gu:∀(b:Nat) (sp:Nat->Bool) (aG:Bool),DataW.TrodAll enc P hP b sp aG f.resultTypes.toList ((Value.bool true).resultList f.resultTypes.size) [.lit (.bool true)] []:=λb sp aG=>by
  rw[h5];exact trodAll_mk1 (shut_bool Ii true)
 refine⟨bm,[],oR++[],[],oR,[],P7,?_,?_,?_,World.keptBut_mono (λp bl=>⟨bl,?_⟩) (af.frame (· ∈oR++[])),λ_=>?_⟩
 · rw[e];exact gu _ _ _
 · rw[e];exact hg _ λp bl=>by simpa using cy p bl
 · rw[e,CV];rfl
 · exact Or.inr (by simpa using bl)
 · refine⟨ok_one h5 rfl (okWide_bool_mk Ii true),_,_,([]++oR)++[],⟨[]++oR,[],trodAll_append (hg _ (λ_ _=>rfl)) (gu _ _ _),show DataW.TrodVars enc P hP (λ_=>true) s.vars [] [] from by rw[CV];rfl,rfl,?_,?_⟩,?_⟩
   · intro b off bl
     have dO:MemPlace.cell b off∈oR++[]:=by simpa using bl
     rw[af.frozen (cy _ dO)]
     exact a4 b off dO
   · intro a2
     simpa using aK a2
   · intro p bl _
     simpa using bl
theorem P9{a:Assume}{C:Checked}{os:Os}{f:FuncId}{fn:Func}{s:ChangeSpec}{conds:List PathCond}{apart fresh handsOn again:Bool}{X:World->Array Value->Prop}
  (bt:∀(w w':World) (args:Array Value),w.heap=w'.heap->X w args->X w' args)
  (own:ownKnob C.prog.godebug=none)(started:os.Started)(P_:C.prog.inits.idxOf? f=none)(m4:C.prog.funcs[f]? =some fn)
  (witness:∃(w:World) (tape:Tape) (i:Input),w.os=os/\(w.forCall tape i).Shaped C.prog/\i.vars=[]/\Input.okWide C.prog (w.forCall tape i) .any w.heap.size f i/\
   ((s.pre enc C.prog fn conds apart (w.forCall tape i).memory i.args/\X (w.forCall tape i).memory i.args)/\sizedMet enc C.prog fn (OpenSpec.ofChange s) apart (w.forCall tape i).memory i.args)/\a.holds C.prog (lone (Frame.enter C.prog f i.args .normal) [] (w.forCall tape i)))
  (Qa:∀(W:World) (base:Nat) (args:Array Value) (bm gs:List (DataW H)) (before:List MemPlace),
   (∀(j:Nat) t v,fn.params[j]? =some t->args[j]? =some v->Value.okWide C.prog W .any base t v)->
   DataW.Whole enc C.prog fn.params.toList s.vars apart W args.toList bm gs before->
   (DataW.weightsEach C.prog (fn.params.toList++s.plain.varTypes C.prog) (bm++gs)).all (· <=reachBytes)=true->X W args->W.ShapedOpen C.prog->
   Calls C.prog f args W λe hP=>∃v,e=.returned v/\s.post enc C.prog fn apart fresh handsOn again W args v hP):
  ReturnsInHanded a C os f .any (λw args=>(s.pre enc C.prog fn conds apart w args/\X w args)/\sizedMet enc C.prog fn (OpenSpec.ofChange s) apart w args) (s.post enc C.prog fn apart fresh handsOn again):=by
 refine returnsInHanded_of_calls own started P_ witness ?_
 intro w tape i _ iD _ dw Qb aaj
 obtain⟨_,_,_,BE,Qc,_,_,_,_,nI⟩:=dw
 have e:BE=fn:=Option.some.inj (Qc.symm.trans m4)
 subst e
 obtain⟨⟨⟨bm,gs,before,hw,ah⟩,ab⟩,a4⟩:=Qb
 have Qd:=DataW.Whole.of_heap (w':=w.forCall tape i) (by rfl) hw
 refine(Qa (w.forCall tape i) w.heap.size i.args bm gs before nI Qd (a4.weights hw) (bt _ _ _ (by rfl) ab) iD).mono λe hP ⟨v,he,bl⟩=>?_
 subst he
 exact ChangeSpec.post_blind bl
end
end aD
namespace aD
open Go Go.RowKit
mutual
def mj:I->Bool
 |.bool _=>true
 |.int _ _=>true
 |.str _=>true
 |.aR=>true
 |.a_=>true
 |.g_=>true
 |.fi=>true
 |.eO=>true
 |.fn _ a b=>pK a&&pK b
 |.iface _ v=>mj v
 |.agg cs=>pK cs
 |.aW vs=>pK vs
 |_=>false
def pK:List I->Bool
 |[]=>true
 |v::vs=>mj v&&pK vs
end
mutual
theorem CX{μ aP:bn}:∀(a:I) (v:Value),mj a=true->bc μ a v->bc aP a v
 |.bool _,v,_,h=>h
 |.int _ _,v,_,h=>h
 |.str _,v,_,h=>h
 |.aR,v,_,h=>h
 |.a_,v,_,h=>h
 |.g_,v,_,h=>h
 |.fi,v,_,h=>h
 |.eO,v,_,h=>h
 |.fn f a b,v,ai,h=>by
  simp only[mj,Bool.and_eq_true] at ai
  obtain⟨cu,cs,e,aa,ad⟩:=h
  exact⟨cu,cs,e,sw _ _ ai.1 aa,sw _ _ ai.2 ad⟩
 |.iface t x,v,ai,h=>by
  simp only[mj] at ai
  obtain⟨y,e,aa⟩:=h
  exact⟨y,e,CX _ _ ai aa⟩
 |.agg cs,v,ai,h=>by
  simp only[mj] at ai
  obtain⟨l,e,aa⟩:=h
  exact⟨l,e,sw _ _ ai aa⟩
 |.aW cs,v,ai,h=>by
  simp only[mj] at ai
  obtain⟨l,e,aa⟩:=h
  exact⟨l,e,sw _ _ ai aa⟩
 |.bad,v,ai,h=>by simp[mj] at ai
 |.ptr _ _,v,ai,h=>by simp[mj] at ai
 |.slice _ _ _ _,v,ai,h=>by simp[mj] at ai
 |.map _,v,ai,h=>by simp[mj] at ai
 |.cc _,v,ai,h=>by simp[mj] at ai
theorem sw{μ aP:bn}:∀(as:List I) (vs:List Value),pK as=true->cd μ as vs->cd aP as vs
 |[],vs,_,h=>h
 |a::as,vs,ai,h=>by
  simp only[pK,Bool.and_eq_true] at ai
  obtain⟨v,pC,e,aa,ad⟩:=h
  exact⟨v,pC,e,CX a v ai.1 aa,sw as pC ai.2 ad⟩
end
structure pL where
 f:Nat
 args:List I
 v:I
def pM:List pL->Nat->List I->J->Option (I×J)
 |[],_,_,_=>none
 |e::T,f,args,h=>match Nat.beq f e.f with
  |true=>match I.jK args e.args with
   |true=>some (e.v,h)
   |false=>pM T f args h
  |false=>pM T f args h
theorem Ij:∀(T:List pL) (f:Nat) (args:List I) (h:J) (v:I) (al:J),pM T f args h=some (v,al)->al=h/\∃e∈T,e.f=f/\e.args=args/\e.v=v
 |[],f,args,h,v,al,ab=>by cases ab
 |e::T,f,args,h,v,al,ab=>by
  simp only[pM] at ab
  have rest:pM T f args h=some (v,al)->al=h/\∃cY∈e::T,cY.f=f/\cY.args=args/\cY.v=v:=λab=>by
   obtain⟨aa,cY,ad,ax⟩:=Ij T f args h v al ab
   exact⟨aa,cY,List.mem_cons_of_mem _ ad,ax⟩
  split at ab
  · rename_i hf
    split at ab
    · rename_i a2
      cases ab
      exact⟨rfl,e,by simp,(Nat.eq_of_beq_eq_true hf).symm,(pF _ _ a2).symm,rfl⟩
    · exact rest ab
  · exact rest ab
section
variable {P:Program}
def CY(P:Program)(intr:Nat->List I->J->Option (I×J))(n:Nat)(e:pL):Bool:=
 match fD P intr n (.fn e.f) e.args (iM P.globals.size) with
 |.ret v _=>I.beq v e.v&&mj e.v&&pK e.args
 |_=>false
def sx(P:Program)(e:pL):Prop:=∃(intr:Nat->List I->J->Option (I×J)) (n:Nat),lE P intr/\CY P intr n e=true
theorem ub.mono{f:FuncId}{vs:List Value}{w:World}{R dZ:Ending->World->Prop}(h:∀e w',R e w'->dZ e w')(aj:ub P f vs w R):ub P f vs w dZ:=by
 rcases aj with⟨v,w',aa,ad⟩|⟨aa,ad⟩
 · exact .inl ⟨v,w',aa,h _ _ ad⟩
 · exact .inr ⟨aa,ad.mono λe w' he=>h e w' he⟩
theorem Ik(hf:Fit P){T:List pL}(k1:∀e∈T,sx P e):lE P (pM T):=by
 intro f args H v aX ab μ w vs ak aj aE
 obtain⟨rfl,e,he,rfl,rfl,rfl⟩:=Ij T f args H v aX ab
 obtain⟨intr,n,ae,af⟩:=k1 e he
 unfold CY at af
 split at af
 · rename_i v1 H1 eX
   simp only[Bool.and_eq_true] at af
   obtain⟨⟨eJ,di⟩,sy⟩:=af
   have CZ:=beq_eq _ _ eJ
   subst CZ
   have C0:P.globals.size<=w.heap.size:=by
    cases bL:P.globals.size with
    |zero=>exact Nat.zero_le _
    |succ g=>
     obtain⟨i,aa,ad,ax⟩:=aj g (by omega)
     have:=(ak.lt _ i aa).2
     omega
   obtain⟨s1,s2,bE⟩:=P1 (P:=P) C0
   have g5:=(CT hf ae n).fn e.f e.args (iM P.globals.size) (by rw[eX];rfl) (wU P.globals.size) w vs s1 s2 (sw _ _ sy aE)
   rw[eX] at g5
   refine g5.mono λlB w' pA=>?_
   obtain⟨aP,u,rfl,aV,aN,cz⟩:=pA
   have hold:∀r,r<w.heap.size->w'.heap[r]? =w.heap[r]? :=λr ai=>cz.old r ai λb i au=>absurd rfl au
   refine⟨μ,u,rfl,CX _ _ di aV,⟨λb o i af ae=>(ak.rel b o i af ae).mono (eV.refl μ) (hold _ (ak.lt b i ae).2),ak.inj,λb i ae=>⟨(ak.lt b i ae).1,Nat.lt_of_lt_of_le (ak.lt b i ae).2 cz.size⟩,ak.bound⟩,?_⟩
   exact⟨eV.refl μ,cz.size,Nat.le_refl _,λ_ _ au=>au,λ_ _ _=>rfl,λr ai _=>hold r ai,(λb i aa ad=>by rw[aa] at ad;cases ad),λb o i af _ ae=>⟨af,hold _ (ak.lt b i ae).2⟩,cz.os,cz.out,cz.tape,cz.drawn⟩
 · cases af
def wV(P:Program):List pL->Prop
 |[]=>True
 |e::T=>sx P e/\wV P T
theorem wV.ok:∀{T:List pL},wV P T->∀e∈T,sx P e
 |[],_,e,he=>by cases he
 |x::T,h,e,he=>by
  rcases List.mem_cons.1 he with rfl|he
  · exact h.1
  · exact wV.ok h.2 e he
theorem C1(hf:Fit P){T:List pL}(k1:wV P T){n:Nat}{e:pL}(h:CY P (pM T) n e=true):sx P e:=⟨pM T,n,Ik hf k1.ok,h⟩
end
end aD
namespace aD
open Go
def q3(G:Nat)(is:List eG):bn:=λb=>if b<G then some ⟨b,0,0⟩ else is[b-G]?
def sA(h:J)(r:List I×Nat):J:=h.push (.cells r.1 r.2 .ro 0 0)
def sB(G:Nat)(rows:List (List I×Nat)):J:=rows.foldl sA (iM G)
theorem zE:∀(rows:List (List I×Nat)) (h:J),(∀b,h.n<=b->h.get b=none)->(rows.foldl sA h).n=h.n+rows.length/\∀b,(rows.foldl sA h).get b=if b<h.n then h.get b else(rows[b-h.n]?).map λr=>.cells r.1 r.2 .ro 0 0
 |[],h,af=>⟨rfl,λb=>by
  split
  · rfl
  · rename_i aK;simpa using af b (by omega)⟩
 |r::rows,h,af=>by
  have aK:(sA h r).n=h.n+1:=rfl
  have aj:∀b,(sA h r).get b=if b=h.n then some (.cells r.1 r.2 .ro 0 0) else h.get b:=λb=>J.eA _ _ _
  obtain⟨aV,aN⟩:=zE rows (sA h r) λb aa=>by rw[aj,if_neg (by omega)];exact af b (by omega)
  refine⟨by rw[List.foldl_cons,aV,aK,List.length_cons];omega,λb=>?_⟩
  rw[List.foldl_cons,aN,aK,aj]
  by_cases aa:b<h.n
  · rw[if_pos (by omega),if_neg (by omega),if_pos aa]
  · rw[if_neg aa]
    by_cases ad:b=h.n
    · subst ad;rw[if_pos (by omega),if_pos rfl,Nat.sub_self];rfl
    · rw[if_neg (by omega)]
      obtain⟨k,rfl⟩:∃k,b=h.n+(k+1):=⟨b-h.n-1,by omega⟩
      have aA:h.n+(k+1)-(h.n+1)=k:=by omega
      have aC:h.n+(k+1)-h.n=k+1:=by omega
      rw[aA,aC];rfl
theorem C2(G:Nat)(rows:List (List I×Nat)):(sB G rows).n=G+rows.length:=(zE rows (iM G) λ_ _=>rfl).1
theorem C3(G:Nat)(rows:List (List I×Nat))(b:Nat):(sB G rows).get b=if b<G then none else(rows[b-G]?).map λr=>.cells r.1 r.2 .ro 0 0:=(zE rows (iM G) λ_ _=>rfl).2 b
def zF(W:World)(i:eG)(cs:List I)(el:Nat):Prop:=∃c fz,W.heap[i.bj]? =some (.cells c el fz)/\(∀μ,BC μ cs c i.base)/\i.base+i.size=c.size
theorem Qe{P:Program}{W:World}(iC:P.globals.size<=W.heap.size)(l:List (eG×List I×Nat))(au:∀x∈l,zF W x.1 x.2.1 x.2.2):
  br (q3 P.globals.size (l.map (·.1))) (sB P.globals.size (l.map (·.2))) W/\hz P (q3 P.globals.size (l.map (·.1)))/\wT (sB P.globals.size (l.map (·.2))):=by
 have ro:∀b o,(sB P.globals.size (l.map (·.2))).get b=some o->∃x,l[b-P.globals.size]? =some x/\¬b<P.globals.size/\o=.cells x.2.1 x.2.2 .ro 0 0:=by
  intro b o h
  rw[C3] at h
  split at h
  · cases h
  · rename_i af
    rw[List.getElem?_map] at h
    cases ab:l[b-P.globals.size]? with
    |none=>rw[ab] at h;cases h
    |some x=>rw[ab] at h;cases h;exact⟨x,rfl,af,rfl⟩
 refine⟨⟨λb o j h aL=>?_,λb c' j k aa ad=>?_,λb j h=>?_,λb h=>?_⟩,λg aj=>⟨⟨g,0,0⟩,by simp[q3,aj],rfl,rfl⟩,λb o h=>?_⟩
 · obtain⟨x,ab,af,rfl⟩:=ro b o h
   unfold q3 at aL
   rw[if_neg af,List.getElem?_map,ab] at aL
   cases aL
   obtain⟨c,fz,aV,aN,cz⟩:=au x (List.mem_of_getElem? ab)
   exact⟨c,fz.1,fz.2,aV,aN _,cz,trivial⟩
 · obtain⟨o,ad,ax⟩:=ad
   obtain⟨x,_,_,rfl⟩:=ro _ o ad
   cases ax
 · rw[C2,List.length_map]
   unfold q3 at h
   split at h
   · rename_i af;cases h;exact⟨by omega,Nat.lt_of_lt_of_le af iC⟩
   · rw[List.getElem?_map] at h
     cases ab:l[b-P.globals.size]? with
     |none=>rw[ab] at h;cases h
     |some x=>
      rw[ab] at h;cases h
      obtain⟨c,fz,aV,_⟩:=au x (List.mem_of_getElem? ab)
      have:=(List.getElem?_eq_some_iff.1 ab).1
      exact⟨by omega,(Array.getElem?_eq_some_iff.1 aV).1⟩
 · rw[C2,List.length_map] at h
   rw[C3,if_neg (by omega),List.getElem?_map,List.getElem?_eq_none (by omega)];rfl
 · obtain⟨x,_,_,rfl⟩:=ro b o h;rfl
theorem Qf{P:Program}{l:List (eG×List I×Nat)}{k:Nat}{x:eG×List I×Nat}(h:l[k]? =some x):q3 P.globals.size (l.map (·.1)) (P.globals.size+k)=some x.1:=by
 unfold q3
 rw[if_neg (by omega),Nat.add_sub_cancel_left,List.getElem?_map,h];rfl
theorem Qg{P:Program}{l:List (eG×List I×Nat)}{k:Nat}{x:eG×List I×Nat}(h:l[k]? =some x):(sB P.globals.size (l.map (·.2))).get (P.globals.size+k)=some (.cells x.2.1 x.2.2 .ro 0 0):=by
 rw[C3,if_neg (by omega),Nat.add_sub_cancel_left,List.getElem?_map,h];rfl
end aD
namespace aD
open Go
theorem Qh{P:Program}{W:World}{r:Reach}{base t:Nat}{v:Value}{ts:List TypeId}(hu:l4 P t=some true)(a6:P.cellTypes P.depth t=some ts)(aK:P.cellsOf t=ts.length)(h:Value.okWide P W r base t v):
  ∃cs:List Value,v=.agg ⟨cs⟩/\cs.length=ts.length/\∀(i:Nat) (x:Value) (u:TypeId),cs[i]? =some x->ts[i]? =some u->Cell.okWide P W r base u x:=by
 have key:∃cs,v=.agg cs/\cs.size=P.cellsOf t/\Row.okWide P W r base t cs:=by
  unfold l4 at hu
  unfold Value.okWide at h
  cases ab:P.underlying t with
  |none=>rw[ab] at hu;cases hu
  |some x=>
   rw[ab] at hu h
   cases x<;>first|exact h|simp at hu
 obtain⟨⟨cs⟩,rfl,hs,aak,aa,_,ax⟩:=key
 rw[a6] at aa;cases aa
 have dx:cs.length=ts.length:=by simpa[aK] using hs
 refine⟨cs,rfl,dx,λi x u ab hu=>?_⟩
 obtain⟨Qi,nD,ah⟩:=ax i x (by simpa using ab)
 have ae:i<ts.length:=(List.getElem?_eq_some_iff.1 hu).1
 rw[Nat.mod_eq_of_lt ae,hu] at nD
 cases nD
 exact ah
theorem Qj{P:Program}{W:World}{r:Reach}{base u:Nat}{v:Value}(hu:P.underlying u=some .string)(h:Cell.okWide P W r base u v):∃s,v=.string s:=by
 simp only[Cell.okWide,hu] at h
 cases v<;>simp_all [Cell.ok]
end aD
