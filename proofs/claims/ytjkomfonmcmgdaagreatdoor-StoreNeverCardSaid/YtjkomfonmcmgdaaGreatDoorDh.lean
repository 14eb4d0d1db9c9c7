/-
  PROVED HERE: contracts of functions (Dh). No condition beside each statement's own.
-/
import Derived.Test.YtjkomfonmcmgdaaGreatDoorDc
import Derived.Test.YtjkomfonmcmgdaaGreatDoorDf
set_option linter.unusedVariables false
set_option linter.unusedSimpArgs false
namespace Go.Proofs.dj
open Go aM Go.Proofs c_ Go.Proofs.cF
set_option maxRecDepth 100000
set_option maxHeartbeats 1000000
structure e5 where
 left:a5
 nodes:Nat
def c0(n:Nat)(m:e5):Nat×e5:=match m.left with
 |[]=>(0,m)
 |c::l=>(c.toNat %n,⟨l,m.nodes⟩)
def pD:aF:=.mk 2 [] [] [] none
def FJ:aF:=.mk 1 [] [] [] none
def pE(t:aF):aF:=if dg (some t)=0 then t else pD
def fY:List a5:=[[97],[98],[99]]
def FK(l:List aF):aF:=pE (.mk 7 [] (fY.take l.length) l none)
def BB:List aF->aF
 |[]=>pD
 |x::l=>pE (.mk 8 [] [] l (some x))
def g7:List aF->Option (List aF)
 |[]=>some []
 |t::l=>if t.k=1 then none else(g7 l).map λr=>(if t.k=9 then t.xs else[t])++r
def h6(t:aF):List aF->List aF
 |[]=>[t]
 |x::l=>if dB (wr x) (wr t)=true then x::h6 t l else if wr x=wr t then x::l else t::x::l
def eI(l:List aF):List aF:=l.foldl (λa t=>h6 t a) []
def mS(l:List aF):aF:=match g7 l with
 |none=>FJ
 |some f=>match eI f with
  |[t]=>t
  |out=>pE (.mk 9 [] [] out none)
def vZ(n:Nat):a5:=if n=0 then[109,46,84] else[109,46,85]
def fI(k:Nat)(l:List aF)(m:e5):aF×e5:=
 if k=6 then(.mk 6 (vZ (c0 2 m).1) [] [] none,(c0 2 m).2) else if k=7 then(FK l,m) else if k=8 then(BB l,m) else if k=9 then(mS l,m) else(.mk k [] [] [] none,m)
def hC(f:e5->aF×e5):Nat->e5->List aF×e5
 |0,m=>([],m)
 |n+1,m=>((f m).1::(hC f n (f m).2).1,(hC f n (f m).2).2)
def ev:Nat->e5->aF×e5
 |0,m=>
  let a:=c0 9 ⟨m.left,m.nodes+1⟩
  let b:=c0 5 a.2
  let c:=c0 3 b.2
  fI (1+b.1) [] c.2
 |d+1,m=>
  let a:=c0 9 ⟨m.left,m.nodes+1⟩
  let b:=if 40<m.nodes+1 then c0 5 a.2 else a
  let c:=c0 3 b.2
  let l:=if 7<=1+b.1 then hC (ev d) (c.1+1) c.2 else([],c.2)
  fI (1+b.1) l.1 l.2
def qC(s:a5):aF:=(ev 3 ⟨s.take (min s.length 60),0⟩).1
theorem FL(t:aF):dg (some (pE t))=0:=by
 unfold pE
 by_cases h:dg (some t)=0
 · rw[if_pos h,h]
 · rw[if_neg h];decide+kernel
theorem FM(k:Nat)(ab:1<=k)(ad:k<=5):dg (some (.mk k [] [] [] none))=0:=by
 have:k=1\/k=2\/k=3\/k=4\/k=5:=by omega
 rcases this with rfl|rfl|rfl|rfl|rfl<;>decide+kernel
theorem XG(n:Nat):dg (some (.mk 6 (vZ n) [] [] none))=0:=by
 unfold vZ
 split<;>decide+kernel
theorem tT{t u:aF}(h:dg (some t)=0)(hu:u∈t.xs):dg (some u)=0:=by
 obtain⟨k,nm,ns,xs,rt⟩:=t
 have mf:u∈xs:=hu
 simp only[dg] at h⊢
 split at h
 · cases h
 · rename_i cj
   split at h
   · rename_i hm
     rw[mM] at hm
     simp only[Bool.and_eq_true] at hm
     have ab:=yq hm.2.2.1 mf
     have ad:=oh mf
     rw[mL] at cj
     rw[if_neg (by omega),if_pos ab]
   · cases h
theorem FN{t u:aF}:∀{l:List aF},u∈h6 t l->u=t\/u∈l
 |[],h=>by simpa[h6] using h
 |x::l,h=>by
  rw[h6] at h
  split at h
  · rcases List.mem_cons.1 h with rfl|h
    · exact .inr (List.mem_cons_self ..)
    · rcases FN h with h|h
      · exact .inl h
      · exact .inr (List.mem_cons_of_mem _ h)
  · split at h
    · exact .inr h
    · rcases List.mem_cons.1 h with h|h
      · exact .inl h
      · exact .inr h
theorem yS{u:aF}:∀(l a:List aF),u∈l.foldl (λa t=>h6 t a) a->u∈l\/u∈a
 |[],a,h=>.inr h
 |t::l,a,h=>by
  rcases yS l _ h with h|h
  · exact .inl (List.mem_cons_of_mem _ h)
  · rcases FN h with rfl|h
    · exact .inl (List.mem_cons_self ..)
    · exact .inr h
theorem BC{u:aF}:∀{l f:List aF},g7 l=some f->u∈f->u∈l\/∃t∈l,u∈t.xs
 |[],f,h,hu=>by cases h;cases hu
 |t::l,f,h,hu=>by
  rw[g7] at h
  split at h
  · cases h
  · cases e:g7 l with
    |none=>rw[e] at h;cases h
    |some r=>
     rw[e] at h
     cases h
     rcases List.mem_append.1 hu with hu|hu
     · split at hu
       · exact .inr ⟨t,List.mem_cons_self ..,hu⟩
       · obtain rfl:u=t:=by simpa using hu
         exact .inl (List.mem_cons_self ..)
     · rcases BC e hu with h|⟨x,ab,ad⟩
       · exact .inl (List.mem_cons_of_mem _ h)
       · exact .inr ⟨x,List.mem_cons_of_mem _ ab,ad⟩
theorem XH{l:List aF}(h:∀t∈l,dg (some t)=0):dg (some (mS l))=0:=by
 unfold mS
 cases e:g7 l with
 |none=>exact FM 1 (by omega) (by omega)
 |some f=>
  simp only
  split
  · rename_i t a_
    have hm:t∈eI f:=by rw[a_];exact List.mem_cons_self ..
    rcases yS f [] hm with hm|hm
    · rcases BC e hm with hm|⟨x,ab,ad⟩
      · exact h t hm
      · exact tT (h x ab) ad
    · cases hm
  · exact FL _
theorem L7{k:Nat}{l:List aF}(m:e5)(ab:1<=k)(ad:k<=9)(h:∀t∈l,dg (some t)=0):dg (some (fI k l m).1)=0:=by
 unfold fI
 by_cases cj:k=6
 · rw[if_pos cj];exact XG _
 rw[if_neg cj]
 by_cases db:k=7
 · rw[if_pos db];exact FL _
 rw[if_neg db]
 by_cases hq:k=8
 · rw[if_pos hq]
   show dg (some (BB l))=0
   cases l with
   |nil=>exact FM 2 (by omega) (by omega)
   |cons x l=>exact FL _
 rw[if_neg hq]
 by_cases gW:k=9
 · rw[if_pos gW];exact XH h
 rw[if_neg gW]
 exact FM k ab (by omega)
theorem FO{f:e5->aF×e5}(P:aF->Prop)(h:∀m,P (f m).1):∀n m,∀t∈(hC f n m).1,P t
 |0,m,t,a_=>by cases a_
 |n+1,m,t,a_=>by
  rcases List.mem_cons.1 a_ with rfl|a_
  · exact h m
  · exact FO P h n _ t a_
theorem nK{n:Nat}(h:0<n)(m:e5):(c0 n m).1<n:=by
 unfold c0
 split
 · exact h
 · exact Nat.mod_lt _ h
theorem FP:∀d m,dg (some (ev d m).1)=0
 |0,m=>by
  rw[ev]
  refine L7 _ (by omega) ?_ (λt a_=>by cases a_)
  have:=nK (n:=5) (by omega) (c0 9 ⟨m.left,m.nodes+1⟩).2
  omega
 |d+1,m=>by
  rw[ev]
  refine L7 _ (by omega) ?_ ?_
  · split
    · have:=nK (n:=5) (by omega) (c0 9 ⟨m.left,m.nodes+1⟩).2
      omega
    · have:=nK (n:=9) (by omega) ⟨m.left,m.nodes+1⟩
      omega
  · have key:∀(c:Prop) [Decidable c] (n:Nat) (jI:e5),∀t∈(if c then hC (ev d) n jI else([],jI)).1,dg (some t)=0:=by
      intro c _ n jI t a_
      split at a_
      · exact FO (λt=>dg (some t)=0) (FP d) _ _ t a_
      · cases a_
    exact key _ _ _
theorem XI(s:a5):dg (some (qC s))=0:=FP 3 _
end Go.Proofs.dj
namespace Go.Proofs.dj
open Go aM Go.Proofs c_ Go.Proofs.cF
set_option maxRecDepth 100000
set_option maxHeartbeats 1000000
structure cu where
 id:Nat
 k:Nat
 nm:a5
 ns:List a5
 args:List Nat
 ret:Nat
 pins:Nat
 used:Nat
structure c5 where
 cap:Nat
 given:Nat
 clock:Nat
 l:List cu
def cu.parts(e:cu):List Nat:=e.ret::e.args
def cu.is(k:Nat)(nm:a5)(ns:List a5)(az:List Nat)(r:Nat)(e:cu):Bool:=decide (e.k=k)&&(decide (e.nm=nm)&&(decide (e.ns=ns)&&(decide (e.args=az)&&decide (e.ret=r))))
def k1(id c:Nat)(e:cu):cu:=if e.id=id then{e with used:=c} else e
def j9(k:Nat)(nm:a5)(ns:List a5)(az:List Nat)(r:Nat)(s:c5):Nat×c5:=match s.l.find? (cu.is k nm ns az r) with
 |some e=>(e.id,{s with clock:=s.clock+1,l:=s.l.map (k1 e.id (s.clock+1))})
 |none=>(s.given+1,{s with given:=s.given+1,clock:=s.clock+1,l:=s.l++[⟨s.given+1,k,nm,ns,az,r,0,s.clock+1⟩]})
mutual
def c1:aF->c5->Nat×c5
 |.mk k nm ns xs rt,s=>j9 k nm ns (dc xs s).1 (h7 rt (dc xs s).2).1 (h7 rt (dc xs s).2).2
def dc:List aF->c5->List Nat×c5
 |[],s=>([],s)
 |t::cv,s=>((c1 t s).1::(dc cv (c1 t s).2).1,(dc cv (c1 t s).2).2)
def h7:Option aF->c5->Nat×c5
 |none,s=>(0,s)
 |some t,s=>c1 t s
end
def eu(id:Nat):List cu->Nat
 |[]=>0
 |e::l=>e.parts.count id+eu id l
def pF(l:List cu)(e:cu):Bool:=Nat.beq e.pins 0&&Nat.beq (eu e.id l) 0
def jB(l:List cu):List cu->Option cu
 |[]=>none
 |e::m=>match jB l m with
  |none=>if pF l e then some e else none
  |some b=>if pF l e&&Nat.blt e.used b.used then some e else some b
def hV(id:Nat)(l:List cu):List cu:=l.filter λe=>!Nat.beq e.id id
def jU(cap:Nat):Nat->List cu->List cu
 |0,l=>l
 |n+1,l=>if cap<l.length then match jB l l with
   |none=>l
   |some e=>jU cap n (hV e.id l)
  else l
def qD(s:c5):c5:={s with l:=jU s.cap s.l.length s.l}
def j_(id:Nat)(e:cu):cu:=if e.id=id then{e with pins:=e.pins+1} else e
def l8(id:Nat)(e:cu):cu:=if e.id=id then{e with pins:=e.pins-1} else e
def fB(t:aF)(s:c5):Nat×c5:=((c1 t s).1,qD {(c1 t s).2 with l:=(c1 t s).2.l.map (j_ (c1 t s).1)})
def v3(id:Nat)(l:List cu):Option cu:=l.find? λe=>Nat.beq e.id id
def k2(id:Nat)(s:c5):Nat×c5:=match v3 id s.l with
 |none=>(5,s)
 |some e=>if e.pins=0 then(2,s) else(0,qD {s with l:=s.l.map (l8 id)})
structure e_(s:c5):Prop where
 up:s.l.Pairwise (λa b=>a.id<b.id)
 aN:∀e∈s.l,0<e.id/\e.id<=s.given/\e.used<=s.clock
 part:∀e∈s.l,∀i∈e.parts,i=0\/(i<e.id/\∃p∈s.l,p.id=i)
 one:∀a∈s.l,∀b∈s.l,a.used=b.used->a.id=b.id
 apart:s.l.Pairwise (λa b=>b.is a.k a.nm a.ns a.args a.ret=false)
theorem BD{id:Nat}:∀{l:List cu},eu id l=0<-> ∀e∈l,id∉e.parts
 |[]=>by simp[eu]
 |e::l=>by
  rw[eu]
  constructor
  · intro h x aa
    rcases List.mem_cons.1 aa with rfl|aa
    · exact List.count_eq_zero.1 (by omega)
    · exact BD.1 (by omega) x aa
  · intro h
    rw[List.count_eq_zero.2 (h e (List.mem_cons_self ..)),BD.2 λx aa=>h x (List.mem_cons_of_mem _ aa)]
theorem yT{l:List cu}{e:cu}:pF l e=true<->e.pins=0/\∀x∈l,e.id∉x.parts:=by
 unfold pF
 rw[Bool.and_eq_true,Nat.beq_eq,Nat.beq_eq,BD]
theorem BE{l:List cu}:∀{m:List cu},jB l m=none<-> ∀e∈m,pF l e=false
 |[]=>by simp[jB]
 |e::m=>by
  rw[jB]
  have a6:=BE (l:=l) (m:=m)
  cases ae:jB l m with
  |none=>
   have:=a6.1 ae
   cases he:pF l e with
   |true=>simp[he]
   |false=>
    simp only[he]
    constructor
    · intro _ x aa
      rcases List.mem_cons.1 aa with rfl|aa
      · exact he
      · exact this x aa
    · intro _;rfl
  |some b=>
   constructor
   · intro h
     simp only at h
     split at h<;>cases h
   · intro h
     have:=a6.2 λx aa=>h x (List.mem_cons_of_mem _ aa)
     rw[ae] at this;cases this
theorem v5{l:List cu}:∀{m:List cu} {b:cu},jB l m=some b->b∈m/\pF l b=true/\∀e∈m,pF l e=true->b.used<=e.used
 |[],b,h=>by cases h
 |e::m,b,h=>by
  rw[jB] at h
  cases ae:jB l m with
  |none=>
   rw[ae] at h
   simp only at h
   split at h
   · rename_i he
     cases h
     refine⟨List.mem_cons_self ..,he,λx aa aw=>?_⟩
     rcases List.mem_cons.1 aa with rfl|aa
     · exact Nat.le_refl _
     · rw[BE.1 ae x aa] at aw;cases aw
   · cases h
  |some c=>
   rw[ae] at h
   simp only at h
   obtain⟨bE,b0,ec⟩:=v5 ae
   split at h
   · rename_i he
     cases h
     rw[Bool.and_eq_true] at he
     have b8:=Nat.blt_eq▸he.2
     refine⟨List.mem_cons_self ..,he.1,λx aa aw=>?_⟩
     rcases List.mem_cons.1 aa with rfl|aa
     · exact Nat.le_refl _
     · have:=ec x aa aw;omega
   · rename_i he
     cases h
     refine⟨List.mem_cons_of_mem _ bE,b0,λx aa aw=>?_⟩
     rcases List.mem_cons.1 aa with rfl|aa
     · rw[aw,Bool.true_and] at he
       have:¬x.used<b.used:=by simpa[Nat.blt_eq] using he
       omega
     · exact ec x aa aw
theorem oA{id:Nat}{l:List cu}{e:cu}:e∈hV id l<->e∈l/\e.id≠id:=by
 unfold hV
 rw[List.mem_filter]
 refine and_congr Iff.rfl ?_
 cases ae:Nat.beq e.id id with
 |true=>simp[Nat.eq_of_beq_eq_true ae]
 |false=>
  constructor
  · intro _ h;rw[h,Nat.beq_refl] at ae;cases ae
  · intro _;rfl
theorem e_.drop{s:c5}(h:e_ s){id:Nat}(aw:∀x∈s.l,id∉x.parts):e_ {s with l:=hV id s.l}:=by
 refine⟨h.up.filter _,λe he=>h.aN e (oA.1 he).1,λe he i af=>?_,λa aS b ae=>h.one a (oA.1 aS).1 b (oA.1 ae).1,h.apart.filter _⟩
 obtain⟨ab,ad⟩:=oA.1 he
 rcases h.part e ab i af with h0|⟨ar,p,aJ,bO⟩
 · exact .inl h0
 · refine .inr ⟨ar,p,oA.2 ⟨aJ,λcH=>?_⟩,bO⟩
   exact aw e ab (by rw[<-cH,bO];exact af)
theorem FQ{s:c5}:∀(n:Nat) (l:List cu),e_ {s with l:=l}->e_ {s with l:=jU s.cap n l}
 |0,l,h=>h
 |n+1,l,h=>by
  rw[jU]
  split
  · cases ae:jB l l with
    |none=>exact h
    |some e=>
     obtain⟨_,ad,_⟩:=v5 ae
     exact FQ n _ (e_.drop h (yT.1 ad).2)
  · exact h
theorem e_.least{s:c5}(h:e_ s)(aO:∀e∈s.l,e.pins=0)(aw:s.l≠[]):jB s.l s.l≠none:=by
 intro ae
 have ae:=BE.1 ae
 obtain⟨m,hm⟩:∃m,s.l.getLast?=some m:=by
  cases e:s.l.getLast? with
  |none=>exact absurd (List.getLast?_eq_none_iff.1 e) aw
  |some m=>exact⟨m,rfl⟩
 obtain⟨ys,L8⟩:=List.getLast?_eq_some_iff.1 hm
 have h1:m∈s.l:=List.mem_of_getLast? hm
 have v7:=h.up
 rw[L8,List.pairwise_append] at v7
 have:pF s.l m=true:=yT.2 ⟨aO m h1,λx aa af=>by
  rcases h.part x aa _ af with h0|⟨ab,_⟩
  · have:=(h.aN m h1).1;omega
  · rw[L8] at aa
    rcases List.mem_append.1 aa with aa|aa
    · have:=v7.2.2 x aa m (List.mem_singleton.2 rfl);omega
    · obtain rfl:x=m:=by simpa using aa
      omega⟩
 rw[ae m h1] at this;cases this
end Go.Proofs.dj
namespace Go.Proofs.dj
open Go aM Go.Proofs c_ Go.Proofs.cF
set_option maxRecDepth 100000
set_option maxHeartbeats 1000000
theorem qE{e:cu}{k:Nat}{nm:a5}{ns:List a5}{az:List Nat}{r:Nat}:e.is k nm ns az r=true<->e.k=k/\e.nm=nm/\e.ns=ns/\e.args=az/\e.ret=r:=by
 simp[cu.is]
theorem L9(a b:cu):b.is a.k a.nm a.ns a.args a.ret=a.is b.k b.nm b.ns b.args b.ret:=by
 apply Bool.eq_iff_iff.2
 rw[qE,qE]
 constructor<;>rintro⟨ab,ad,ar,aJ,bO⟩<;>exact⟨ab.symm,ad.symm,ar.symm,aJ.symm,bO.symm⟩
structure Alike(a b:cu):Prop where
 id:a.id=b.id
 k:a.k=b.k
 nm:a.nm=b.nm
 ns:a.ns=b.ns
 args:a.args=b.args
 ret:a.ret=b.ret
 pins:a.pins=b.pins
theorem Alike.refl(a:cu):Alike a a:=⟨rfl,rfl,rfl,rfl,rfl,rfl,rfl⟩
theorem Alike.trans{a b c:cu}(h:Alike a b)(an:Alike b c):Alike a c:=⟨h.1.trans an.1,h.2.trans an.2,h.3.trans an.3,h.4.trans an.4,h.5.trans an.5,h.6.trans an.6,h.7.trans an.7⟩
theorem Alike.parts{a b:cu}(h:Alike a b):a.parts=b.parts:=by unfold cu.parts;rw[h.ret,h.args]
theorem FR(id c:Nat)(e:cu):Alike (k1 id c e) e:=by
 unfold k1
 split
 · exact⟨rfl,rfl,rfl,rfl,rfl,rfl,rfl⟩
 · exact Alike.refl e
theorem XJ(id c:Nat)(e:cu):(k1 id c e).used=if e.id=id then c else e.used:=by
 unfold k1
 split<;>rfl
structure mT(s bg:c5):Prop where
 cap:bg.cap=s.cap
 given:s.given<=bg.given
 old:∀e∈s.l,∃q∈bg.l,Alike q e
 new:∀q∈bg.l,(∃e∈s.l,Alike q e)\/(s.given<q.id/\q.pins=0)
theorem mT.refl(s:c5):mT s s:=⟨rfl,Nat.le_refl _,λe he=>⟨e,he,Alike.refl e⟩,λq aT=>.inl ⟨q,aT,Alike.refl q⟩⟩
theorem mT.trans{a b c:c5}(h:mT a b)(an:mT b c):mT a c:=by
 refine⟨an.cap.trans h.cap,Nat.le_trans h.given an.given,λe he=>?_,λq aT=>?_⟩
 · obtain⟨x,aa,ab⟩:=h.old e he
   obtain⟨y,aW,ad⟩:=an.old x aa
   exact⟨y,aW,ad.trans ab⟩
 · rcases an.new q aT with⟨x,aa,ab⟩|⟨ab,ad⟩
   · rcases h.new x aa with⟨y,aW,ad⟩|⟨ad,ar⟩
     · exact .inl ⟨y,aW,ab.trans ad⟩
     · exact .inr ⟨by rw[ab.id];exact ad,by rw[ab.pins];exact ar⟩
   · exact .inr ⟨by have:=h.given;omega,ad⟩
def Has(s:c5)(i:Nat):Prop:=∃p∈s.l,p.id=i
theorem Has.L_{s bg:c5}(h:mT s bg){i:Nat}(af:Has s i):Has bg i:=by
 obtain⟨p,aO,rfl⟩:=af
 obtain⟨q,aT,ab⟩:=h.old p aO
 exact⟨q,aT,ab.id⟩
theorem XK{l:List cu}(h:l.Pairwise (λa b=>a.id<b.id)){a b:cu}(aS:a∈l)(ae:b∈l)(e:a.id=b.id):a=b:=by
 induction l with
 |nil=>cases aS
 |cons x l a6=>
  rw[List.pairwise_cons] at h
  rcases List.mem_cons.1 aS with ab|ab
  · rcases List.mem_cons.1 ae with ad|ad
    · rw[ab,ad]
    · have:=h.1 b ad;rw[ab] at e;omega
  · rcases List.mem_cons.1 ae with ad|ad
    · have:=h.1 a ab;rw[ad] at e;omega
    · exact a6 h.2 ab ad
theorem XL{s:c5}(h:e_ s){k:Nat}{nm:a5}{ns:List a5}{az:List Nat}{r:Nat}(aO:∀i∈r::az,i=0\/Has s i):e_ (j9 k nm ns az r s).2/\mT s (j9 k nm ns az r s).2/\Has (j9 k nm ns az r s).2 (j9 k nm ns az r s).1:=by
 unfold j9
 cases hf:s.l.find? (cu.is k nm ns az r) with
 |some e=>
  simp only
  have he:=List.mem_of_find?_eq_some hf
  have T:=FR e.id (s.clock+1)
  have U:=XJ e.id (s.clock+1)
  refine⟨⟨?_,?_,?_,?_,?_⟩,⟨rfl,Nat.le_refl _,λx aa=>⟨_,List.mem_map.2 ⟨x,aa,rfl⟩,T x⟩,λq aT=>?_⟩,⟨_,List.mem_map.2 ⟨e,he,rfl⟩,(T e).id⟩⟩
  · rw[List.pairwise_map]
    exact h.up.imp λ{a b} fg=>by rw[(T a).id,(T b).id];exact fg
  · intro q aT
    obtain⟨x,aa,rfl⟩:=List.mem_map.1 aT
    obtain⟨ab,ad,ar⟩:=h.aN x aa
    rw[(T x).id,U x]
    refine⟨ab,ad,?_⟩
    split<;>simp only<;>omega
  · intro q aT i af
    obtain⟨x,aa,rfl⟩:=List.mem_map.1 aT
    rw[(T x).parts] at af
    rw[(T x).id]
    rcases h.part x aa i af with h0|⟨ab,p,ad,ar⟩
    · exact .inl h0
    · exact .inr ⟨ab,_,List.mem_map.2 ⟨p,ad,rfl⟩,by rw[(T p).id,ar]⟩
  · intro a aS b ae hu
    obtain⟨x,aa,rfl⟩:=List.mem_map.1 aS
    obtain⟨y,aW,rfl⟩:=List.mem_map.1 ae
    rw[(T x).id,(T y).id]
    rw[U x,U y] at hu
    have yK:=(h.aN x aa).2.2
    have acH:=(h.aN y aW).2.2
    by_cases aA:x.id=e.id
    · by_cases ay:y.id=e.id
      · rw[aA,ay]
      · rw[if_pos aA,if_neg ay] at hu;omega
    · by_cases ay:y.id=e.id
      · rw[if_neg aA,if_pos ay] at hu;omega
      · rw[if_neg aA,if_neg ay] at hu;exact h.one x aa y aW hu
  · rw[List.pairwise_map]
    refine h.apart.imp λ{a b} fg=>?_
    rw[(T a).k,(T a).nm,(T a).ns,(T a).args,(T a).ret]
    cases ag:(k1 e.id (s.clock+1) b).is a.k a.nm a.ns a.args a.ret with
    |false=>rfl
    |true=>
     obtain⟨aG,a9,dn,gN,nI⟩:=qE.1 ag
     rw[(T b).k] at aG
     rw[(T b).nm] at a9
     rw[(T b).ns] at dn
     rw[(T b).args] at gN
     rw[(T b).ret] at nI
     rw[qE.2 ⟨aG,a9,dn,gN,nI⟩] at fg;cases fg
  · obtain⟨x,aa,rfl⟩:=List.mem_map.1 aT
    exact .inl ⟨x,aa,T x⟩
 |none=>
  simp only
  have aK:=List.find?_eq_none.1 hf
  refine⟨⟨?_,?_,?_,?_,?_⟩,⟨rfl,by simp only;omega,λx aa=>⟨x,List.mem_append_left _ aa,Alike.refl x⟩,λq aT=>?_⟩,⟨_,List.mem_append_right _ (List.mem_singleton.2 rfl),rfl⟩⟩
  · rw[List.pairwise_append]
    refine⟨h.up,List.pairwise_singleton ..,λa aS b ae=>?_⟩
    obtain rfl:=List.mem_singleton.1 ae
    have:=(h.aN a aS).2.1
    simp only;omega
  · intro q aT
    rcases List.mem_append.1 aT with aT|aT
    · obtain⟨ab,ad,ar⟩:=h.aN q aT
      exact⟨ab,by simp only;omega,by simp only;omega⟩
    · obtain rfl:=List.mem_singleton.1 aT
      exact⟨by simp only;omega,Nat.le_refl _,Nat.le_refl _⟩
  · intro q aT i af
    rcases List.mem_append.1 aT with aT|aT
    · rcases h.part q aT i af with h0|⟨ab,p,ad,ar⟩
      · exact .inl h0
      · exact .inr ⟨ab,p,List.mem_append_left _ ad,ar⟩
    · obtain rfl:=List.mem_singleton.1 aT
      rcases aO i af with h0|⟨p,ad,ar⟩
      · exact .inl h0
      · refine .inr ⟨?_,p,List.mem_append_left _ ad,ar⟩
        have:=(h.aN p ad).2.1
        simp only;omega
  · intro a aS b ae hu
    rcases List.mem_append.1 aS with aS|aS
    · rcases List.mem_append.1 ae with ae|ae
      · exact h.one a aS b ae hu
      · obtain rfl:=List.mem_singleton.1 ae
        have:=(h.aN a aS).2.2
        simp only at hu;omega
    · obtain rfl:=List.mem_singleton.1 aS
      rcases List.mem_append.1 ae with ae|ae
      · have:=(h.aN b ae).2.2
        simp only at hu;omega
      · obtain rfl:=List.mem_singleton.1 ae
        rfl
  · rw[List.pairwise_append]
    refine⟨h.apart,List.pairwise_singleton ..,λa aS b ae=>?_⟩
    obtain rfl:=List.mem_singleton.1 ae
    rw[L9]
    simpa using aK a aS
  · rcases List.mem_append.1 aT with aT|aT
    · exact .inl ⟨q,aT,Alike.refl q⟩
    · obtain rfl:=List.mem_singleton.1 aT
      exact .inr ⟨by simp only;omega,rfl⟩
mutual
theorem qF:∀(t:aF) {s:c5},e_ s->e_ (c1 t s).2/\mT s (c1 t s).2/\Has (c1 t s).2 (c1 t s).1
 |.mk k nm ns xs rt,s,h=>by
  obtain⟨ab,aj,eN⟩:=BF xs h
  obtain⟨ad,ax,fR⟩:=Ma rt ab
  rw[c1]
  obtain⟨ar,aC,js⟩:=XL ad (k:=k) (nm:=nm) (ns:=ns) (az:=(dc xs s).1) (r:=(h7 rt (dc xs s).2).1) λi af=>by
   rcases List.mem_cons.1 af with rfl|af
   · exact fR
   · exact .inr ((eN i af).L_ ax)
  exact⟨ar,(aj.trans ax).trans aC,js⟩
theorem BF:∀(l:List aF) {s:c5},e_ s->e_ (dc l s).2/\mT s (dc l s).2/\∀i∈(dc l s).1,Has (dc l s).2 i
 |[],s,h=>by rw[dc];exact⟨h,mT.refl s,λi af=>by cases af⟩
 |t::l,s,h=>by
  obtain⟨ab,aj,eN⟩:=qF t h
  obtain⟨ad,ax,fR⟩:=BF l ab
  rw[dc]
  refine⟨ad,aj.trans ax,λi af=>?_⟩
  rcases List.mem_cons.1 af with rfl|af
  · exact eN.L_ ax
  · exact fR i af
theorem Ma:∀(o:Option aF) {s:c5},e_ s->e_ (h7 o s).2/\mT s (h7 o s).2/\((h7 o s).1=0\/Has (h7 o s).2 (h7 o s).1)
 |none,s,h=>by rw[h7];exact⟨h,mT.refl s,.inl rfl⟩
 |some t,s,h=>by
  obtain⟨ab,aj,eN⟩:=qF t h
  rw[h7]
  exact⟨ab,aj,.inr eN⟩
end
end Go.Proofs.dj
namespace Go.Proofs.dj
open Go aM Go.Proofs c_ Go.Proofs.cF
set_option maxRecDepth 100000
set_option maxHeartbeats 1000000
structure BG(f:cu->cu):Prop where
 id:∀e,(f e).id=e.id
 parts:∀e,(f e).parts=e.parts
 used:∀e,(f e).used=e.used
 is:∀e k nm ns az r,(f e).is k nm ns az r=e.is k nm ns az r
 bC:∀e,(f e).k=e.k/\(f e).nm=e.nm/\(f e).ns=e.ns/\(f e).args=e.args/\(f e).ret=e.ret
theorem v8(i:Nat):BG (j_ i):=by
 refine⟨λe=>?_,λe=>?_,λe=>?_,λe k nm ns az r=>?_,λe=>?_⟩<;>unfold j_<;>split<;>first|rfl|exact⟨rfl,rfl,rfl,rfl,rfl⟩
theorem FT(i:Nat):BG (l8 i):=by
 refine⟨λe=>?_,λe=>?_,λe=>?_,λe k nm ns az r=>?_,λe=>?_⟩<;>unfold l8<;>split<;>first|rfl|exact⟨rfl,rfl,rfl,rfl,rfl⟩
theorem e_.map{s:c5}(h:e_ s){f:cu->cu}(F:BG f):e_ {s with l:=s.l.map f}:=by
 refine⟨?_,?_,?_,?_,?_⟩
 · show(s.l.map f).Pairwise _
   rw[List.pairwise_map]
   exact h.up.imp λ{a b} fg=>by rw[F.id,F.id];exact fg
 · intro q aT
   obtain⟨x,aa,rfl⟩:=List.mem_map.1 aT
   rw[F.id,F.used]
   exact h.aN x aa
 · intro q aT i af
   obtain⟨x,aa,rfl⟩:=List.mem_map.1 aT
   rw[F.parts] at af
   rw[F.id]
   rcases h.part x aa i af with h0|⟨ab,p,ad,ar⟩
   · exact .inl h0
   · exact .inr ⟨ab,_,List.mem_map.2 ⟨p,ad,rfl⟩,by rw[F.id,ar]⟩
 · intro a aS b ae hu
   obtain⟨x,aa,rfl⟩:=List.mem_map.1 aS
   obtain⟨y,aW,rfl⟩:=List.mem_map.1 ae
   rw[F.used,F.used] at hu
   rw[F.id,F.id]
   exact h.one x aa y aW hu
 · show(s.l.map f).Pairwise _
   rw[List.pairwise_map]
   refine h.apart.imp λ{a b} fg=>?_
   obtain⟨ab,ad,ar,aJ,bO⟩:=F.bC a
   rw[ab,ad,ar,aJ,bO,F.is]
   exact fg
theorem BH(cap:Nat):∀(n:Nat) (l:List cu),∀e∈jU cap n l,e∈l
 |0,l,e,h=>h
 |n+1,l,e,h=>by
  rw[jU] at h
  split at h
  · cases ae:jB l l with
    |none=>rw[ae] at h;exact h
    |some x=>rw[ae] at h;exact(oA.1 (BH cap n _ e h)).1
  · exact h
theorem Mb(cap:Nat):∀(n:Nat) (l:List cu),∀e∈l,(∀x∈l,x.id=e.id->x.pins≠0)->e∈jU cap n l
 |0,l,e,h,_=>h
 |n+1,l,e,h,aO=>by
  rw[jU]
  split
  · cases ae:jB l l with
    |none=>exact h
    |some x=>
     obtain⟨ab,ad,_⟩:=v5 ae
     refine Mb cap n _ e (oA.2 ⟨h,λcH=>aO x ab cH.symm (yT.1 ad).1⟩) λy aW=>aO y (oA.1 aW).1
  · exact h
theorem XM{l:List cu}{e:cu}(h:e∈l):(hV e.id l).length<l.length:=by
 unfold hV
 refine List.length_filter_lt_length_iff_exists.2 ⟨e,h,?_⟩
 simp[Nat.beq_refl]
theorem Mc{s:c5}:∀(n:Nat) (l:List cu),e_ {s with l:=l}->(∀e∈l,e.pins=0)->l.length<=n->jU 0 n l=[]
 |0,l,h,aO,aK=>List.length_eq_zero_iff.1 (by rw[jU];omega)
 |n+1,l,h,aO,aK=>by
  rw[jU]
  split
  · rename_i h0
    have aw:l≠[]:=by intro e;rw[e] at h0;simp at h0
    cases ae:jB l l with
    |none=>exact absurd ae (e_.least h aO aw)
    |some e=>
     obtain⟨ab,ad,_⟩:=v5 ae
     have:=XM ab
     exact Mc n _ (e_.drop h (yT.1 ad).2) (λx aa=>aO x (oA.1 aa).1) (by omega)
  · exact List.length_eq_zero_iff.1 (by omega)
theorem XN(t:aF){s:c5}(h:e_ s):e_ (fB t s).2:=FQ _ _ ((qF t h).1.map (v8 _))
theorem Md{i:Nat}{l:List cu}{e:cu}(h:v3 i l=some e):e∈l/\e.id=i:=by
 refine⟨List.mem_of_find?_eq_some h,?_⟩
 have:=List.find?_some h
 exact Nat.eq_of_beq_eq_true this
theorem XO(t:aF){s:c5}(h:e_ s):∃e∈(fB t s).2.l,e.id=(fB t s).1/\e.pins≠0:=by
 obtain⟨ab,aj,p,aO,af⟩:=qF t h
 have aq:=ab.map (v8 (c1 t s).1)
 have pp:(j_ (c1 t s).1 p).pins≠0:=by unfold j_;rw[if_pos af];simp
 have pi:(j_ (c1 t s).1 p).id=(c1 t s).1:=((v8 _).id p).trans af
 refine⟨j_ (c1 t s).1 p,Mb _ _ _ _ (List.mem_map.2 ⟨p,aO,rfl⟩) λx aa e=>?_,pi,pp⟩
 have:=XK aq.up aa (List.mem_map.2 ⟨p,aO,rfl⟩) e
 rw[this];exact pp
theorem never(t:aF){s:c5}(h:e_ s)(h0:s.l=[])(ag:s.cap=0):s.given<(fB t s).1/\(fB t s).1<=(fB t s).2.given/\(fB t s).2.cap=0/\(k2 (fB t s).1 (fB t s).2).1=0/\(k2 (fB t s).1 (fB t s).2).2.l=[]/\(k2 (fB t s).1 (fB t s).2).2.cap=0/\(k2 (fB t s).1 (fB t s).2).2.given=(fB t s).2.given:=by
 obtain⟨ab,aj,p,aO,af⟩:=qF t h
 have kj:(c1 t s).2.cap=0:=aj.cap.trans ag
 have Me:=XN t h
 obtain⟨e,he,Mf,acI⟩:=XO t h
 have FU:(fB t s).2.cap=0:=kj
 have new:∀q∈(c1 t s).2.l,s.given<q.id/\q.pins=0:=λq aT=>by
  rcases aj.new q aT with⟨x,aa,_⟩|ad
  · rw[h0] at aa;cases aa
  · exact ad
 have aN:=Me.aN e he
 rw[Mf] at aN
 have pins:∀x∈(fB t s).2.l,x.pins=if x.id=(fB t s).1 then 1 else 0:=λx aa=>by
  obtain⟨y,aW,rfl⟩:=List.mem_map.1 (BH _ _ _ x aa)
  obtain⟨_,ar⟩:=new y aW
  have iB:=(v8 (c1 t s).1).id y
  show(j_ (c1 t s).1 y).pins=if(j_ (c1 t s).1 y).id=(c1 t s).1 then 1 else 0
  rw[iB]
  unfold j_
  split
  · show y.pins+1=1;omega
  · exact ar
 have hf:∃x,v3 (fB t s).1 (fB t s).2.l=some x:=by
  cases aa:v3 (fB t s).1 (fB t s).2.l with
  |some x=>exact⟨x,rfl⟩
  |none=>
   have:=List.find?_eq_none.1 aa e he
   rw[Mf] at this;simp[Nat.beq_refl] at this
 obtain⟨x,aa⟩:=hf
 obtain⟨bA,cX⟩:=Md aa
 have XP:=pins x bA
 rw[if_pos cX] at XP
 have df:k2 (fB t s).1 (fB t s).2=(0,qD {(fB t s).2 with l:=(fB t s).2.l.map (l8 (fB t s).1)}):=by
  unfold k2
  rw[aa]
  simp only
  rw[if_neg (by omega)]
 rw[df]
 refine⟨?_,aN.2.1,FU,rfl,?_,FU,rfl⟩
 · show s.given<(c1 t s).1
   have:=(new p aO).1
   omega
 · show jU (fB t s).2.cap _ _=[]
   rw[FU]
   refine Mc (s:=(fB t s).2) _ _ (Me.map (FT _)) (λq aT=>?_) (Nat.le_refl _)
   obtain⟨y,aW,rfl⟩:=List.mem_map.1 aT
   have hyp:=pins y aW
   unfold l8
   split
   · rename_i aJ
     rw[if_pos aJ] at hyp
     show y.pins-1=0;omega
   · rename_i aJ
     rw[if_neg aJ] at hyp
     exact hyp
end Go.Proofs.dj
namespace Go.Proofs.dj
open Go aM Go.Proofs c_ Go.Proofs.cF
set_option maxRecDepth 100000
set_option maxHeartbeats 1000000
end Go.Proofs.dj
namespace Go.Proofs.dj
open Go aM Go.Proofs c_ Go.Proofs.cF
set_option maxRecDepth 100000
set_option maxHeartbeats 1000000
def xE(l:List cu)(L:List Nat):Prop:=∀e∈l,e.id∈L->∀p∈e.parts,p=0\/p∈L
end Go.Proofs.dj
namespace Go.Proofs.dj
open Go aM Go.Proofs c_ Go.Proofs.cF
set_option maxRecDepth 100000
set_option maxHeartbeats 1000000
theorem kE{t:aF}:dg (some t)=0<->sz t<=60/\dY t=true:=by
 simp only[dg]
 split
 · constructor
   · intro h;cases h
   · rintro⟨h,_⟩;omega
 · split
   · rename_i ab ad;exact⟨λ_=>⟨by omega,ad⟩,λ_=>rfl⟩
   · rename_i ab ad
     constructor
     · intro h;cases h
     · rintro⟨_,h⟩;exact absurd h ad
theorem yU{t:aF}(h:dY t=true):pE t=if sz t<=60 then t else pD:=by
 unfold pE
 by_cases cj:sz t<=60
 · rw[if_pos cj,if_pos (kE.2 ⟨cj,h⟩)]
 · rw[if_neg cj,if_neg λe=>cj (kE.1 e).1]
theorem FV{l:List aF}(h:∀t∈l,dg (some t)=0):hj l=true:=by
 induction l with
 |nil=>rw[hj]
 |cons x l a6=>
  rw[hj,(kE.1 (h x (List.mem_cons_self ..))).2,a6 λt a_=>h t (List.mem_cons_of_mem _ a_)];rfl
theorem XQ{l:List aF}(h:∀t∈l,dg (some t)=0):cY l<=60*l.length:=by
 induction l with
 |nil=>rw[cY];exact Nat.zero_le _
 |cons x l a6=>
  have ab:=(kE.1 (h x (List.mem_cons_self ..))).1
  have ad:=a6 λt a_=>h t (List.mem_cons_of_mem _ a_)
  rw[cY,List.length_cons];omega
theorem XR{l:List aF}(h:∀t∈l,dg (some t)=0)(ar:l.length<=3):dY (.mk 7 [] (fY.take l.length) l none)=true:=by
 have hm:=FV h
 have aw:l.length=0\/l.length=1\/l.length=2\/l.length=3:=by omega
 rw[mM,hm,eL]
 have aK:jx none (fY.take l.length)=true:=by rcases aw with e|e|e|e<;>rw[e]<;>decide+kernel
 have aO:hQ 7 [] (fY.take l.length).length l.length (none:Option aF).isSome=true:=by rcases aw with e|e|e|e<;>rw[e]<;>decide+kernel
 have aq:(fY.take l.length).length=l.length:=by rw[List.length_take];show min l.length 3=_;omega
 rw[aO,aK,aq]
 simp
theorem Mg{l:List aF}{x:aF}(h:∀t∈l,dg (some t)=0)(aa:dg (some x)=0):dY (.mk 8 [] [] l (some x))=true:=by
 rw[mM,FV h,eL,il,(kE.1 aa).2,hQ]
 simp[dF]
theorem Mh:∀a b c:a5,dB a b=true->dB b c=true->dB a c=true
 |[],[],_,h,_=>by cases h
 |_::_,[],_,h,_=>by cases h
 |[],_::_,[],_,h=>by cases h
 |_::_,_::_,[],_,h=>by cases h
 |[],_::_,_::_,_,_=>rfl
 |x::a,y::b,z::c,ab,ad=>by
  rw[yn] at ab ad⊢
  by_cases aA:x.toNat=y.toNat
  · rw[if_pos aA] at ab
    by_cases ay:y.toNat=z.toNat
    · rw[if_pos ay] at ad;rw[if_pos (aA.trans ay)];exact Mh a b c ab ad
    · rw[if_neg ay] at ad;rw[if_neg (by omega)];simp at ad⊢;omega
  · rw[if_neg aA] at ab
    by_cases ay:y.toNat=z.toNat
    · rw[if_neg (by omega)];simp at ab⊢;omega
    · rw[if_neg ay] at ad;simp at ab ad;rw[if_neg (by omega)];simp;omega
def sa(l:List aF):Prop:=l.Pairwise λa b=>dB (wr a) (wr b)=true
theorem Mi{t:aF}:∀{l:List aF},sa l->sa (h6 t l)
 |[],_=>List.pairwise_singleton ..
 |x::l,h=>by
  unfold sa at h⊢
  have h0:=h
  rw[List.pairwise_cons] at h
  rw[h6]
  by_cases ab:dB (wr x) (wr t)=true
  · rw[if_pos ab,List.pairwise_cons]
    refine⟨λb ae=>?_,Mi h.2⟩
    rcases FN ae with rfl|ae
    · exact ab
    · exact h.1 b ae
  rw[if_neg ab]
  by_cases ad:wr x=wr t
  · rw[if_pos ad];exact h0
  rw[if_neg ad,List.pairwise_cons]
  have ar:dB (wr t) (wr x)=true:=by
   cases e:dB (wr t) (wr x) with
   |true=>rfl
   |false=>exact absurd (Fq _ _ (by simpa using ab) e) ad
  refine⟨λb ae=>?_,h0⟩
  rcases List.mem_cons.1 ae with rfl|ae
  · exact ar
  · exact Mh _ _ _ ar (h.1 b ae)
theorem Mj:∀(l a:List aF),sa a->sa (l.foldl (λa t=>h6 t a) a)
 |[],a,h=>h
 |t::l,a,h=>Mj l _ (Mi h)
theorem Mk{t:aF}:∀(l:List aF),l.length<=(h6 t l).length/\(h6 t l).length<=l.length+1/\0<(h6 t l).length
 |[]=>by simp[h6]
 |x::l=>by
  have:=Mk (t:=t) l
  rw[h6]
  split
  · simp only[List.length_cons];omega
  · split<;>simp only[List.length_cons]<;>omega
theorem yV:∀(l a:List aF),a.length<=(l.foldl (λa t=>h6 t a) a).length/\(l.foldl (λa t=>h6 t a) a).length<=a.length+l.length/\(0<l.length->0<(l.foldl (λa t=>h6 t a) a).length)
 |[],a=>⟨Nat.le_refl _,Nat.le_add_right ..,λh=>absurd h (by simp)⟩
 |t::l,a=>by
  obtain⟨ab,ad,ar⟩:=yV l (h6 t a)
  have:=Mk (t:=t) a
  simp only[List.foldl_cons,List.length_cons]
  exact⟨by omega,by omega,λ_=>by omega⟩
theorem Ml:∀(p:Option a5) (l:List aF),sa l->(∀t∈l,t.k≠9/\t.k≠1)->(∀t,l[0]? =some t->l1 p (wr t)=true)->kA p (l.map aF.k) (cn l)=true
 |_,[],_,_,_=>by rw[cn];rfl
 |p,t::l,h,aq,aO=>by
  unfold sa at h
  rw[List.pairwise_cons] at h
  rw[List.map_cons,cn]
  have ab:=aq t (List.mem_cons_self ..)
  have a6:=Ml (some (wr t)) l h.2 (λu hu=>aq u (List.mem_cons_of_mem _ hu)) λu hu=>h.1 u (List.mem_of_getElem? hu)
  unfold kA
  rw[a6,aO t rfl]
  simp[ab.1,ab.2]
theorem XS{t u:aF}(h:dY t=true)(aq:t.k=9)(hu:u∈t.xs):u.k≠9/\u.k≠1:=by
 obtain⟨k,nm,ns,xs,rt⟩:=t
 obtain rfl:k=9:=aq
 rw[mM,eL] at h
 simp only[Bool.and_eq_true] at h
 have mf:u∈xs:=hu
 have ab:kA none (xs.map aF.k) (cn xs)=true/\2<=xs.length:=by simpa using h.2.2.2
 clear h
 have key:∀(p:Option a5) (l:List aF),kA p (l.map aF.k) (cn l)=true->∀u∈l,u.k≠9/\u.k≠1:=by
  intro p l
  induction l generalizing p with
  |nil=>intro _ u hu;cases hu
  |cons x l a6=>
   intro h u hu
   rw[List.map_cons,cn] at h
   unfold kA at h
   simp only[Bool.and_eq_true] at h
   rcases List.mem_cons.1 hu with rfl|hu
   · simpa using h.1
   · exact a6 _ h.2.2 u hu
 exact key none xs ab.1 u mf
theorem XT{t:aF}(h:dY t=true)(aq:t.k=9):2<=t.xs.length:=by
 obtain⟨k,nm,ns,xs,rt⟩:=t
 obtain rfl:k=9:=aq
 rw[mM,eL] at h
 simp only[Bool.and_eq_true] at h
 have ab:kA none (xs.map aF.k) (cn xs)=true/\2<=xs.length:=by simpa using h.2.2.2
 exact ab.2
theorem Mm{u:aF}:∀{l f:List aF},(∀t∈l,dg (some t)=0)->g7 l=some f->u∈f->u.k≠9/\u.k≠1
 |[],f,_,h,hu=>by cases h;cases hu
 |t::l,f,aw,h,hu=>by
  rw[g7] at h
  have ab:=(kE.1 (aw t (List.mem_cons_self ..))).2
  split at h
  · cases h
  · rename_i XU
    cases e:g7 l with
    |none=>rw[e] at h;cases h
    |some r=>
     rw[e] at h
     cases h
     rcases List.mem_append.1 hu with hu|hu
     · split at hu
       · rename_i yW;exact XS ab yW hu
       · rename_i yW
         obtain rfl:u=t:=by simpa using hu
         exact⟨yW,XU⟩
     · exact Mm (λt a_=>aw t (List.mem_cons_of_mem _ a_)) e hu
theorem Mn{l f:List aF}(aw:∀t∈l,dg (some t)=0)(h0:0<l.length)(h:g7 l=some f):0<f.length:=by
 cases l with
 |nil=>exact absurd h0 (by simp)
 |cons t l=>
  rw[g7] at h
  have ab:=(kE.1 (aw t (List.mem_cons_self ..))).2
  split at h
  · cases h
  · cases e:g7 l with
    |none=>rw[e] at h;cases h
    |some r=>
     rw[e] at h
     cases h
     rw[List.length_append]
     split
     · rename_i yW;have:=XT ab yW;omega
     · simp;omega
theorem FW:∀{l f:List aF},(∀t∈l,dg (some t)=0)->g7 l=some f->f.length<=60*l.length/\cY f<=60*l.length
 |[],f,_,h=>by cases h;exact⟨Nat.le_refl _,by rw[cY];exact Nat.zero_le _⟩
 |t::l,f,aw,h=>by
  rw[g7] at h
  have ab:=(kE.1 (aw t (List.mem_cons_self ..))).1
  split at h
  · cases h
  · cases e:g7 l with
    |none=>rw[e] at h;cases h
    |some r=>
     rw[e] at h
     cases h
     have a6:=FW (λt a_=>aw t (List.mem_cons_of_mem _ a_)) e
     have ad:cY (if t.k=9 then t.xs else[t])<=60:=by
      split
      · obtain⟨k,nm,ns,xs,rt⟩:=t
        rw[mL] at ab
        show cY xs<=60
        omega
      · rw[cY,cY];omega
     have key:∀a b:List aF,cY (a++b)=cY a+cY b:=by
      intro a b
      induction a with
      |nil=>rw[cY,List.nil_append];omega
      |cons x a a6=>rw[List.cons_append,cY,a6,cY];omega
     have ar:=nD (if t.k=9 then t.xs else[t])
     rw[List.length_append,List.length_cons,key]
     omega
theorem Mo{l f:List aF}(h:∀t∈l,dg (some t)=0)(h0:0<l.length)(hf:g7 l=some f)(ab:(eI f).length≠1):dY (.mk 9 [] [] (eI f) none)=true:=by
 have hu:sa (eI f):=Mj f [] List.Pairwise.nil
 have aO:=(yV f []).2.2 (Mn h h0 hf)
 have aO:0<(eI f).length:=aO
 have hm:∀t∈eI f,t∈f:=λt a_=>by
  rcases yS f [] a_ with h|h
  · exact h
  · cases h
 have ag:∀t∈eI f,dg (some t)=0:=λt a_=>by
  rcases BC hf (hm t a_) with hm|⟨x,ab,ad⟩
  · exact h t hm
  · exact tT (h x ab) ad
 rw[mM,FV ag,eL,Ml none _ hu (λt a_=>Mm h hf (hm t a_)) λt _=>rfl]
 have:2<=(eI f).length:=by omega
 simp[hQ,dF,this]
theorem rec_eq{l:List aF}(h:∀t∈l,dg (some t)=0)(ar:l.length<=3):FK l=if sz (.mk 7 [] (fY.take l.length) l none)<=60 then .mk 7 [] (fY.take l.length) l none else pD:=yU (XR h ar)
end Go.Proofs.dj
