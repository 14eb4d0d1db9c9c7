/-
  PROVED HERE: contracts of functions (Dh). No condition beside each statement's own.
-/
import Derived.Test.YtjkomfonmcmgdaaGreatDoorDc
import Derived.Test.YtjkomfonmcmgdaaGreatDoorDf
set_option linter.unusedVariables false
set_option linter.unusedSimpArgs false
namespace Go.Proofs.dj
open Go aP Go.Proofs c8 Go.Proofs.cG
set_option maxRecDepth 100000
set_option maxHeartbeats 1000000
structure e_ where
 left:a5
 nodes:Nat
def c6(n:Nat)(m:e_):Nat×e_:=match m.left with
 |[]=>(0,m)
 |c::l=>(c.toNat %n,⟨l,m.nodes⟩)
def p3:aE:=.mk 2 [] [] [] none
def F9:aE:=.mk 1 [] [] [] none
def p4(t:aE):aE:=if dm (some t)=0 then t else p3
def gg:List a5:=[[97],[98],[99]]
def F_(l:List aE):aE:=p4 (.mk 7 [] (gg.take l.length) l none)
def B2:List aE->aE
 |[]=>p3
 |x::l=>p4 (.mk 8 [] [] l (some x))
def hd:List aE->Option (List aE)
 |[]=>some []
 |t::l=>if t.k=1 then none else(hd l).map λr=>(if t.k=9 then t.xs else[t])++r
def ie(t:aE):List aE->List aE
 |[]=>[t]
 |x::l=>if dF (wr x) (wr t)=true then x::ie t l else if wr x=wr t then x::l else t::x::l
def eP(l:List aE):List aE:=l.foldl (λa t=>ie t a) []
def m8(l:List aE):aE:=match hd l with
 |none=>F9
 |some f=>match eP f with
  |[t]=>t
  |out=>p4 (.mk 9 [] [] out none)
def wD(n:Nat):a5:=if n=0 then[109,46,84] else[109,46,85]
def fO(k:Nat)(l:List aE)(m:e_):aE×e_:=
 if k=6 then(.mk 6 (wD (c6 2 m).1) [] [] none,(c6 2 m).2) else if k=7 then(F_ l,m) else if k=8 then(B2 l,m) else if k=9 then(m8 l,m) else(.mk k [] [] [] none,m)
def hK(f:e_->aE×e_):Nat->e_->List aE×e_
 |0,m=>([],m)
 |n+1,m=>((f m).1::(hK f n (f m).2).1,(hK f n (f m).2).2)
def eC:Nat->e_->aE×e_
 |0,m=>
  let a:=c6 9 ⟨m.left,m.nodes+1⟩
  let b:=c6 5 a.2
  let c:=c6 3 b.2
  fO (1+b.1) [] c.2
 |d+1,m=>
  let a:=c6 9 ⟨m.left,m.nodes+1⟩
  let b:=if 40<m.nodes+1 then c6 5 a.2 else a
  let c:=c6 3 b.2
  let l:=if 7<=1+b.1 then hK (eC d) (c.1+1) c.2 else([],c.2)
  fO (1+b.1) l.1 l.2
def gD(s:a5):aE:=(eC 3 ⟨s.take (min s.length 60),0⟩).1
theorem Ga(t:aE):dm (some (p4 t))=0:=by
 unfold p4
 by_cases h:dm (some t)=0
 · rw[if_pos h,h]
 · rw[if_neg h];decide+kernel
theorem Gb(k:Nat)(ab:1<=k)(ad:k<=5):dm (some (.mk k [] [] [] none))=0:=by
 have:k=1\/k=2\/k=3\/k=4\/k=5:=by omega
 rcases this with rfl|rfl|rfl|rfl|rfl<;>decide+kernel
theorem Ym(n:Nat):dm (some (.mk 6 (wD n) [] [] none))=0:=by
 unfold wD
 split<;>decide+kernel
theorem uA{t u:aE}(h:dm (some t)=0)(hu:u∈t.xs):dm (some u)=0:=by
 obtain⟨k,nm,ns,xs,rt⟩:=t
 have mD:u∈xs:=hu
 simp only[dm] at h⊢
 split at h
 · cases h
 · rename_i cu
   split at h
   · rename_i hm
     rw[m3] at hm
     simp only[Bool.and_eq_true] at hm
     have ab:=yS hm.2.2.1 mD
     have ad:=oH mD
     rw[mf] at cu
     rw[if_neg (by omega),if_pos ab]
   · cases h
theorem Gc{t u:aE}:∀{l:List aE},u∈ie t l->u=t\/u∈l
 |[],h=>by simpa[ie] using h
 |x::l,h=>by
  rw[ie] at h
  split at h
  · rcases List.mem_cons.1 h with rfl|h
    · exact .inr (List.mem_cons_self ..)
    · rcases Gc h with h|h
      · exact .inl h
      · exact .inr (List.mem_cons_of_mem _ h)
  · split at h
    · exact .inr h
    · rcases List.mem_cons.1 h with h|h
      · exact .inl h
      · exact .inr h
theorem zg{u:aE}:∀(l a:List aE),u∈l.foldl (λa t=>ie t a) a->u∈l\/u∈a
 |[],a,h=>.inr h
 |t::l,a,h=>by
  rcases zg l _ h with h|h
  · exact .inl (List.mem_cons_of_mem _ h)
  · rcases Gc h with rfl|h
    · exact .inl (List.mem_cons_self ..)
    · exact .inr h
theorem B3{u:aE}:∀{l f:List aE},hd l=some f->u∈f->u∈l\/∃t∈l,u∈t.xs
 |[],f,h,hu=>by cases h;cases hu
 |t::l,f,h,hu=>by
  rw[hd] at h
  split at h
  · cases h
  · cases e:hd l with
    |none=>rw[e] at h;cases h
    |some r=>
     rw[e] at h
     cases h
     rcases List.mem_append.1 hu with hu|hu
     · split at hu
       · exact .inr ⟨t,List.mem_cons_self ..,hu⟩
       · obtain rfl:u=t:=by simpa using hu
         exact .inl (List.mem_cons_self ..)
     · rcases B3 e hu with h|⟨x,ab,ad⟩
       · exact .inl (List.mem_cons_of_mem _ h)
       · exact .inr ⟨x,List.mem_cons_of_mem _ ab,ad⟩
theorem Yn{l:List aE}(h:∀t∈l,dm (some t)=0):dm (some (m8 l))=0:=by
 unfold m8
 cases e:hd l with
 |none=>exact Gb 1 (by omega) (by omega)
 |some f=>
  simp only
  split
  · rename_i t ba
    have hm:t∈eP f:=by rw[ba];exact List.mem_cons_self ..
    rcases zg f [] hm with hm|hm
    · rcases B3 e hm with hm|⟨x,ab,ad⟩
      · exact h t hm
      · exact uA (h x ab) ad
    · cases hm
  · exact Ga _
theorem MI{k:Nat}{l:List aE}(m:e_)(ab:1<=k)(ad:k<=9)(h:∀t∈l,dm (some t)=0):dm (some (fO k l m).1)=0:=by
 unfold fO
 by_cases cu:k=6
 · rw[if_pos cu];exact Ym _
 rw[if_neg cu]
 by_cases dg:k=7
 · rw[if_pos dg];exact Ga _
 rw[if_neg dg]
 by_cases hB:k=8
 · rw[if_pos hB]
   show dm (some (B2 l))=0
   cases l with
   |nil=>exact Gb 2 (by omega) (by omega)
   |cons x l=>exact Ga _
 rw[if_neg hB]
 by_cases g3:k=9
 · rw[if_pos g3];exact Yn h
 rw[if_neg g3]
 exact Gb k ab (by omega)
theorem Gd{f:e_->aE×e_}(P:aE->Prop)(h:∀m,P (f m).1):∀n m,∀t∈(hK f n m).1,P t
 |0,m,t,ba=>by cases ba
 |n+1,m,t,ba=>by
  rcases List.mem_cons.1 ba with rfl|ba
  · exact h m
  · exact Gd P h n _ t ba
theorem n2{n:Nat}(h:0<n)(m:e_):(c6 n m).1<n:=by
 unfold c6
 split
 · exact h
 · exact Nat.mod_lt _ h
theorem Ge:∀d m,dm (some (eC d m).1)=0
 |0,m=>by
  rw[eC]
  refine MI _ (by omega) ?_ (λt ba=>by cases ba)
  have:=n2 (n:=5) (by omega) (c6 9 ⟨m.left,m.nodes+1⟩).2
  omega
 |d+1,m=>by
  rw[eC]
  refine MI _ (by omega) ?_ ?_
  · split
    · have:=n2 (n:=5) (by omega) (c6 9 ⟨m.left,m.nodes+1⟩).2
      omega
    · have:=n2 (n:=9) (by omega) ⟨m.left,m.nodes+1⟩
      omega
  · have key:∀(c:Prop) [Decidable c] (n:Nat) (jW:e_),∀t∈(if c then hK (eC d) n jW else([],jW)).1,dm (some t)=0:=by
      intro c _ n jW t ba
      split at ba
      · exact Gd (λt=>dm (some t)=0) (Ge d) _ _ t ba
      · cases ba
    exact key _ _ _
theorem MJ(s:a5):dm (some (gD s))=0:=Ge 3 _
end Go.Proofs.dj
namespace Go.Proofs.dj
open Go aP Go.Proofs c8 Go.Proofs.cG
set_option maxRecDepth 100000
set_option maxHeartbeats 1000000
structure ca where
 id:Nat
 k:Nat
 nm:a5
 ns:List a5
 args:List Nat
 ret:Nat
 pins:Nat
 used:Nat
structure cm where
 cap:Nat
 given:Nat
 clock:Nat
 l:List ca
def ca.parts(e:ca):List Nat:=e.ret::e.args
def ca.is(k:Nat)(nm:a5)(ns:List a5)(az:List Nat)(r:Nat)(e:ca):Bool:=decide (e.k=k)&&(decide (e.nm=nm)&&(decide (e.ns=ns)&&(decide (e.args=az)&&decide (e.ret=r))))
def lh(id c:Nat)(e:ca):ca:=if e.id=id then{e with used:=c} else e
def jA(k:Nat)(nm:a5)(ns:List a5)(az:List Nat)(r:Nat)(s:cm):Nat×cm:=match s.l.find? (ca.is k nm ns az r) with
 |some e=>(e.id,{s with clock:=s.clock+1,l:=s.l.map (lh e.id (s.clock+1))})
 |none=>(s.given+1,{s with given:=s.given+1,clock:=s.clock+1,l:=s.l++[⟨s.given+1,k,nm,ns,az,r,0,s.clock+1⟩]})
mutual
def cD:aE->cm->Nat×cm
 |.mk k nm ns xs rt,s=>jA k nm ns (cX xs s).1 (gL rt (cX xs s).2).1 (gL rt (cX xs s).2).2
def cX:List aE->cm->List Nat×cm
 |[],s=>([],s)
 |t::ck,s=>((cD t s).1::(cX ck (cD t s).2).1,(cX ck (cD t s).2).2)
def gL:Option aE->cm->Nat×cm
 |none,s=>(0,s)
 |some t,s=>cD t s
end
def eA(id:Nat):List ca->Nat
 |[]=>0
 |e::l=>e.parts.count id+eA id l
def p5(l:List ca)(e:ca):Bool:=Nat.beq e.pins 0&&Nat.beq (eA e.id l) 0
def ig(l:List ca):List ca->Option ca
 |[]=>none
 |e::m=>match ig l m with
  |none=>if p5 l e then some e else none
  |some b=>if p5 l e&&Nat.blt e.used b.used then some e else some b
def hL(id:Nat)(l:List ca):List ca:=l.filter λe=>!Nat.beq e.id id
def h3(cap:Nat):Nat->List ca->List ca
 |0,l=>l
 |n+1,l=>if cap<l.length then match ig l l with
   |none=>l
   |some e=>h3 cap n (hL e.id l)
  else l
def n3(s:cm):cm:={s with l:=h3 s.cap s.l.length s.l}
def iC(id:Nat)(e:ca):ca:=if e.id=id then{e with pins:=e.pins+1} else e
def kk(id:Nat)(e:ca):ca:=if e.id=id then{e with pins:=e.pins-1} else e
def eg(t:aE)(s:cm):Nat×cm:=((cD t s).1,n3 {(cD t s).2 with l:=(cD t s).2.l.map (iC (cD t s).1)})
def oT(id:Nat)(l:List ca):Option ca:=l.find? λe=>Nat.beq e.id id
def jc(id:Nat)(s:cm):Nat×cm:=match oT id s.l with
 |none=>(5,s)
 |some e=>if e.pins=0 then(2,s) else(0,n3 {s with l:=s.l.map (kk id)})
structure dw(s:cm):Prop where
 up:s.l.Pairwise (λa b=>a.id<b.id)
 aO:∀e∈s.l,0<e.id/\e.id<=s.given/\e.used<=s.clock
 part:∀e∈s.l,∀i∈e.parts,i=0\/(i<e.id/\∃p∈s.l,p.id=i)
 one:∀a∈s.l,∀b∈s.l,a.used=b.used->a.id=b.id
 apart:s.l.Pairwise (λa b=>b.is a.k a.nm a.ns a.args a.ret=false)
theorem B4{id:Nat}:∀{l:List ca},eA id l=0<-> ∀e∈l,id∉e.parts
 |[]=>by simp[eA]
 |e::l=>by
  rw[eA]
  constructor
  · intro h x aa
    rcases List.mem_cons.1 aa with rfl|aa
    · exact List.count_eq_zero.1 (by omega)
    · exact B4.1 (by omega) x aa
  · intro h
    rw[List.count_eq_zero.2 (h e (List.mem_cons_self ..)),B4.2 λx aa=>h x (List.mem_cons_of_mem _ aa)]
theorem sB{l:List ca}{e:ca}:p5 l e=true<->e.pins=0/\∀x∈l,e.id∉x.parts:=by
 unfold p5
 rw[Bool.and_eq_true,Nat.beq_eq,Nat.beq_eq,B4]
theorem wE{l:List ca}:∀{m:List ca},ig l m=none<-> ∀e∈m,p5 l e=false
 |[]=>by simp[ig]
 |e::m=>by
  rw[ig]
  have a7:=wE (l:=l) (m:=m)
  cases ae:ig l m with
  |none=>
   have:=a7.1 ae
   cases he:p5 l e with
   |true=>simp[he]
   |false=>
    simp only[he]
    constructor
    · intro _ x aa
      rcases List.mem_cons.1 aa with rfl|aa
      · exact he
      · exact this x aa
    · intro _;rfl
  |some b=>
   constructor
   · intro h
     simp only at h
     split at h<;>cases h
   · intro h
     have:=a7.2 λx aa=>h x (List.mem_cons_of_mem _ aa)
     rw[ae] at this;cases this
theorem sC{l:List ca}:∀{m:List ca} {b:ca},ig l m=some b->b∈m/\p5 l b=true/\∀e∈m,p5 l e=true->b.used<=e.used
 |[],b,h=>by cases h
 |e::m,b,h=>by
  rw[ig] at h
  cases ae:ig l m with
  |none=>
   rw[ae] at h
   simp only at h
   split at h
   · rename_i he
     cases h
     refine⟨List.mem_cons_self ..,he,λx aa aw=>?_⟩
     rcases List.mem_cons.1 aa with rfl|aa
     · exact Nat.le_refl _
     · rw[wE.1 ae x aa] at aw;cases aw
   · cases h
  |some c=>
   rw[ae] at h
   simp only at h
   obtain⟨bH,bY,eb⟩:=sC ae
   split at h
   · rename_i he
     cases h
     rw[Bool.and_eq_true] at he
     have cd:=Nat.blt_eq▸he.2
     refine⟨List.mem_cons_self ..,he.1,λx aa aw=>?_⟩
     rcases List.mem_cons.1 aa with rfl|aa
     · exact Nat.le_refl _
     · have:=eb x aa aw;omega
   · rename_i he
     cases h
     refine⟨List.mem_cons_of_mem _ bH,bY,λx aa aw=>?_⟩
     rcases List.mem_cons.1 aa with rfl|aa
     · rw[aw,Bool.true_and] at he
       have:¬x.used<b.used:=by simpa[Nat.blt_eq] using he
       omega
     · exact eb x aa aw
theorem m9{id:Nat}{l:List ca}{e:ca}:e∈hL id l<->e∈l/\e.id≠id:=by
 unfold hL
 rw[List.mem_filter]
 refine and_congr Iff.rfl ?_
 cases ae:Nat.beq e.id id with
 |true=>simp[Nat.eq_of_beq_eq_true ae]
 |false=>
  constructor
  · intro _ h;rw[h,Nat.beq_refl] at ae;cases ae
  · intro _;rfl
theorem dw.drop{s:cm}(h:dw s){id:Nat}(aw:∀x∈s.l,id∉x.parts):dw {s with l:=hL id s.l}:=by
 refine⟨h.up.filter _,λe he=>h.aO e (m9.1 he).1,λe he i af=>?_,λa aT b ae=>h.one a (m9.1 aT).1 b (m9.1 ae).1,h.apart.filter _⟩
 obtain⟨ab,ad⟩:=m9.1 he
 rcases h.part e ab i af with h0|⟨ar,p,aG,bJ⟩
 · exact .inl h0
 · refine .inr ⟨ar,p,m9.2 ⟨aG,λcF=>?_⟩,bJ⟩
   exact aw e ab (by rw[<-cF,bJ];exact af)
theorem Gf{s:cm}:∀(n:Nat) (l:List ca),dw {s with l:=l}->dw {s with l:=h3 s.cap n l}
 |0,l,h=>h
 |n+1,l,h=>by
  rw[h3]
  split
  · cases ae:ig l l with
    |none=>exact h
    |some e=>
     obtain⟨_,ad,_⟩:=sC ae
     exact Gf n _ (dw.drop h (sB.1 ad).2)
  · exact h
theorem dw.least{s:cm}(h:dw s)(aK:∀e∈s.l,e.pins=0)(aw:s.l≠[]):ig s.l s.l≠none:=by
 intro ae
 have ae:=wE.1 ae
 obtain⟨m,hm⟩:∃m,s.l.getLast?=some m:=by
  cases e:s.l.getLast? with
  |none=>exact absurd (List.getLast?_eq_none_iff.1 e) aw
  |some m=>exact⟨m,rfl⟩
 obtain⟨ys,MK⟩:=List.getLast?_eq_some_iff.1 hm
 have h8:m∈s.l:=List.mem_of_getLast? hm
 have wF:=h.up
 rw[MK,List.pairwise_append] at wF
 have:p5 s.l m=true:=sB.2 ⟨aK m h8,λx aa af=>by
  rcases h.part x aa _ af with h0|⟨ab,_⟩
  · have:=(h.aO m h8).1;omega
  · rw[MK] at aa
    rcases List.mem_append.1 aa with aa|aa
    · have:=wF.2.2 x aa m (List.mem_singleton.2 rfl);omega
    · obtain rfl:x=m:=by simpa using aa
      omega⟩
 rw[ae m h8] at this;cases this
end Go.Proofs.dj
namespace Go.Proofs.dj
open Go aP Go.Proofs c8 Go.Proofs.cG
set_option maxRecDepth 100000
set_option maxHeartbeats 1000000
theorem p6{e:ca}{k:Nat}{nm:a5}{ns:List a5}{az:List Nat}{r:Nat}:e.is k nm ns az r=true<->e.k=k/\e.nm=nm/\e.ns=ns/\e.args=az/\e.ret=r:=by
 simp[ca.is]
theorem ML(a b:ca):b.is a.k a.nm a.ns a.args a.ret=a.is b.k b.nm b.ns b.args b.ret:=by
 apply Bool.eq_iff_iff.2
 rw[p6,p6]
 constructor<;>rintro⟨ab,ad,ar,aG,bJ⟩<;>exact⟨ab.symm,ad.symm,ar.symm,aG.symm,bJ.symm⟩
structure Alike(a b:ca):Prop where
 id:a.id=b.id
 k:a.k=b.k
 nm:a.nm=b.nm
 ns:a.ns=b.ns
 args:a.args=b.args
 ret:a.ret=b.ret
 pins:a.pins=b.pins
theorem Alike.refl(a:ca):Alike a a:=⟨rfl,rfl,rfl,rfl,rfl,rfl,rfl⟩
theorem Alike.trans{a b c:ca}(h:Alike a b)(an:Alike b c):Alike a c:=⟨h.1.trans an.1,h.2.trans an.2,h.3.trans an.3,h.4.trans an.4,h.5.trans an.5,h.6.trans an.6,h.7.trans an.7⟩
theorem Alike.parts{a b:ca}(h:Alike a b):a.parts=b.parts:=by unfold ca.parts;rw[h.ret,h.args]
theorem B5(id c:Nat)(e:ca):Alike (lh id c e) e:=by
 unfold lh
 split
 · exact⟨rfl,rfl,rfl,rfl,rfl,rfl,rfl⟩
 · exact Alike.refl e
theorem Yo(id c:Nat)(e:ca):(lh id c e).used=if e.id=id then c else e.used:=by
 unfold lh
 split<;>rfl
structure lI(s bc:cm):Prop where
 cap:bc.cap=s.cap
 given:s.given<=bc.given
 old:∀e∈s.l,∃q∈bc.l,Alike q e
 new:∀q∈bc.l,(∃e∈s.l,Alike q e)\/(s.given<q.id/\q.pins=0)
theorem lI.refl(s:cm):lI s s:=⟨rfl,Nat.le_refl _,λe he=>⟨e,he,Alike.refl e⟩,λq aM=>.inl ⟨q,aM,Alike.refl q⟩⟩
theorem lI.trans{a b c:cm}(h:lI a b)(an:lI b c):lI a c:=by
 refine⟨an.cap.trans h.cap,Nat.le_trans h.given an.given,λe he=>?_,λq aM=>?_⟩
 · obtain⟨x,aa,ab⟩:=h.old e he
   obtain⟨y,aS,ad⟩:=an.old x aa
   exact⟨y,aS,ad.trans ab⟩
 · rcases an.new q aM with⟨x,aa,ab⟩|⟨ab,ad⟩
   · rcases h.new x aa with⟨y,aS,ad⟩|⟨ad,ar⟩
     · exact .inl ⟨y,aS,ab.trans ad⟩
     · exact .inr ⟨by rw[ab.id];exact ad,by rw[ab.pins];exact ar⟩
   · exact .inr ⟨by have:=h.given;omega,ad⟩
def Has(s:cm)(i:Nat):Prop:=∃p∈s.l,p.id=i
theorem Has.p7{s bc:cm}(h:lI s bc){i:Nat}(af:Has s i):Has bc i:=by
 obtain⟨p,aK,rfl⟩:=af
 obtain⟨q,aM,ab⟩:=h.old p aK
 exact⟨q,aM,ab.id⟩
theorem Gg{l:List ca}(h:l.Pairwise (λa b=>a.id<b.id)){a b:ca}(aT:a∈l)(ae:b∈l)(e:a.id=b.id):a=b:=by
 induction l with
 |nil=>cases aT
 |cons x l a7=>
  rw[List.pairwise_cons] at h
  rcases List.mem_cons.1 aT with ab|ab
  · rcases List.mem_cons.1 ae with ad|ad
    · rw[ab,ad]
    · have:=h.1 b ad;rw[ab] at e;omega
  · rcases List.mem_cons.1 ae with ad|ad
    · have:=h.1 a ab;rw[ad] at e;omega
    · exact a7 h.2 ab ad
theorem MM{s:cm}(h:dw s){k:Nat}{nm:a5}{ns:List a5}{az:List Nat}{r:Nat}(aK:∀i∈r::az,i=0\/Has s i):dw (jA k nm ns az r s).2/\lI s (jA k nm ns az r s).2/\Has (jA k nm ns az r s).2 (jA k nm ns az r s).1:=by
 unfold jA
 cases hf:s.l.find? (ca.is k nm ns az r) with
 |some e=>
  simp only
  have he:=List.mem_of_find?_eq_some hf
  have T:=B5 e.id (s.clock+1)
  have U:=Yo e.id (s.clock+1)
  refine⟨⟨?_,?_,?_,?_,?_⟩,⟨rfl,Nat.le_refl _,λx aa=>⟨_,List.mem_map.2 ⟨x,aa,rfl⟩,T x⟩,λq aM=>?_⟩,⟨_,List.mem_map.2 ⟨e,he,rfl⟩,(T e).id⟩⟩
  · rw[List.pairwise_map]
    exact h.up.imp λ{a b} fc=>by rw[(T a).id,(T b).id];exact fc
  · intro q aM
    obtain⟨x,aa,rfl⟩:=List.mem_map.1 aM
    obtain⟨ab,ad,ar⟩:=h.aO x aa
    rw[(T x).id,U x]
    refine⟨ab,ad,?_⟩
    split<;>simp only<;>omega
  · intro q aM i af
    obtain⟨x,aa,rfl⟩:=List.mem_map.1 aM
    rw[(T x).parts] at af
    rw[(T x).id]
    rcases h.part x aa i af with h0|⟨ab,p,ad,ar⟩
    · exact .inl h0
    · exact .inr ⟨ab,_,List.mem_map.2 ⟨p,ad,rfl⟩,by rw[(T p).id,ar]⟩
  · intro a aT b ae hu
    obtain⟨x,aa,rfl⟩:=List.mem_map.1 aT
    obtain⟨y,aS,rfl⟩:=List.mem_map.1 ae
    rw[(T x).id,(T y).id]
    rw[U x,U y] at hu
    have y9:=(h.aO x aa).2.2
    have adD:=(h.aO y aS).2.2
    by_cases aA:x.id=e.id
    · by_cases ay:y.id=e.id
      · rw[aA,ay]
      · rw[if_pos aA,if_neg ay] at hu;omega
    · by_cases ay:y.id=e.id
      · rw[if_neg aA,if_pos ay] at hu;omega
      · rw[if_neg aA,if_neg ay] at hu;exact h.one x aa y aS hu
  · rw[List.pairwise_map]
    refine h.apart.imp λ{a b} fc=>?_
    rw[(T a).k,(T a).nm,(T a).ns,(T a).args,(T a).ret]
    cases ag:(lh e.id (s.clock+1) b).is a.k a.nm a.ns a.args a.ret with
    |false=>rfl
    |true=>
     obtain⟨aH,a9,du,gW,n0⟩:=p6.1 ag
     rw[(T b).k] at aH
     rw[(T b).nm] at a9
     rw[(T b).ns] at du
     rw[(T b).args] at gW
     rw[(T b).ret] at n0
     rw[p6.2 ⟨aH,a9,du,gW,n0⟩] at fc;cases fc
  · obtain⟨x,aa,rfl⟩:=List.mem_map.1 aM
    exact .inl ⟨x,aa,T x⟩
 |none=>
  simp only
  have aN:=List.find?_eq_none.1 hf
  refine⟨⟨?_,?_,?_,?_,?_⟩,⟨rfl,by simp only;omega,λx aa=>⟨x,List.mem_append_left _ aa,Alike.refl x⟩,λq aM=>?_⟩,⟨_,List.mem_append_right _ (List.mem_singleton.2 rfl),rfl⟩⟩
  · rw[List.pairwise_append]
    refine⟨h.up,List.pairwise_singleton ..,λa aT b ae=>?_⟩
    obtain rfl:=List.mem_singleton.1 ae
    have:=(h.aO a aT).2.1
    simp only;omega
  · intro q aM
    rcases List.mem_append.1 aM with aM|aM
    · obtain⟨ab,ad,ar⟩:=h.aO q aM
      exact⟨ab,by simp only;omega,by simp only;omega⟩
    · obtain rfl:=List.mem_singleton.1 aM
      exact⟨by simp only;omega,Nat.le_refl _,Nat.le_refl _⟩
  · intro q aM i af
    rcases List.mem_append.1 aM with aM|aM
    · rcases h.part q aM i af with h0|⟨ab,p,ad,ar⟩
      · exact .inl h0
      · exact .inr ⟨ab,p,List.mem_append_left _ ad,ar⟩
    · obtain rfl:=List.mem_singleton.1 aM
      rcases aK i af with h0|⟨p,ad,ar⟩
      · exact .inl h0
      · refine .inr ⟨?_,p,List.mem_append_left _ ad,ar⟩
        have:=(h.aO p ad).2.1
        simp only;omega
  · intro a aT b ae hu
    rcases List.mem_append.1 aT with aT|aT
    · rcases List.mem_append.1 ae with ae|ae
      · exact h.one a aT b ae hu
      · obtain rfl:=List.mem_singleton.1 ae
        have:=(h.aO a aT).2.2
        simp only at hu;omega
    · obtain rfl:=List.mem_singleton.1 aT
      rcases List.mem_append.1 ae with ae|ae
      · have:=(h.aO b ae).2.2
        simp only at hu;omega
      · obtain rfl:=List.mem_singleton.1 ae
        rfl
  · rw[List.pairwise_append]
    refine⟨h.apart,List.pairwise_singleton ..,λa aT b ae=>?_⟩
    obtain rfl:=List.mem_singleton.1 ae
    rw[ML]
    simpa using aN a aT
  · rcases List.mem_append.1 aM with aM|aM
    · exact .inl ⟨q,aM,Alike.refl q⟩
    · obtain rfl:=List.mem_singleton.1 aM
      exact .inr ⟨by simp only;omega,rfl⟩
mutual
theorem m_:∀(t:aE) {s:cm},dw s->dw (cD t s).2/\lI s (cD t s).2/\Has (cD t s).2 (cD t s).1
 |.mk k nm ns xs rt,s,h=>by
  obtain⟨ab,ai,eF⟩:=wG xs h
  obtain⟨ad,ax,fs⟩:=Gh rt ab
  rw[cD]
  obtain⟨ar,aB,jk⟩:=MM ad (k:=k) (nm:=nm) (ns:=ns) (az:=(cX xs s).1) (r:=(gL rt (cX xs s).2).1) λi af=>by
   rcases List.mem_cons.1 af with rfl|af
   · exact fs
   · exact .inr ((eF i af).p7 ax)
  exact⟨ar,(ai.trans ax).trans aB,jk⟩
theorem wG:∀(l:List aE) {s:cm},dw s->dw (cX l s).2/\lI s (cX l s).2/\∀i∈(cX l s).1,Has (cX l s).2 i
 |[],s,h=>by rw[cX];exact⟨h,lI.refl s,λi af=>by cases af⟩
 |t::l,s,h=>by
  obtain⟨ab,ai,eF⟩:=m_ t h
  obtain⟨ad,ax,fs⟩:=wG l ab
  rw[cX]
  refine⟨ad,ai.trans ax,λi af=>?_⟩
  rcases List.mem_cons.1 af with rfl|af
  · exact eF.p7 ax
  · exact fs i af
theorem Gh:∀(o:Option aE) {s:cm},dw s->dw (gL o s).2/\lI s (gL o s).2/\((gL o s).1=0\/Has (gL o s).2 (gL o s).1)
 |none,s,h=>by rw[gL];exact⟨h,lI.refl s,.inl rfl⟩
 |some t,s,h=>by
  obtain⟨ab,ai,eF⟩:=m_ t h
  rw[gL]
  exact⟨ab,ai,.inr eF⟩
end
end Go.Proofs.dj
namespace Go.Proofs.dj
open Go aP Go.Proofs c8 Go.Proofs.cG
set_option maxRecDepth 100000
set_option maxHeartbeats 1000000
structure zh(f:ca->ca):Prop where
 id:∀e,(f e).id=e.id
 parts:∀e,(f e).parts=e.parts
 used:∀e,(f e).used=e.used
 is:∀e k nm ns az r,(f e).is k nm ns az r=e.is k nm ns az r
 bA:∀e,(f e).k=e.k/\(f e).nm=e.nm/\(f e).ns=e.ns/\(f e).args=e.args/\(f e).ret=e.ret
theorem lJ(i:Nat):zh (iC i):=by
 refine⟨λe=>?_,λe=>?_,λe=>?_,λe k nm ns az r=>?_,λe=>?_⟩<;>unfold iC<;>split<;>first|rfl|exact⟨rfl,rfl,rfl,rfl,rfl⟩
theorem wH(i:Nat):zh (kk i):=by
 refine⟨λe=>?_,λe=>?_,λe=>?_,λe k nm ns az r=>?_,λe=>?_⟩<;>unfold kk<;>split<;>first|rfl|exact⟨rfl,rfl,rfl,rfl,rfl⟩
theorem dw.map{s:cm}(h:dw s){f:ca->ca}(F:zh f):dw {s with l:=s.l.map f}:=by
 refine⟨?_,?_,?_,?_,?_⟩
 · show(s.l.map f).Pairwise _
   rw[List.pairwise_map]
   exact h.up.imp λ{a b} fc=>by rw[F.id,F.id];exact fc
 · intro q aM
   obtain⟨x,aa,rfl⟩:=List.mem_map.1 aM
   rw[F.id,F.used]
   exact h.aO x aa
 · intro q aM i af
   obtain⟨x,aa,rfl⟩:=List.mem_map.1 aM
   rw[F.parts] at af
   rw[F.id]
   rcases h.part x aa i af with h0|⟨ab,p,ad,ar⟩
   · exact .inl h0
   · exact .inr ⟨ab,_,List.mem_map.2 ⟨p,ad,rfl⟩,by rw[F.id,ar]⟩
 · intro a aT b ae hu
   obtain⟨x,aa,rfl⟩:=List.mem_map.1 aT
   obtain⟨y,aS,rfl⟩:=List.mem_map.1 ae
   rw[F.used,F.used] at hu
   rw[F.id,F.id]
   exact h.one x aa y aS hu
 · show(s.l.map f).Pairwise _
   rw[List.pairwise_map]
   refine h.apart.imp λ{a b} fc=>?_
   obtain⟨ab,ad,ar,aG,bJ⟩:=F.bA a
   rw[ab,ad,ar,aG,bJ,F.is]
   exact fc
theorem zi(cap:Nat):∀(n:Nat) (l:List ca),∀e∈h3 cap n l,e∈l
 |0,l,e,h=>h
 |n+1,l,e,h=>by
  rw[h3] at h
  split at h
  · cases ae:ig l l with
    |none=>rw[ae] at h;exact h
    |some x=>rw[ae] at h;exact(m9.1 (zi cap n _ e h)).1
  · exact h
theorem Gi(cap:Nat):∀(n:Nat) (l:List ca),∀e∈l,(∀x∈l,x.id=e.id->x.pins≠0)->e∈h3 cap n l
 |0,l,e,h,_=>h
 |n+1,l,e,h,aK=>by
  rw[h3]
  split
  · cases ae:ig l l with
    |none=>exact h
    |some x=>
     obtain⟨ab,ad,_⟩:=sC ae
     refine Gi cap n _ e (m9.2 ⟨h,λcF=>aK x ab cF.symm (sB.1 ad).1⟩) λy aS=>aK y (m9.1 aS).1
  · exact h
theorem MN{l:List ca}{e:ca}(h:e∈l):(hL e.id l).length<l.length:=by
 unfold hL
 refine List.length_filter_lt_length_iff_exists.2 ⟨e,h,?_⟩
 simp[Nat.beq_refl]
theorem MO{s:cm}:∀(n:Nat) (l:List ca),dw {s with l:=l}->(∀e∈l,e.pins=0)->l.length<=n->h3 0 n l=[]
 |0,l,h,aK,aN=>List.length_eq_zero_iff.1 (by rw[h3];omega)
 |n+1,l,h,aK,aN=>by
  rw[h3]
  split
  · rename_i h0
    have aw:l≠[]:=by intro e;rw[e] at h0;simp at h0
    cases ae:ig l l with
    |none=>exact absurd ae (dw.least h aK aw)
    |some e=>
     obtain⟨ab,ad,_⟩:=sC ae
     have:=MN ab
     exact MO n _ (dw.drop h (sB.1 ad).2) (λx aa=>aK x (m9.1 aa).1) (by omega)
  · exact List.length_eq_zero_iff.1 (by omega)
theorem Yp(t:aE){s:cm}(h:dw s):dw (eg t s).2:=Gf _ _ ((m_ t h).1.map (lJ _))
theorem zj{i:Nat}{l:List ca}{e:ca}(h:oT i l=some e):e∈l/\e.id=i:=by
 refine⟨List.mem_of_find?_eq_some h,?_⟩
 have:=List.find?_some h
 exact Nat.eq_of_beq_eq_true this
theorem Yq(t:aE){s:cm}(h:dw s):∃e∈(eg t s).2.l,e.id=(eg t s).1/\e.pins≠0:=by
 obtain⟨ab,ai,p,aK,af⟩:=m_ t h
 have aq:=ab.map (lJ (cD t s).1)
 have pp:(iC (cD t s).1 p).pins≠0:=by unfold iC;rw[if_pos af];simp
 have pi:(iC (cD t s).1 p).id=(cD t s).1:=((lJ _).id p).trans af
 refine⟨iC (cD t s).1 p,Gi _ _ _ _ (List.mem_map.2 ⟨p,aK,rfl⟩) λx aa e=>?_,pi,pp⟩
 have:=Gg aq.up aa (List.mem_map.2 ⟨p,aK,rfl⟩) e
 rw[this];exact pp
theorem never(t:aE){s:cm}(h:dw s)(h0:s.l=[])(ag:s.cap=0):s.given<(eg t s).1/\(eg t s).1<=(eg t s).2.given/\(eg t s).2.cap=0/\(jc (eg t s).1 (eg t s).2).1=0/\(jc (eg t s).1 (eg t s).2).2.l=[]/\(jc (eg t s).1 (eg t s).2).2.cap=0/\(jc (eg t s).1 (eg t s).2).2.given=(eg t s).2.given:=by
 obtain⟨ab,ai,p,aK,af⟩:=m_ t h
 have iG:(cD t s).2.cap=0:=ai.cap.trans ag
 have MP:=Yp t h
 obtain⟨e,he,MQ,adE⟩:=Yq t h
 have sD:(eg t s).2.cap=0:=iG
 have new:∀q∈(cD t s).2.l,s.given<q.id/\q.pins=0:=λq aM=>by
  rcases ai.new q aM with⟨x,aa,_⟩|ad
  · rw[h0] at aa;cases aa
  · exact ad
 have aO:=MP.aO e he
 rw[MQ] at aO
 have pins:∀x∈(eg t s).2.l,x.pins=if x.id=(eg t s).1 then 1 else 0:=λx aa=>by
  obtain⟨y,aS,rfl⟩:=List.mem_map.1 (zi _ _ _ x aa)
  obtain⟨_,ar⟩:=new y aS
  have iJ:=(lJ (cD t s).1).id y
  show(iC (cD t s).1 y).pins=if(iC (cD t s).1 y).id=(cD t s).1 then 1 else 0
  rw[iJ]
  unfold iC
  split
  · show y.pins+1=1;omega
  · exact ar
 have hf:∃x,oT (eg t s).1 (eg t s).2.l=some x:=by
  cases aa:oT (eg t s).1 (eg t s).2.l with
  |some x=>exact⟨x,rfl⟩
  |none=>
   have:=List.find?_eq_none.1 aa e he
   rw[MQ] at this;simp[Nat.beq_refl] at this
 obtain⟨x,aa⟩:=hf
 obtain⟨bC,c0⟩:=zj aa
 have Yr:=pins x bC
 rw[if_pos c0] at Yr
 have c9:jc (eg t s).1 (eg t s).2=(0,n3 {(eg t s).2 with l:=(eg t s).2.l.map (kk (eg t s).1)}):=by
  unfold jc
  rw[aa]
  simp only
  rw[if_neg (by omega)]
 rw[c9]
 refine⟨?_,aO.2.1,sD,rfl,?_,sD,rfl⟩
 · show s.given<(cD t s).1
   have:=(new p aK).1
   omega
 · show h3 (eg t s).2.cap _ _=[]
   rw[sD]
   refine MO (s:=(eg t s).2) _ _ (MP.map (wH _)) (λq aM=>?_) (Nat.le_refl _)
   obtain⟨y,aS,rfl⟩:=List.mem_map.1 aM
   have hyp:=pins y aS
   unfold kk
   split
   · rename_i aG
     rw[if_pos aG] at hyp
     show y.pins-1=0;omega
   · rename_i aG
     rw[if_neg aG] at hyp
     exact hyp
end Go.Proofs.dj
namespace Go.Proofs.dj
open Go aP Go.Proofs c8 Go.Proofs.cG
set_option maxRecDepth 100000
set_option maxHeartbeats 1000000
mutual
def eI(l:List ca):Nat->aE->Prop
 |i,.mk k nm ns xs rt=>∃e∈l,e.id=i/\e.k=k/\e.nm=nm/\e.ns=ns/\jd l e.args xs/\lK l e.ret rt
def jd(l:List ca):List Nat->List aE->Prop
 |mo,[]=>mo=[]
 |mo,t::ck=>∃i ey,mo=i::ey/\eI l i t/\jd l ey ck
def lK(l:List ca):Nat->Option aE->Prop
 |r,none=>r=0
 |r,some t=>eI l r t
end
mutual
theorem eI.b8{l m:List ca}{Q:Nat->Prop}(h:∀e∈l,Q e.id->∃q∈m,q.id=e.id/\q.k=e.k/\q.nm=e.nm/\q.ns=e.ns/\q.args=e.args/\q.ret=e.ret)(aM:∀e∈l,Q e.id->∀i∈e.parts,i=0\/Q i)(h0:∀e∈l,e.id≠0):∀{t:aE} {i:Nat},Q i->eI l i t->eI m i t
 |.mk k nm ns xs rt,i,af,aj=>by
  rw[eI] at aj⊢
  obtain⟨e,he,rfl,ab,ad,ar,aG,bJ⟩:=aj
  obtain⟨q,hm,a8,a6,b4,fX,fI,zk⟩:=h e he af
  have aK:=aM e he af
  refine⟨q,hm,a8,a6.trans ab,b4.trans ad,fX.trans ar,?_,?_⟩
  · rw[fI];exact jd.b8 h aM h0 (λj aJ=>aK j (List.mem_cons_of_mem _ aJ)) aG
  · rw[zk];exact lK.b8 h aM h0 (aK _ (List.mem_cons_self ..)) bJ
theorem jd.b8{l m:List ca}{Q:Nat->Prop}(h:∀e∈l,Q e.id->∃q∈m,q.id=e.id/\q.k=e.k/\q.nm=e.nm/\q.ns=e.ns/\q.args=e.args/\q.ret=e.ret)(aM:∀e∈l,Q e.id->∀i∈e.parts,i=0\/Q i)(h0:∀e∈l,e.id≠0):∀{ck:List aE} {mo:List Nat},(∀j∈mo,j=0\/Q j)->jd l mo ck->jd m mo ck
 |[],mo,_,aj=>by rw[jd] at aj⊢;exact aj
 |t::ck,mo,aJ,aj=>by
  rw[jd] at aj⊢
  obtain⟨i,ey,rfl,ab,ad⟩:=aj
  refine⟨i,ey,rfl,?_,jd.b8 h aM h0 (λj gv=>aJ j (List.mem_cons_of_mem _ gv)) ad⟩
  rcases aJ i (List.mem_cons_self ..) with c9|af
  · obtain⟨k,nm,ns,xs,rt⟩:=t
    rw[eI] at ab
    obtain⟨e,he,ar,_⟩:=ab
    exact absurd (ar.trans c9) (h0 e he)
  · exact eI.b8 h aM h0 af ab
theorem lK.b8{l m:List ca}{Q:Nat->Prop}(h:∀e∈l,Q e.id->∃q∈m,q.id=e.id/\q.k=e.k/\q.nm=e.nm/\q.ns=e.ns/\q.args=e.args/\q.ret=e.ret)(aM:∀e∈l,Q e.id->∀i∈e.parts,i=0\/Q i)(h0:∀e∈l,e.id≠0):∀{o:Option aE} {r:Nat},(r=0\/Q r)->lK l r o->lK m r o
 |none,r,_,aj=>by rw[lK] at aj⊢;exact aj
 |some t,r,aJ,aj=>by
  rw[lK] at aj⊢
  rcases aJ with c9|af
  · obtain⟨k,nm,ns,xs,rt⟩:=t
    rw[eI] at aj
    obtain⟨e,he,ar,_⟩:=aj
    exact absurd (ar.trans c9) (h0 e he)
  · exact eI.b8 h aM h0 af aj
end
theorem eI.p7{s bc:cm}(hs:dw s)(g:lI s bc){t:aE}{i:Nat}(h:eI s.l i t):eI bc.l i t:=
 eI.b8 (Q:=λ_=>True) (λe he _=>by obtain⟨q,aM,a⟩:=g.old e he;exact⟨q,aM,a.id,a.k,a.nm,a.ns,a.args,a.ret⟩) (λ_ _ _ _ _=>.inr trivial) (λe he=>by have:=(hs.aO e he).1;omega) trivial h
theorem jd.p7{s bc:cm}(hs:dw s)(g:lI s bc){t:List aE}{i:List Nat}(h:jd s.l i t):jd bc.l i t:=
 jd.b8 (Q:=λ_=>True) (λe he _=>by obtain⟨q,aM,a⟩:=g.old e he;exact⟨q,aM,a.id,a.k,a.nm,a.ns,a.args,a.ret⟩) (λ_ _ _ _ _=>.inr trivial) (λe he=>by have:=(hs.aO e he).1;omega) (λ_ _=>.inr trivial) h
theorem eI.map{s:cm}(hs:dw s){f:ca->ca}(F:zh f){t:aE}{i:Nat}(h:eI s.l i t):eI (s.l.map f) i t:=
 eI.b8 (Q:=λ_=>True) (λe he _=>by obtain⟨ab,ad,ar,aG,bJ⟩:=F.bA e;exact⟨f e,List.mem_map.2 ⟨e,he,rfl⟩,F.id e,ab,ad,ar,aG,bJ⟩) (λ_ _ _ _ _=>.inr trivial) (λe he=>by have:=(hs.aO e he).1;omega) trivial h
theorem eI.drop{s:cm}(hs:dw s){d:Nat}(ao:∀x∈s.l,d∉x.parts){t:aE}{i:Nat}(af:i≠d)(h:eI s.l i t):eI (hL d s.l) i t:=
 eI.b8 (Q:=λj=>j≠d) (λe he aM=>⟨e,m9.2 ⟨he,aM⟩,rfl,rfl,rfl,rfl,rfl,rfl⟩) (λe he _ j aJ=>.inr λcF=>ao e he (by rw[<-cF];exact aJ)) (λe he=>by have:=(hs.aO e he).1;omega) af h
theorem eI.room{s:cm}{t:aE}{i:Nat}:∀(n:Nat) (l:List ca),dw {s with l:=l}->(∃e∈l,e.id=i/\e.pins≠0)->eI l i t->eI (h3 s.cap n l) i t
 |0,l,_,_,h=>h
 |n+1,l,hs,⟨e,he,af,aK⟩,h=>by
  rw[h3]
  split
  · cases ae:ig l l with
    |none=>exact h
    |some x=>
     obtain⟨ab,ad,_⟩:=sC ae
     obtain⟨ar,aG⟩:=sB.1 ad
     have cS:e.id≠x.id:=λcF=>by
      have:=Gg hs.up he ab cF
      rw[this] at aK;exact aK ar
     exact eI.room n _ (dw.drop hs aG) ⟨e,m9.2 ⟨he,cS⟩,af,aK⟩ (eI.drop hs aG (by rw[<-af];exact cS) h)
  · exact h
theorem Ys{s:cm}{k:Nat}{nm:a5}{ns:List a5}{az:List Nat}{r:Nat}:∃e∈(jA k nm ns az r s).2.l,e.id=(jA k nm ns az r s).1/\e.k=k/\e.nm=nm/\e.ns=ns/\e.args=az/\e.ret=r:=by
 unfold jA
 cases hf:s.l.find? (ca.is k nm ns az r) with
 |some e=>
  simp only
  have he:=List.mem_of_find?_eq_some hf
  have ab:=List.find?_some hf
  obtain⟨cr,cZ,dp,eS,eG⟩:=p6.1 ab
  have T:=B5 e.id (s.clock+1) e
  exact⟨_,List.mem_map.2 ⟨e,he,rfl⟩,T.id,T.k.trans cr,T.nm.trans cZ,T.ns.trans dp,T.args.trans eS,T.ret.trans eG⟩
 |none=>exact⟨_,List.mem_append_right _ (List.mem_singleton.2 rfl),rfl,rfl,rfl,rfl,rfl,rfl⟩
mutual
theorem Gj:∀(t:aE) {s:cm},dw s->eI (cD t s).2.l (cD t s).1 t
 |.mk k nm ns xs rt,s,h=>by
  obtain⟨ab,ai,eF⟩:=wG xs h
  obtain⟨ad,ax,fs⟩:=Gh rt ab
  have r1:=MR xs h
  have r2:=Yt rt ab
  obtain⟨ar,aB,jk⟩:=MM ad (k:=k) (nm:=nm) (ns:=ns) (az:=(cX xs s).1) (r:=(gL rt (cX xs s).2).1) λi af=>by
   rcases List.mem_cons.1 af with rfl|af
   · exact fs
   · exact .inr ((eF i af).p7 ax)
  rw[cD,eI]
  obtain⟨e,he,aA,ay,bw,eh,fH,gI⟩:=Ys (k:=k) (nm:=nm) (ns:=ns) (az:=(cX xs s).1) (r:=(gL rt (cX xs s).2).1) (s:=(gL rt (cX xs s).2).2)
  refine⟨e,he,aA,ay,bw,eh,?_,?_⟩
  · rw[fH];exact(r1.p7 ab ax).p7 ad aB
  · rw[gI]
    cases rt with
    |none=>exact r2
    |some t=>exact eI.p7 ad aB r2
theorem MR:∀(l:List aE) {s:cm},dw s->jd (cX l s).2.l (cX l s).1 l
 |[],s,h=>by rw[cX,jd]
 |t::l,s,h=>by
  obtain⟨ab,ai,eF⟩:=m_ t h
  obtain⟨ad,ax,fs⟩:=wG l ab
  have r1:=Gj t h
  have r2:=MR l ab
  rw[cX,jd]
  exact⟨_,_,rfl,r1.p7 ab ax,r2⟩
theorem Yt:∀(o:Option aE) {s:cm},dw s->lK (gL o s).2.l (gL o s).1 o
 |none,s,h=>by rw[gL,lK]
 |some t,s,h=>by rw[gL,lK];exact Gj t h
end
end Go.Proofs.dj
namespace Go.Proofs.dj
open Go aP Go.Proofs c8 Go.Proofs.cG
set_option maxRecDepth 100000
set_option maxHeartbeats 1000000
def mN(l:List ca)(L:List Nat):Prop:=∀e∈l,e.id∈L->∀p∈e.parts,p=0\/p∈L
theorem mN.app{l:List ca}{L M:List Nat}(h:mN l L)(an:mN l M):mN l (L++M):=λe he af p aK=>by
 rcases List.mem_append.1 af with af|af
 · rcases h e he af p aK with h0|h0
   · exact .inl h0
   · exact .inr (List.mem_append_left _ h0)
 · rcases an e he af p aK with h0|h0
   · exact .inl h0
   · exact .inr (List.mem_append_right _ h0)
mutual
theorem eI.reach{s:cm}(hs:dw s):∀{t:aE} {i:Nat},eI s.l i t->∃L:List Nat,L.length<=sz t/\i∈L/\mN s.l L
 |.mk k nm ns xs rt,i,h=>by
  rw[eI] at h
  obtain⟨e,he,rfl,_,_,_,aG,bJ⟩:=h
  obtain⟨L,bz,bR,cU⟩:=jd.reach hs aG
  obtain⟨M,aZ,bQ,lb⟩:=lK.reach hs bJ
  refine⟨e.id::(L++M),by rw[mf,List.length_cons,List.length_append];omega,List.mem_cons_self ..,λx aa af p aK=>?_⟩
  rcases List.mem_cons.1 af with af|af
  · have:=Gg hs.up aa he af
    subst this
    rcases List.mem_cons.1 aK with rfl|aK
    · rcases bQ with h0|h0
      · exact .inl h0
      · exact .inr (List.mem_cons_of_mem _ (List.mem_append_right _ h0))
    · exact .inr (List.mem_cons_of_mem _ (List.mem_append_left _ (bR p aK)))
  · rcases(cU.app lb) x aa af p aK with h0|h0
    · exact .inl h0
    · exact .inr (List.mem_cons_of_mem _ h0)
theorem jd.reach{s:cm}(hs:dw s):∀{ck:List aE} {mo:List Nat},jd s.l mo ck->∃L:List Nat,L.length<=c1 ck/\(∀j∈mo,j∈L)/\mN s.l L
 |[],mo,h=>by
  rw[jd] at h
  subst h
  exact⟨[],Nat.zero_le _,λj aJ=>(by cases aJ),λe he af=>(by cases af)⟩
 |t::ck,mo,h=>by
  rw[jd] at h
  obtain⟨i,ey,rfl,ab,ad⟩:=h
  obtain⟨L,bz,bR,cU⟩:=eI.reach hs ab
  obtain⟨M,aZ,bQ,lb⟩:=jd.reach hs ad
  refine⟨L++M,by rw[c1,List.length_append];omega,λj aJ=>?_,cU.app lb⟩
  rcases List.mem_cons.1 aJ with rfl|aJ
  · exact List.mem_append_left _ bR
  · exact List.mem_append_right _ (bQ j aJ)
theorem lK.reach{s:cm}(hs:dw s):∀{o:Option aE} {r:Nat},lK s.l r o->∃L:List Nat,L.length<=dq o/\(r=0\/r∈L)/\mN s.l L
 |none,r,h=>by
  rw[lK] at h
  exact⟨[],Nat.zero_le _,.inl h,λe he af=>by cases af⟩
 |some t,r,h=>by
  rw[lK] at h
  obtain⟨L,bz,bR,cU⟩:=eI.reach hs h
  exact⟨L,by rw[ld];exact bz,.inr bR,cU⟩
end
theorem MS:∀(l U:List Nat),l.Nodup->(∀x∈l,x∈U)->l.length<=U.length
 |[],U,_,_=>Nat.zero_le _
 |x::l,U,h,hs=>by
  rw[List.nodup_cons] at h
  have aa:=hs x (List.mem_cons_self ..)
  have:=MS l (U.erase x) h.2 λy aS=>(List.mem_erase_of_ne λe=>h.1 (by rw[<-e];exact aS)).2 (hs y (List.mem_cons_of_mem _ aS))
  rw[List.length_erase_of_mem aa] at this
  have:=List.length_pos_of_mem aa
  rw[List.length_cons];omega
def oU(P:List (Nat×aE)):Nat:=(P.map λx=>sz x.2).sum
theorem MT{s:cm}(hs:dw s):∀(P:List (Nat×aE)),(∀x∈P,eI s.l x.1 x.2)->∃U:List Nat,U.length<=oU P/\(∀x∈P,x.1∈U)/\mN s.l U
 |[],_=>⟨[],Nat.zero_le _,λx aa=>(by cases aa),λe he af=>(by cases af)⟩
 |x::P,h=>by
  obtain⟨L,bz,bR,cU⟩:=eI.reach hs (h x (List.mem_cons_self ..))
  obtain⟨U,jn,oi,kN⟩:=MT hs P λy aS=>h y (List.mem_cons_of_mem _ aS)
  refine⟨L++U,by simp only[oU,List.map_cons,List.sum_cons,List.length_append] at*;omega,λy aS=>?_,cU.app kN⟩
  rcases List.mem_cons.1 aS with rfl|aS
  · exact List.mem_append_left _ bR
  · exact List.mem_append_right _ (oi y aS)
theorem Yu{s:cm}(hs:dw s){P:List (Nat×aE)}(nY:∀x∈P,eI s.l x.1 x.2)(aK:∀e∈s.l,e.pins≠0->∃x∈P,x.1=e.id)(aN:ig s.l s.l=none):s.l.length<=oU P:=by
 obtain⟨U,jn,oi,kN⟩:=MT hs P nY
 have all:∀n,∀e∈s.l,s.given-e.id<=n->e.id∈U:=by
  intro n
  induction n with
  |zero=>
   intro e he hle
   have nT:=wE.1 aN e he
   by_cases h0:e.pins=0
   · have:¬∀x∈s.l,e.id∉x.parts:=λak=>by rw[sB.2 ⟨h0,ak⟩] at nT;cases nT
     exfalso
     apply this
     intro x aa af
     have ab:=(hs.aO x aa).2.1
     rcases hs.part x aa _ af with ad|⟨ad,_⟩
     · have:=(hs.aO e he).1;omega
     · omega
   · obtain⟨x,aa,ab⟩:=aK e he h0
     rw[<-ab];exact oi x aa
  |succ n a7=>
   intro e he hle
   have nT:=wE.1 aN e he
   by_cases h0:e.pins=0
   · have:∃x∈s.l,e.id∈x.parts:=Classical.byContradiction λak=>by
       rw[sB.2 ⟨h0,λx aa af=>ak ⟨x,aa,af⟩⟩] at nT;cases nT
     obtain⟨x,aa,af⟩:=this
     rcases hs.part x aa _ af with ad|⟨ad,_⟩
     · have:=(hs.aO e he).1;omega
     · have ar:=(hs.aO x aa).2.1
       rcases kN x aa (a7 x aa (by omega)) _ af with aG|aG
       · have:=(hs.aO e he).1;omega
       · exact aG
   · obtain⟨x,aa,ab⟩:=aK e he h0
     rw[<-ab];exact oi x aa
 have gN:(s.l.map (·.id)).Nodup:=by
  rw[List.Nodup,List.pairwise_map]
  exact hs.up.imp λ{a b} fc=>by omega
 have:=MS (s.l.map (·.id)) U gN λx aa=>by
  obtain⟨e,he,rfl⟩:=List.mem_map.1 aa
  exact all _ e he (Nat.le_refl _)
 rw[List.length_map] at this
 omega
theorem MU(cap:Nat):∀(n:Nat) (l:List ca),l.length<=n->(h3 cap n l).length<=cap\/ig (h3 cap n l) (h3 cap n l)=none
 |0,l,h=>.inl (by rw[h3];omega)
 |n+1,l,h=>by
  rw[h3]
  split
  · cases ae:ig l l with
    |none=>exact .inr ae
    |some e=>
     have:=MN (sC ae).1
     exact MU cap n _ (by omega)
  · exact .inl (by omega)
end Go.Proofs.dj
namespace Go.Proofs.dj
open Go aP Go.Proofs c8 Go.Proofs.cG
set_option maxRecDepth 100000
set_option maxHeartbeats 1000000
theorem kR{t:aE}:dm (some t)=0<->sz t<=60/\ef t=true:=by
 simp only[dm]
 split
 · constructor
   · intro h;cases h
   · rintro⟨h,_⟩;omega
 · split
   · rename_i ab ad;exact⟨λ_=>⟨by omega,ad⟩,λ_=>rfl⟩
   · rename_i ab ad
     constructor
     · intro h;cases h
     · rintro⟨_,h⟩;exact absurd h ad
theorem zl{t:aE}(h:ef t=true):p4 t=if sz t<=60 then t else p3:=by
 unfold p4
 by_cases cu:sz t<=60
 · rw[if_pos cu,if_pos (kR.2 ⟨cu,h⟩)]
 · rw[if_neg cu,if_neg λe=>cu (kR.1 e).1]
theorem Gk{l:List aE}(h:∀t∈l,dm (some t)=0):hr l=true:=by
 induction l with
 |nil=>rw[hr]
 |cons x l a7=>
  rw[hr,(kR.1 (h x (List.mem_cons_self ..))).2,a7 λt ba=>h t (List.mem_cons_of_mem _ ba)];rfl
theorem Yv{l:List aE}(h:∀t∈l,dm (some t)=0):c1 l<=60*l.length:=by
 induction l with
 |nil=>rw[c1];exact Nat.zero_le _
 |cons x l a7=>
  have ab:=(kR.1 (h x (List.mem_cons_self ..))).1
  have ad:=a7 λt ba=>h t (List.mem_cons_of_mem _ ba)
  rw[c1,List.length_cons];omega
theorem Yw{l:List aE}(h:∀t∈l,dm (some t)=0)(ar:l.length<=3):ef (.mk 7 [] (gg.take l.length) l none)=true:=by
 have hm:=Gk h
 have aw:l.length=0\/l.length=1\/l.length=2\/l.length=3:=by omega
 rw[m3,hm,eT]
 have aN:jM none (gg.take l.length)=true:=by rcases aw with e|e|e|e<;>rw[e]<;>decide+kernel
 have aK:hY 7 [] (gg.take l.length).length l.length (none:Option aE).isSome=true:=by rcases aw with e|e|e|e<;>rw[e]<;>decide+kernel
 have aq:(gg.take l.length).length=l.length:=by rw[List.length_take];show min l.length 3=_;omega
 rw[aK,aN,aq]
 simp
theorem MV{l:List aE}{x:aE}(h:∀t∈l,dm (some t)=0)(aa:dm (some x)=0):ef (.mk 8 [] [] l (some x))=true:=by
 rw[m3,Gk h,eT,ix,(kR.1 aa).2,hY]
 simp[dK]
theorem MW:∀a b c:a5,dF a b=true->dF b c=true->dF a c=true
 |[],[],_,h,_=>by cases h
 |_::_,[],_,h,_=>by cases h
 |[],_::_,[],_,h=>by cases h
 |_::_,_::_,[],_,h=>by cases h
 |[],_::_,_::_,_,_=>rfl
 |x::a,y::b,z::c,ab,ad=>by
  rw[yP] at ab ad⊢
  by_cases aA:x.toNat=y.toNat
  · rw[if_pos aA] at ab
    by_cases ay:y.toNat=z.toNat
    · rw[if_pos ay] at ad;rw[if_pos (aA.trans ay)];exact MW a b c ab ad
    · rw[if_neg ay] at ad;rw[if_neg (by omega)];simp at ad⊢;omega
  · rw[if_neg aA] at ab
    by_cases ay:y.toNat=z.toNat
    · rw[if_neg (by omega)];simp at ab⊢;omega
    · rw[if_neg ay] at ad;simp at ab ad;rw[if_neg (by omega)];simp;omega
def sE(l:List aE):Prop:=l.Pairwise λa b=>dF (wr a) (wr b)=true
theorem MX{t:aE}:∀{l:List aE},sE l->sE (ie t l)
 |[],_=>List.pairwise_singleton ..
 |x::l,h=>by
  unfold sE at h⊢
  have h0:=h
  rw[List.pairwise_cons] at h
  rw[ie]
  by_cases ab:dF (wr x) (wr t)=true
  · rw[if_pos ab,List.pairwise_cons]
    refine⟨λb ae=>?_,MX h.2⟩
    rcases Gc ae with rfl|ae
    · exact ab
    · exact h.1 b ae
  rw[if_neg ab]
  by_cases ad:wr x=wr t
  · rw[if_pos ad];exact h0
  rw[if_neg ad,List.pairwise_cons]
  have ar:dF (wr t) (wr x)=true:=by
   cases e:dF (wr t) (wr x) with
   |true=>rfl
   |false=>exact absurd (FQ _ _ (by simpa using ab) e) ad
  refine⟨λb ae=>?_,h0⟩
  rcases List.mem_cons.1 ae with rfl|ae
  · exact ar
  · exact MW _ _ _ ar (h.1 b ae)
theorem MY:∀(l a:List aE),sE a->sE (l.foldl (λa t=>ie t a) a)
 |[],a,h=>h
 |t::l,a,h=>MY l _ (MX h)
theorem MZ{t:aE}:∀(l:List aE),l.length<=(ie t l).length/\(ie t l).length<=l.length+1/\0<(ie t l).length
 |[]=>by simp[ie]
 |x::l=>by
  have:=MZ (t:=t) l
  rw[ie]
  split
  · simp only[List.length_cons];omega
  · split<;>simp only[List.length_cons]<;>omega
theorem zm:∀(l a:List aE),a.length<=(l.foldl (λa t=>ie t a) a).length/\(l.foldl (λa t=>ie t a) a).length<=a.length+l.length/\(0<l.length->0<(l.foldl (λa t=>ie t a) a).length)
 |[],a=>⟨Nat.le_refl _,Nat.le_add_right ..,λh=>absurd h (by simp)⟩
 |t::l,a=>by
  obtain⟨ab,ad,ar⟩:=zm l (ie t a)
  have:=MZ (t:=t) a
  simp only[List.foldl_cons,List.length_cons]
  exact⟨by omega,by omega,λ_=>by omega⟩
theorem M0:∀(p:Option a5) (l:List aE),sE l->(∀t∈l,t.k≠9/\t.k≠1)->(∀t,l[0]? =some t->mg p (wr t)=true)->kM p (l.map aE.k) (cv l)=true
 |_,[],_,_,_=>by rw[cv];rfl
 |p,t::l,h,aq,aK=>by
  unfold sE at h
  rw[List.pairwise_cons] at h
  rw[List.map_cons,cv]
  have ab:=aq t (List.mem_cons_self ..)
  have a7:=M0 (some (wr t)) l h.2 (λu hu=>aq u (List.mem_cons_of_mem _ hu)) λu hu=>h.1 u (List.mem_of_getElem? hu)
  unfold kM
  rw[a7,aK t rfl]
  simp[ab.1,ab.2]
theorem Yx{t u:aE}(h:ef t=true)(aq:t.k=9)(hu:u∈t.xs):u.k≠9/\u.k≠1:=by
 obtain⟨k,nm,ns,xs,rt⟩:=t
 obtain rfl:k=9:=aq
 rw[m3,eT] at h
 simp only[Bool.and_eq_true] at h
 have mD:u∈xs:=hu
 have ab:kM none (xs.map aE.k) (cv xs)=true/\2<=xs.length:=by simpa using h.2.2.2
 clear h
 have key:∀(p:Option a5) (l:List aE),kM p (l.map aE.k) (cv l)=true->∀u∈l,u.k≠9/\u.k≠1:=by
  intro p l
  induction l generalizing p with
  |nil=>intro _ u hu;cases hu
  |cons x l a7=>
   intro h u hu
   rw[List.map_cons,cv] at h
   unfold kM at h
   simp only[Bool.and_eq_true] at h
   rcases List.mem_cons.1 hu with rfl|hu
   · simpa using h.1
   · exact a7 _ h.2.2 u hu
 exact key none xs ab.1 u mD
theorem Yy{t:aE}(h:ef t=true)(aq:t.k=9):2<=t.xs.length:=by
 obtain⟨k,nm,ns,xs,rt⟩:=t
 obtain rfl:k=9:=aq
 rw[m3,eT] at h
 simp only[Bool.and_eq_true] at h
 have ab:kM none (xs.map aE.k) (cv xs)=true/\2<=xs.length:=by simpa using h.2.2.2
 exact ab.2
theorem M1{u:aE}:∀{l f:List aE},(∀t∈l,dm (some t)=0)->hd l=some f->u∈f->u.k≠9/\u.k≠1
 |[],f,_,h,hu=>by cases h;cases hu
 |t::l,f,aw,h,hu=>by
  rw[hd] at h
  have ab:=(kR.1 (aw t (List.mem_cons_self ..))).2
  split at h
  · cases h
  · rename_i Yz
    cases e:hd l with
    |none=>rw[e] at h;cases h
    |some r=>
     rw[e] at h
     cases h
     rcases List.mem_append.1 hu with hu|hu
     · split at hu
       · rename_i zn;exact Yx ab zn hu
       · rename_i zn
         obtain rfl:u=t:=by simpa using hu
         exact⟨zn,Yz⟩
     · exact M1 (λt ba=>aw t (List.mem_cons_of_mem _ ba)) e hu
theorem M3{l f:List aE}(aw:∀t∈l,dm (some t)=0)(h0:0<l.length)(h:hd l=some f):0<f.length:=by
 cases l with
 |nil=>exact absurd h0 (by simp)
 |cons t l=>
  rw[hd] at h
  have ab:=(kR.1 (aw t (List.mem_cons_self ..))).2
  split at h
  · cases h
  · cases e:hd l with
    |none=>rw[e] at h;cases h
    |some r=>
     rw[e] at h
     cases h
     rw[List.length_append]
     split
     · rename_i zn;have:=Yy ab zn;omega
     · simp;omega
theorem Gl:∀{l f:List aE},(∀t∈l,dm (some t)=0)->hd l=some f->f.length<=60*l.length/\c1 f<=60*l.length
 |[],f,_,h=>by cases h;exact⟨Nat.le_refl _,by rw[c1];exact Nat.zero_le _⟩
 |t::l,f,aw,h=>by
  rw[hd] at h
  have ab:=(kR.1 (aw t (List.mem_cons_self ..))).1
  split at h
  · cases h
  · cases e:hd l with
    |none=>rw[e] at h;cases h
    |some r=>
     rw[e] at h
     cases h
     have a7:=Gl (λt ba=>aw t (List.mem_cons_of_mem _ ba)) e
     have ad:c1 (if t.k=9 then t.xs else[t])<=60:=by
      split
      · obtain⟨k,nm,ns,xs,rt⟩:=t
        rw[mf] at ab
        show c1 xs<=60
        omega
      · rw[c1,c1];omega
     have key:∀a b:List aE,c1 (a++b)=c1 a+c1 b:=by
      intro a b
      induction a with
      |nil=>rw[c1,List.nil_append];omega
      |cons x a a7=>rw[List.cons_append,c1,a7,c1];omega
     have ar:=nU (if t.k=9 then t.xs else[t])
     rw[List.length_append,List.length_cons,key]
     omega
theorem M4{l f:List aE}(h:∀t∈l,dm (some t)=0)(h0:0<l.length)(hf:hd l=some f)(ab:(eP f).length≠1):ef (.mk 9 [] [] (eP f) none)=true:=by
 have hu:sE (eP f):=MY f [] List.Pairwise.nil
 have aK:=(zm f []).2.2 (M3 h h0 hf)
 have aK:0<(eP f).length:=aK
 have hm:∀t∈eP f,t∈f:=λt ba=>by
  rcases zg f [] ba with h|h
  · exact h
  · cases h
 have ag:∀t∈eP f,dm (some t)=0:=λt ba=>by
  rcases B3 hf (hm t ba) with hm|⟨x,ab,ad⟩
  · exact h t hm
  · exact uA (h x ab) ad
 rw[m3,Gk ag,eT,M0 none _ hu (λt ba=>M1 h hf (hm t ba)) λt _=>rfl]
 have:2<=(eP f).length:=by omega
 simp[hY,dK,this]
theorem rec_eq{l:List aE}(h:∀t∈l,dm (some t)=0)(ar:l.length<=3):F_ l=if sz (.mk 7 [] (gg.take l.length) l none)<=60 then .mk 7 [] (gg.take l.length) l none else p3:=zl (Yw h ar)
end Go.Proofs.dj
