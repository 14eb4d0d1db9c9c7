/-
  PROVED HERE: contracts of functions (Dh). No condition beside each statement's own.
-/
import Derived.Test.YtjkomfonmcmgdaaGreatDoorDc
import Derived.Test.YtjkomfonmcmgdaaGreatDoorDf
set_option linter.unusedVariables false
set_option linter.unusedSimpArgs false
set_option maxRecDepth 100000
set_option maxHeartbeats 1000000
namespace Go.Proofs.kU
open Go bg Go.Proofs ir Go.Proofs.kh
variable {Q:bW->bL->Prop} {R:bE->Prop}
structure gg where
 left:bb
 nodes:Nat
def dI(n:Nat)(m:gg):Nat×gg:=match m.left with
 |[]=>(0,m)
 |c::l=>(c.toNat %n,⟨l,m.nodes⟩)
def r9:aJ:=.mk 2 [] [] [] none
def JH:aJ:=.mk 1 [] [] [] none
def r_(t:aJ):aJ:=if dE (some t)=0 then t else r9
def g8:List bb:=[[97],[98],[99]]
def JI(l:List aJ):aJ:=r_ (.mk 7 [] (g8.take l.length) l none)
def Fj:List aJ->aJ
 |[]=>r9
 |x::l=>r_ (.mk 8 [] [] l (some x))
def iv:List aJ->Option (List aJ)
 |[]=>some []
 |t::l=>if t.k=1 then none else(iv l).map λr=>(if t.k=9 then t.xs else[t])++r
def jC(t:aJ):List aJ->List aJ
 |[]=>[t]
 |x::l=>if eA (wr x) (wr t)=true then x::jC t l else if wr x=wr t then x::l else t::x::l
def fE(l:List aJ):List aJ:=l.foldl (λa t=>jC t a) []
def pj(l:List aJ):aJ:=match iv l with
 |none=>JH
 |some f=>match fE f with
  |[t]=>t
  |out=>r_ (.mk 9 [] [] out none)
def zf(n:Nat):bb:=if n=0 then[109,46,84] else[109,46,85]
def gT(k:Nat)(l:List aJ)(m:gg):aJ×gg:=
 if k=6 then(.mk 6 (zf (dI 2 m).1) [] [] none,(dI 2 m).2) else if k=7 then(JI l,m) else if k=8 then(Fj l,m) else if k=9 then(pj l,m) else(.mk k [] [] [] none,m)
def iW(f:gg->aJ×gg):Nat->gg->List aJ×gg
 |0,m=>([],m)
 |n+1,m=>((f m).1::(iW f n (f m).2).1,(iW f n (f m).2).2)
def fa:Nat->gg->aJ×gg
 |0,m=>
  let a:=dI 9 ⟨m.left,m.nodes+1⟩
  let b:=dI 5 a.2
  let c:=dI 3 b.2
  gT (1+b.1) [] c.2
 |d+1,m=>
  let a:=dI 9 ⟨m.left,m.nodes+1⟩
  let b:=if 40<m.nodes+1 then dI 5 a.2 else a
  let c:=dI 3 b.2
  let l:=if 7<=1+b.1 then iW (fa d) (c.1+1) c.2 else([],c.2)
  gT (1+b.1) l.1 l.2
def B1(s:bb):aJ:=(fa 3 ⟨s.take (min s.length 60),0⟩).1
theorem JJ(t:aJ):dE (some (r_ t))=0:=by
 unfold r_
 by_cases h:dE (some t)=0
 · rw[if_pos h,h]
 · rw[if_neg h];decide+kernel
theorem JK(k:Nat)(I:1<=k)(ae:k<=5):dE (some (.mk k [] [] [] none))=0:=by
 have:k=1\/k=2\/k=3\/k=4\/k=5:=by omega
 rcases this with rfl|rfl|rfl|rfl|rfl<;>decide+kernel
theorem adg(n:Nat):dE (some (.mk 6 (zf n) [] [] none))=0:=by
 unfold zf
 split<;>decide+kernel
theorem pk{t u:aJ}(h:dE (some t)=0)(hu:u∈t.xs):dE (some u)=0:=by
 obtain⟨k,nm,ns,xs,rt⟩:=t
 have oK:u∈xs:=hu
 simp only[dE] at h⊢
 split at h
 · cases h
 · rename_i cz
   split at h
   · rename_i hm
     rw[o_] at hm
     simp only[Bool.and_eq_true] at hm
     have I:=BE hm.2.2.1 oK
     have ae:=p1 oK
     rw[l3] at cz
     rw[if_neg (by omega),if_pos I]
   · cases h
theorem JL{t u:aJ}:∀{l:List aJ},u∈jC t l->u=t\/u∈l
 |[],h=>by simpa[jC] using h
 |x::l,h=>by
  rw[jC] at h
  split at h
  · rcases List.mem_cons.1 h with rfl|h
    · exact .inr (List.mem_cons_self ..)
    · rcases JL h with h|h
      · exact .inl h
      · exact .inr (List.mem_cons_of_mem _ h)
  · split at h
    · exact .inr h
    · rcases List.mem_cons.1 h with h|h
      · exact .inl h
      · exact .inr h
theorem B2{u:aJ}:∀(l a:List aJ),u∈l.foldl (λa t=>jC t a) a->u∈l\/u∈a
 |[],a,h=>.inr h
 |t::l,a,h=>by
  rcases B2 l _ h with h|h
  · exact .inl (List.mem_cons_of_mem _ h)
  · rcases JL h with rfl|h
    · exact .inl (List.mem_cons_self ..)
    · exact .inr h
theorem Fk{u:aJ}:∀{l f:List aJ},iv l=some f->u∈f->u∈l\/∃t∈l,u∈t.xs
 |[],f,h,hu=>by cases h;cases hu
 |t::l,f,h,hu=>by
  rw[iv] at h
  split at h
  · cases h
  · cases e:iv l with
    |none=>rw[e] at h;cases h
    |some r=>
     rw[e] at h
     cases h
     rcases List.mem_append.1 hu with hu|hu
     · split at hu
       · exact .inr ⟨t,List.mem_cons_self ..,hu⟩
       · obtain rfl:u=t:=by simpa using hu
         exact .inl (List.mem_cons_self ..)
     · rcases Fk e hu with h|⟨x,I,ae⟩
       · exact .inl (List.mem_cons_of_mem _ h)
       · exact .inr ⟨x,List.mem_cons_of_mem _ I,ae⟩
theorem adh{l:List aJ}(h:∀t∈l,dE (some t)=0):dE (some (pj l))=0:=by
 unfold pj
 cases e:iv l with
 |none=>exact JK 1 (by omega) (by omega)
 |some f=>
  simp only
  split
  · rename_i t bm
    have hm:t∈fE f:=by rw[bm];exact List.mem_cons_self ..
    rcases B2 f [] hm with hm|hm
    · rcases Fk e hm with hm|⟨x,I,ae⟩
      · exact h t hm
      · exact pk (h x I) ae
    · cases hm
  · exact JJ _
theorem QY{k:Nat}{l:List aJ}(m:gg)(I:1<=k)(ae:k<=9)(h:∀t∈l,dE (some t)=0):dE (some (gT k l m).1)=0:=by
 unfold gT
 by_cases cz:k=6
 · rw[if_pos cz];exact adg _
 rw[if_neg cz]
 by_cases dw:k=7
 · rw[if_pos dw];exact JJ _
 rw[if_neg dw]
 by_cases gF:k=8
 · rw[if_pos gF]
   show dE (some (Fj l))=0
   cases l with
   |nil=>exact JK 2 (by omega) (by omega)
   |cons x l=>exact JJ _
 rw[if_neg gF]
 by_cases hz:k=9
 · rw[if_pos hz];exact adh h
 rw[if_neg hz]
 exact JK k I (by omega)
theorem JM{f:gg->aJ×gg}(P:aJ->Prop)(h:∀m,P (f m).1):∀n m,∀t∈(iW f n m).1,P t
 |0,m,t,bm=>by cases bm
 |n+1,m,t,bm=>by
  rcases List.mem_cons.1 bm with rfl|bm
  · exact h m
  · exact JM P h n _ t bm
theorem p9{n:Nat}(h:0<n)(m:gg):(dI n m).1<n:=by
 unfold dI
 split
 · exact h
 · exact Nat.mod_lt _ h
theorem JN:∀d m,dE (some (fa d m).1)=0
 |0,m=>by
  rw[fa]
  refine QY _ (by omega) ?_ (λt bm=>by cases bm)
  have:=p9 (n:=5) (by omega) (dI 9 ⟨m.left,m.nodes+1⟩).2
  omega
 |d+1,m=>by
  rw[fa]
  refine QY _ (by omega) ?_ ?_
  · split
    · have:=p9 (n:=5) (by omega) (dI 9 ⟨m.left,m.nodes+1⟩).2
      omega
    · have:=p9 (n:=9) (by omega) ⟨m.left,m.nodes+1⟩
      omega
  · have key:∀(c:Prop) [Decidable c] (n:Nat) (lv:gg),∀t∈(if c then iW (fa d) n lv else([],lv)).1,dE (some t)=0:=by
      intro c _ n lv t bm
      split at bm
      · exact JM (λt=>dE (some t)=0) (JN d) _ _ t bm
      · cases bm
    exact key _ _ _
theorem adi(s:bb):dE (some (B1 s))=0:=JN 3 _
structure b3 where
 id:Nat
 k:Nat
 nm:bb
 ns:List bb
 args:List Nat
 ret:Nat
 pins:Nat
 used:Nat
structure bZ where
 cap:Nat
 given:Nat
 clock:Nat
 l:List b3
def b3.parts(e:b3):List Nat:=e.ret::e.args
def b3.is(k:Nat)(nm:bb)(ns:List bb)(az:List Nat)(r:Nat)(e:b3):Bool:=decide (e.k=k)&&(decide (e.nm=nm)&&(decide (e.ns=ns)&&(decide (e.args=az)&&decide (e.ret=r))))
def kD(id c:Nat)(e:b3):b3:=if e.id=id then{e with used:=c} else e
def hG(k:Nat)(nm:bb)(ns:List bb)(az:List Nat)(r:Nat)(s:bZ):Nat×bZ:=match s.l.find? (b3.is k nm ns az r) with
 |some e=>(e.id,{s with clock:=s.clock+1,l:=s.l.map (kD e.id (s.clock+1))})
 |none=>(s.given+1,{s with given:=s.given+1,clock:=s.clock+1,l:=s.l++[⟨s.given+1,k,nm,ns,az,r,0,s.clock+1⟩]})
mutual
def ch:aJ->bZ->Nat×bZ
 |.mk k nm ns xs rt,s=>hG k nm ns (cf xs s).1 (fM rt (cf xs s).2).1 (fM rt (cf xs s).2).2
def cf:List aJ->bZ->List Nat×bZ
 |[],s=>([],s)
 |t::cF,s=>((ch t s).1::(cf cF (ch t s).2).1,(cf cF (ch t s).2).2)
def fM:Option aJ->bZ->Nat×bZ
 |none,s=>(0,s)
 |some t,s=>ch t s
end
def fk(id:Nat):List b3->Nat
 |[]=>0
 |e::l=>e.parts.count id+fk id l
def lJ(l:List b3)(e:b3):Bool:=Nat.beq e.pins 0&&Nat.beq (fk e.id l) 0
def jD(l:List b3):List b3->Option b3
 |[]=>none
 |e::m=>match jD l m with
  |none=>if lJ l e then some e else none
  |some b=>if lJ l e&&Nat.blt e.used b.used then some e else some b
def hH(id:Nat)(l:List b3):List b3:=l.filter λe=>!Nat.beq e.id id
def h9(cap:Nat):Nat->List b3->List b3
 |0,l=>l
 |n+1,l=>if cap<l.length then match jD l l with
   |none=>l
   |some e=>h9 cap n (hH e.id l)
  else l
def oy(s:bZ):bZ:={s with l:=h9 s.cap s.l.length s.l}
def jZ(id:Nat)(e:b3):b3:=if e.id=id then{e with pins:=e.pins+1} else e
def kY(id:Nat)(e:b3):b3:=if e.id=id then{e with pins:=e.pins-1} else e
def gl(t:aJ)(s:bZ):Nat×bZ:=((ch t s).1,oy {(ch t s).2 with l:=(ch t s).2.l.map (jZ (ch t s).1)})
def nE(id:Nat)(l:List b3):Option b3:=l.find? λe=>Nat.beq e.id id
def iI(id:Nat)(s:bZ):Nat×bZ:=match nE id s.l with
 |none=>(5,s)
 |some e=>if e.pins=0 then(2,s) else(0,oy {s with l:=s.l.map (kY id)})
structure eg(s:bZ):Prop where
 up:s.l.Pairwise (λa b=>a.id<b.id)
 lo:∀e∈s.l,0<e.id/\e.id<=s.given/\e.used<=s.clock
 part:∀e∈s.l,∀i∈e.parts,i=0\/(i<e.id/\∃p∈s.l,p.id=i)
 one:∀a∈s.l,∀b∈s.l,a.used=b.used->a.id=b.id
 apart:s.l.Pairwise (λa b=>b.is a.k a.nm a.ns a.args a.ret=false)
theorem Fl{id:Nat}:∀{l:List b3},fk id l=0<-> ∀e∈l,id∉e.parts
 |[]=>by simp[fk]
 |e::l=>by
  rw[fk]
  constructor
  · intro h x aa
    rcases List.mem_cons.1 aa with rfl|aa
    · exact List.count_eq_zero.1 (by omega)
    · exact Fl.1 (by omega) x aa
  · intro h
    rw[List.count_eq_zero.2 (h e (List.mem_cons_self ..)),Fl.2 λx aa=>h x (List.mem_cons_of_mem _ aa)]
theorem vc{l:List b3}{e:b3}:lJ l e=true<->e.pins=0/\∀x∈l,e.id∉x.parts:=by
 unfold lJ
 rw[Bool.and_eq_true,Nat.beq_eq,Nat.beq_eq,Fl]
theorem zg{l:List b3}:∀{m:List b3},jD l m=none<-> ∀e∈m,lJ l e=false
 |[]=>by simp[jD]
 |e::m=>by
  rw[jD]
  have bl:=zg (l:=l) (m:=m)
  cases ag:jD l m with
  |none=>
   have:=bl.1 ag
   cases he:lJ l e with
   |true=>simp[he]
   |false=>
    simp only[he]
    constructor
    · intro _ x aa
      rcases List.mem_cons.1 aa with rfl|aa
      · exact he
      · exact this x aa
    · intro _;rfl
  |some b=>
   constructor
   · intro h
     simp only at h
     split at h<;>cases h
   · intro h
     have:=bl.2 λx aa=>h x (List.mem_cons_of_mem _ aa)
     rw[ag] at this;cases this
theorem vd{l:List b3}:∀{m:List b3} {b:b3},jD l m=some b->b∈m/\lJ l b=true/\∀e∈m,lJ l e=true->b.used<=e.used
 |[],b,h=>by cases h
 |e::m,b,h=>by
  rw[jD] at h
  cases ag:jD l m with
  |none=>
   rw[ag] at h
   simp only at h
   split at h
   · rename_i he
     cases h
     refine⟨List.mem_cons_self ..,he,λx aa aA=>?_⟩
     rcases List.mem_cons.1 aa with rfl|aa
     · exact Nat.le_refl _
     · rw[zg.1 ag x aa] at aA;cases aA
   · cases h
  |some c=>
   rw[ag] at h
   simp only at h
   obtain⟨bG,b0,dF⟩:=vd ag
   split at h
   · rename_i he
     cases h
     rw[Bool.and_eq_true] at he
     have cB:=Nat.blt_eq▸he.2
     refine⟨List.mem_cons_self ..,he.1,λx aa aA=>?_⟩
     rcases List.mem_cons.1 aa with rfl|aa
     · exact Nat.le_refl _
     · have:=dF x aa aA;omega
   · rename_i he
     cases h
     refine⟨List.mem_cons_of_mem _ bG,b0,λx aa aA=>?_⟩
     rcases List.mem_cons.1 aa with rfl|aa
     · rw[aA,Bool.true_and] at he
       have:¬x.used<b.used:=by simpa[Nat.blt_eq] using he
       omega
     · exact dF x aa aA
theorem oz{id:Nat}{l:List b3}{e:b3}:e∈hH id l<->e∈l/\e.id≠id:=by
 unfold hH
 rw[List.mem_filter]
 refine and_congr Iff.rfl ?_
 cases ag:Nat.beq e.id id with
 |true=>simp[Nat.eq_of_beq_eq_true ag]
 |false=>
  constructor
  · intro _ h;rw[h,Nat.beq_refl] at ag;cases ag
  · intro _;rfl
theorem eg.drop{s:bZ}(h:eg s){id:Nat}(aA:∀x∈s.l,id∉x.parts):eg {s with l:=hH id s.l}:=by
 refine⟨h.up.filter _,λe he=>h.lo e (oz.1 he).1,λe he i hi=>?_,λa aV b ag=>h.one a (oz.1 aV).1 b (oz.1 ag).1,h.apart.filter _⟩
 obtain⟨I,ae⟩:=oz.1 he
 rcases h.part e I i hi with h0|⟨ax,p,aN,bS⟩
 · exact .inl h0
 · refine .inr ⟨ax,p,oz.2 ⟨aN,λdc=>?_⟩,bS⟩
   exact aA e I (by rw[<-dc,bS];exact hi)
theorem JO{s:bZ}:∀(n:Nat) (l:List b3),eg {s with l:=l}->eg {s with l:=h9 s.cap n l}
 |0,l,h=>h
 |n+1,l,h=>by
  rw[h9]
  split
  · cases ag:jD l l with
    |none=>exact h
    |some e=>
     obtain⟨_,ae,_⟩:=vd ag
     exact JO n _ (eg.drop h (vc.1 ae).2)
  · exact h
theorem eg.least{s:bZ}(h:eg s)(a0:∀e∈s.l,e.pins=0)(aA:s.l≠[]):jD s.l s.l≠none:=by
 intro ag
 have ag:=zg.1 ag
 obtain⟨m,hm⟩:∃m,s.l.getLast?=some m:=by
  cases e:s.l.getLast? with
  |none=>exact absurd (List.getLast?_eq_none_iff.1 e) aA
  |some m=>exact⟨m,rfl⟩
 obtain⟨ys,QZ⟩:=List.getLast?_eq_some_iff.1 hm
 have je:m∈s.l:=List.mem_of_getLast? hm
 have qY:=h.up
 rw[QZ,List.pairwise_append] at qY
 have:lJ s.l m=true:=vc.2 ⟨a0 m je,λx aa hi=>by
  rcases h.part x aa _ hi with h0|⟨I,_⟩
  · have:=(h.lo m je).1;omega
  · rw[QZ] at aa
    rcases List.mem_append.1 aa with aa|aa
    · have:=qY.2.2 x aa m (List.mem_singleton.2 rfl);omega
    · obtain rfl:x=m:=by simpa using aa
      omega⟩
 rw[ag m je] at this;cases this
theorem sa{e:b3}{k:Nat}{nm:bb}{ns:List bb}{az:List Nat}{r:Nat}:e.is k nm ns az r=true<->e.k=k/\e.nm=nm/\e.ns=ns/\e.args=az/\e.ret=r:=by
 simp[b3.is]
theorem Q0(a b:b3):b.is a.k a.nm a.ns a.args a.ret=a.is b.k b.nm b.ns b.args b.ret:=by
 apply Bool.eq_iff_iff.2
 rw[sa,sa]
 constructor<;>rintro⟨I,ae,ax,aN,bS⟩<;>exact⟨I.symm,ae.symm,ax.symm,aN.symm,bS.symm⟩
structure Alike(a b:b3):Prop where
 id:a.id=b.id
 k:a.k=b.k
 nm:a.nm=b.nm
 ns:a.ns=b.ns
 args:a.args=b.args
 ret:a.ret=b.ret
 pins:a.pins=b.pins
theorem Alike.refl(a:b3):Alike a a:=⟨rfl,rfl,rfl,rfl,rfl,rfl,rfl⟩
theorem Alike.trans{a b c:b3}(h:Alike a b)(aw:Alike b c):Alike a c:=⟨h.1.trans aw.1,h.2.trans aw.2,h.3.trans aw.3,h.4.trans aw.4,h.5.trans aw.5,h.6.trans aw.6,h.7.trans aw.7⟩
theorem Alike.parts{a b:b3}(h:Alike a b):a.parts=b.parts:=by unfold b3.parts;rw[h.ret,h.args]
theorem B3(id c:Nat)(e:b3):Alike (kD id c e) e:=by
 unfold kD
 split
 · exact⟨rfl,rfl,rfl,rfl,rfl,rfl,rfl⟩
 · exact Alike.refl e
theorem adj(id c:Nat)(e:b3):(kD id c e).used=if e.id=id then c else e.used:=by
 unfold kD
 split<;>rfl
structure nF(s s':bZ):Prop where
 cap:s'.cap=s.cap
 given:s.given<=s'.given
 old:∀e∈s.l,∃q∈s'.l,Alike q e
 new:∀q∈s'.l,(∃e∈s.l,Alike q e)\/(s.given<q.id/\q.pins=0)
theorem nF.refl(s:bZ):nF s s:=⟨rfl,Nat.le_refl _,λe he=>⟨e,he,Alike.refl e⟩,λq aK=>.inl ⟨q,aK,Alike.refl q⟩⟩
theorem nF.trans{a b c:bZ}(h:nF a b)(aw:nF b c):nF a c:=by
 refine⟨aw.cap.trans h.cap,Nat.le_trans h.given aw.given,λe he=>?_,λq aK=>?_⟩
 · obtain⟨x,aa,I⟩:=h.old e he
   obtain⟨y,aZ,ae⟩:=aw.old x aa
   exact⟨y,aZ,ae.trans I⟩
 · rcases aw.new q aK with⟨x,aa,I⟩|⟨I,ae⟩
   · rcases h.new x aa with⟨y,aZ,ae⟩|⟨ae,ax⟩
     · exact .inl ⟨y,aZ,I.trans ae⟩
     · exact .inr ⟨by rw[I.id];exact ae,by rw[I.pins];exact ax⟩
   · exact .inr ⟨by have:=h.given;omega,ae⟩
def Has(s:bZ)(i:Nat):Prop:=∃p∈s.l,p.id=i
theorem Has.qZ{s s':bZ}(h:nF s s'){i:Nat}(hi:Has s i):Has s' i:=by
 obtain⟨p,a0,rfl⟩:=hi
 obtain⟨q,aK,I⟩:=h.old p a0
 exact⟨q,aK,I.id⟩
theorem adk{l:List b3}(h:l.Pairwise (λa b=>a.id<b.id)){a b:b3}(aV:a∈l)(ag:b∈l)(e:a.id=b.id):a=b:=by
 induction l with
 |nil=>cases aV
 |cons x l bl=>
  rw[List.pairwise_cons] at h
  rcases List.mem_cons.1 aV with I|I
  · rcases List.mem_cons.1 ag with ae|ae
    · rw[I,ae]
    · have:=h.1 b ae;rw[I] at e;omega
  · rcases List.mem_cons.1 ag with ae|ae
    · have:=h.1 a I;rw[ae] at e;omega
    · exact bl h.2 I ae
theorem JP{s:bZ}(h:eg s){k:Nat}{nm:bb}{ns:List bb}{az:List Nat}{r:Nat}(a0:∀i∈r::az,i=0\/Has s i):eg (hG k nm ns az r s).2/\nF s (hG k nm ns az r s).2/\Has (hG k nm ns az r s).2 (hG k nm ns az r s).1:=by
 unfold hG
 cases hf:s.l.find? (b3.is k nm ns az r) with
 |some e=>
  simp only
  have he:=List.mem_of_find?_eq_some hf
  have T:=B3 e.id (s.clock+1)
  have U:=adj e.id (s.clock+1)
  refine⟨⟨?_,?_,?_,?_,?_⟩,⟨rfl,Nat.le_refl _,λx aa=>⟨_,List.mem_map.2 ⟨x,aa,rfl⟩,T x⟩,λq aK=>?_⟩,⟨_,List.mem_map.2 ⟨e,he,rfl⟩,(T e).id⟩⟩
  · rw[List.pairwise_map]
    exact h.up.imp λ{a b} fC=>by rw[(T a).id,(T b).id];exact fC
  · intro q aK
    obtain⟨x,aa,rfl⟩:=List.mem_map.1 aK
    obtain⟨I,ae,ax⟩:=h.lo x aa
    rw[(T x).id,U x]
    refine⟨I,ae,?_⟩
    split<;>simp only<;>omega
  · intro q aK i hi
    obtain⟨x,aa,rfl⟩:=List.mem_map.1 aK
    rw[(T x).parts] at hi
    rw[(T x).id]
    rcases h.part x aa i hi with h0|⟨I,p,ae,ax⟩
    · exact .inl h0
    · exact .inr ⟨I,_,List.mem_map.2 ⟨p,ae,rfl⟩,by rw[(T p).id,ax]⟩
  · intro a aV b ag hu
    obtain⟨x,aa,rfl⟩:=List.mem_map.1 aV
    obtain⟨y,aZ,rfl⟩:=List.mem_map.1 ag
    rw[(T x).id,(T y).id]
    rw[U x,U y] at hu
    have p7:=(h.lo x aa).2.2
    have ajO:=(h.lo y aZ).2.2
    by_cases aG:x.id=e.id
    · by_cases aE:y.id=e.id
      · rw[aG,aE]
      · rw[if_pos aG,if_neg aE] at hu;omega
    · by_cases aE:y.id=e.id
      · rw[if_neg aG,if_pos aE] at hu;omega
      · rw[if_neg aG,if_neg aE] at hu;exact h.one x aa y aZ hu
  · rw[List.pairwise_map]
    refine h.apart.imp λ{a b} fC=>?_
    rw[(T a).k,(T a).nm,(T a).ns,(T a).args,(T a).ret]
    cases ah:(kD e.id (s.clock+1) b).is a.k a.nm a.ns a.args a.ret with
    |false=>rfl
    |true=>
     obtain⟨aM,bf,ee,fQ,ox⟩:=sa.1 ah
     rw[(T b).k] at aM
     rw[(T b).nm] at bf
     rw[(T b).ns] at ee
     rw[(T b).args] at fQ
     rw[(T b).ret] at ox
     rw[sa.2 ⟨aM,bf,ee,fQ,ox⟩] at fC;cases fC
  · obtain⟨x,aa,rfl⟩:=List.mem_map.1 aK
    exact .inl ⟨x,aa,T x⟩
 |none=>
  simp only
  have aH:=List.find?_eq_none.1 hf
  refine⟨⟨?_,?_,?_,?_,?_⟩,⟨rfl,by simp only;omega,λx aa=>⟨x,List.mem_append_left _ aa,Alike.refl x⟩,λq aK=>?_⟩,⟨_,List.mem_append_right _ (List.mem_singleton.2 rfl),rfl⟩⟩
  · rw[List.pairwise_append]
    refine⟨h.up,List.pairwise_singleton ..,λa aV b ag=>?_⟩
    obtain rfl:=List.mem_singleton.1 ag
    have:=(h.lo a aV).2.1
    simp only;omega
  · intro q aK
    rcases List.mem_append.1 aK with aK|aK
    · obtain⟨I,ae,ax⟩:=h.lo q aK
      exact⟨I,by simp only;omega,by simp only;omega⟩
    · obtain rfl:=List.mem_singleton.1 aK
      exact⟨by simp only;omega,Nat.le_refl _,Nat.le_refl _⟩
  · intro q aK i hi
    rcases List.mem_append.1 aK with aK|aK
    · rcases h.part q aK i hi with h0|⟨I,p,ae,ax⟩
      · exact .inl h0
      · exact .inr ⟨I,p,List.mem_append_left _ ae,ax⟩
    · obtain rfl:=List.mem_singleton.1 aK
      rcases a0 i hi with h0|⟨p,ae,ax⟩
      · exact .inl h0
      · refine .inr ⟨?_,p,List.mem_append_left _ ae,ax⟩
        have:=(h.lo p ae).2.1
        simp only;omega
  · intro a aV b ag hu
    rcases List.mem_append.1 aV with aV|aV
    · rcases List.mem_append.1 ag with ag|ag
      · exact h.one a aV b ag hu
      · obtain rfl:=List.mem_singleton.1 ag
        have:=(h.lo a aV).2.2
        simp only at hu;omega
    · obtain rfl:=List.mem_singleton.1 aV
      rcases List.mem_append.1 ag with ag|ag
      · have:=(h.lo b ag).2.2
        simp only at hu;omega
      · obtain rfl:=List.mem_singleton.1 ag
        rfl
  · rw[List.pairwise_append]
    refine⟨h.apart,List.pairwise_singleton ..,λa aV b ag=>?_⟩
    obtain rfl:=List.mem_singleton.1 ag
    rw[Q0]
    simpa using aH a aV
  · rcases List.mem_append.1 aK with aK|aK
    · exact .inl ⟨q,aK,Alike.refl q⟩
    · obtain rfl:=List.mem_singleton.1 aK
      exact .inr ⟨by simp only;omega,rfl⟩
mutual
theorem oA:∀(t:aJ) {s:bZ},eg s->eg (ch t s).2/\nF s (ch t s).2/\Has (ch t s).2 (ch t s).1
 |.mk k nm ns xs rt,s,h=>by
  obtain⟨I,ak,cT⟩:=sb xs h
  obtain⟨ae,av,dv⟩:=B4 rt I
  rw[ch]
  obtain⟨ax,aD,eY⟩:=JP ae (k:=k) (nm:=nm) (ns:=ns) (az:=(cf xs s).1) (r:=(fM rt (cf xs s).2).1) λi hi=>by
   rcases List.mem_cons.1 hi with rfl|hi
   · exact dv
   · exact .inr ((cT i hi).qZ av)
  exact⟨ax,(ak.trans av).trans aD,eY⟩
theorem sb:∀(l:List aJ) {s:bZ},eg s->eg (cf l s).2/\nF s (cf l s).2/\∀i∈(cf l s).1,Has (cf l s).2 i
 |[],s,h=>by rw[cf];exact⟨h,nF.refl s,λi hi=>by cases hi⟩
 |t::l,s,h=>by
  obtain⟨I,ak,cT⟩:=oA t h
  obtain⟨ae,av,dv⟩:=sb l I
  rw[cf]
  refine⟨ae,ak.trans av,λi hi=>?_⟩
  rcases List.mem_cons.1 hi with rfl|hi
  · exact cT.qZ av
  · exact dv i hi
theorem B4:∀(o:Option aJ) {s:bZ},eg s->eg (fM o s).2/\nF s (fM o s).2/\((fM o s).1=0\/Has (fM o s).2 (fM o s).1)
 |none,s,h=>by rw[fM];exact⟨h,nF.refl s,.inl rfl⟩
 |some t,s,h=>by
  obtain⟨I,ak,cT⟩:=oA t h
  rw[fM]
  exact⟨I,ak,.inr cT⟩
end
structure zh(f:b3->b3):Prop where
 id:∀e,(f e).id=e.id
 parts:∀e,(f e).parts=e.parts
 used:∀e,(f e).used=e.used
 is:∀e k nm ns az r,(f e).is k nm ns az r=e.is k nm ns az r
 a1:∀e,(f e).k=e.k/\(f e).nm=e.nm/\(f e).ns=e.ns/\(f e).args=e.args/\(f e).ret=e.ret
theorem tm(i:Nat):zh (jZ i):=by
 refine⟨λe=>?_,λe=>?_,λe=>?_,λe k nm ns az r=>?_,λe=>?_⟩<;>unfold jZ<;>split<;>first|rfl|exact⟨rfl,rfl,rfl,rfl,rfl⟩
theorem zi(i:Nat):zh (kY i):=by
 refine⟨λe=>?_,λe=>?_,λe=>?_,λe k nm ns az r=>?_,λe=>?_⟩<;>unfold kY<;>split<;>first|rfl|exact⟨rfl,rfl,rfl,rfl,rfl⟩
theorem eg.map{s:bZ}(h:eg s){f:b3->b3}(F:zh f):eg {s with l:=s.l.map f}:=by
 refine⟨?_,?_,?_,?_,?_⟩
 · show(s.l.map f).Pairwise _
   rw[List.pairwise_map]
   exact h.up.imp λ{a b} fC=>by rw[F.id,F.id];exact fC
 · intro q aK
   obtain⟨x,aa,rfl⟩:=List.mem_map.1 aK
   rw[F.id,F.used]
   exact h.lo x aa
 · intro q aK i hi
   obtain⟨x,aa,rfl⟩:=List.mem_map.1 aK
   rw[F.parts] at hi
   rw[F.id]
   rcases h.part x aa i hi with h0|⟨I,p,ae,ax⟩
   · exact .inl h0
   · exact .inr ⟨I,_,List.mem_map.2 ⟨p,ae,rfl⟩,by rw[F.id,ax]⟩
 · intro a aV b ag hu
   obtain⟨x,aa,rfl⟩:=List.mem_map.1 aV
   obtain⟨y,aZ,rfl⟩:=List.mem_map.1 ag
   rw[F.used,F.used] at hu
   rw[F.id,F.id]
   exact h.one x aa y aZ hu
 · show(s.l.map f).Pairwise _
   rw[List.pairwise_map]
   refine h.apart.imp λ{a b} fC=>?_
   obtain⟨I,ae,ax,aN,bS⟩:=F.a1 a
   rw[I,ae,ax,aN,bS,F.is]
   exact fC
theorem zj(cap:Nat):∀(n:Nat) (l:List b3),∀e∈h9 cap n l,e∈l
 |0,l,e,h=>h
 |n+1,l,e,h=>by
  rw[h9] at h
  split at h
  · cases ag:jD l l with
    |none=>rw[ag] at h;exact h
    |some x=>rw[ag] at h;exact(oz.1 (zj cap n _ e h)).1
  · exact h
theorem Q1(cap:Nat):∀(n:Nat) (l:List b3),∀e∈l,(∀x∈l,x.id=e.id->x.pins≠0)->e∈h9 cap n l
 |0,l,e,h,_=>h
 |n+1,l,e,h,a0=>by
  rw[h9]
  split
  · cases ag:jD l l with
    |none=>exact h
    |some x=>
     obtain⟨I,ae,_⟩:=vd ag
     refine Q1 cap n _ e (oz.2 ⟨h,λdc=>a0 x I dc.symm (vc.1 ae).1⟩) λy aZ=>a0 y (oz.1 aZ).1
  · exact h
theorem adl{l:List b3}{e:b3}(h:e∈l):(hH e.id l).length<l.length:=by
 unfold hH
 refine List.length_filter_lt_length_iff_exists.2 ⟨e,h,?_⟩
 simp[Nat.beq_refl]
theorem Q2{s:bZ}:∀(n:Nat) (l:List b3),eg {s with l:=l}->(∀e∈l,e.pins=0)->l.length<=n->h9 0 n l=[]
 |0,l,h,a0,aH=>List.length_eq_zero_iff.1 (by rw[h9];omega)
 |n+1,l,h,a0,aH=>by
  rw[h9]
  split
  · rename_i h0
    have aA:l≠[]:=by intro e;rw[e] at h0;simp at h0
    cases ag:jD l l with
    |none=>exact absurd ag (eg.least h a0 aA)
    |some e=>
     obtain⟨I,ae,_⟩:=vd ag
     have:=adl I
     exact Q2 n _ (eg.drop h (vc.1 ae).2) (λx aa=>a0 x (oz.1 aa).1) (by omega)
  · exact List.length_eq_zero_iff.1 (by omega)
theorem adm(t:aJ){s:bZ}(h:eg s):eg (gl t s).2:=JO _ _ ((oA t h).1.map (tm _))
theorem B5{i:Nat}{l:List b3}{e:b3}(h:nE i l=some e):e∈l/\e.id=i:=by
 refine⟨List.mem_of_find?_eq_some h,?_⟩
 have:=List.find?_some h
 exact Nat.eq_of_beq_eq_true this
theorem adn(t:aJ){s:bZ}(h:eg s):∃e∈(gl t s).2.l,e.id=(gl t s).1/\e.pins≠0:=by
 obtain⟨I,ak,p,a0,hi⟩:=oA t h
 have ay:=I.map (tm (ch t s).1)
 have pp:(jZ (ch t s).1 p).pins≠0:=by unfold jZ;rw[if_pos hi];simp
 have pi:(jZ (ch t s).1 p).id=(ch t s).1:=((tm _).id p).trans hi
 refine⟨jZ (ch t s).1 p,Q1 _ _ _ _ (List.mem_map.2 ⟨p,a0,rfl⟩) λx aa e=>?_,pi,pp⟩
 have:=adk ay.up aa (List.mem_map.2 ⟨p,a0,rfl⟩) e
 rw[this];exact pp
theorem never(t:aJ){s:bZ}(h:eg s)(h0:s.l=[])(ah:s.cap=0):s.given<(gl t s).1/\(gl t s).1<=(gl t s).2.given/\(gl t s).2.cap=0/\(iI (gl t s).1 (gl t s).2).1=0/\(iI (gl t s).1 (gl t s).2).2.l=[]/\(iI (gl t s).1 (gl t s).2).2.cap=0/\(iI (gl t s).1 (gl t s).2).2.given=(gl t s).2.given:=by
 obtain⟨I,ak,p,a0,hi⟩:=oA t h
 have mb:(ch t s).2.cap=0:=ak.cap.trans ah
 have Q3:=adm t h
 obtain⟨e,he,zk,ajP⟩:=adn t h
 have JQ:(gl t s).2.cap=0:=mb
 have new:∀q∈(ch t s).2.l,s.given<q.id/\q.pins=0:=λq aK=>by
  rcases ak.new q aK with⟨x,aa,_⟩|ae
  · rw[h0] at aa;cases aa
  · exact ae
 have lo:=Q3.lo e he
 rw[zk] at lo
 have pins:∀x∈(gl t s).2.l,x.pins=if x.id=(gl t s).1 then 1 else 0:=λx aa=>by
  obtain⟨y,aZ,rfl⟩:=List.mem_map.1 (zj _ _ _ x aa)
  obtain⟨_,ax⟩:=new y aZ
  have jf:=(tm (ch t s).1).id y
  show(jZ (ch t s).1 y).pins=if(jZ (ch t s).1 y).id=(ch t s).1 then 1 else 0
  rw[jf]
  unfold jZ
  split
  · show y.pins+1=1;omega
  · exact ax
 have hf:∃x,nE (gl t s).1 (gl t s).2.l=some x:=by
  cases aa:nE (gl t s).1 (gl t s).2.l with
  |some x=>exact⟨x,rfl⟩
  |none=>
   have:=List.find?_eq_none.1 aa e he
   rw[zk] at this;simp[Nat.beq_refl] at this
 obtain⟨x,aa⟩:=hf
 obtain⟨bF,cJ⟩:=B5 aa
 have ado:=pins x bF
 rw[if_pos cJ] at ado
 have c6:iI (gl t s).1 (gl t s).2=(0,oy {(gl t s).2 with l:=(gl t s).2.l.map (kY (gl t s).1)}):=by
  unfold iI
  rw[aa]
  simp only
  rw[if_neg (by omega)]
 rw[c6]
 refine⟨?_,lo.2.1,JQ,rfl,?_,JQ,rfl⟩
 · show s.given<(ch t s).1
   have:=(new p a0).1
   omega
 · show h9 (gl t s).2.cap _ _=[]
   rw[JQ]
   refine Q2 (s:=(gl t s).2) _ _ (Q3.map (zi _)) (λq aK=>?_) (Nat.le_refl _)
   obtain⟨y,aZ,rfl⟩:=List.mem_map.1 aK
   have hyp:=pins y aZ
   unfold kY
   split
   · rename_i aN
     rw[if_pos aN] at hyp
     show y.pins-1=0;omega
   · rename_i aN
     rw[if_neg aN] at hyp
     exact hyp
mutual
def gC(l:List b3):Nat->aJ->Prop
 |i,.mk k nm ns xs rt=>∃e∈l,e.id=i/\e.k=k/\e.nm=nm/\e.ns=ns/\kZ l e.args xs/\nG l e.ret rt
def kZ(l:List b3):List Nat->List aJ->Prop
 |m6,[]=>m6=[]
 |m6,t::cF=>∃i fr,m6=i::fr/\gC l i t/\kZ l fr cF
def nG(l:List b3):Nat->Option aJ->Prop
 |r,none=>r=0
 |r,some t=>gC l r t
end
mutual
theorem gC.bB{l m:List b3}{Q:Nat->Prop}(h:∀e∈l,Q e.id->∃q∈m,q.id=e.id/\q.k=e.k/\q.nm=e.nm/\q.ns=e.ns/\q.args=e.args/\q.ret=e.ret)(aK:∀e∈l,Q e.id->∀i∈e.parts,i=0\/Q i)(h0:∀e∈l,e.id≠0):∀{t:aJ} {i:Nat},Q i->gC l i t->gC m i t
 |.mk k nm ns xs rt,i,hi,ao=>by
  rw[gC] at ao⊢
  obtain⟨e,he,rfl,I,ae,ax,aN,bS⟩:=ao
  obtain⟨q,hm,a8,a2,bX,eG,gi,B6⟩:=h e he hi
  have a0:=aK e he hi
  refine⟨q,hm,a8,a2.trans I,bX.trans ae,eG.trans ax,?_,?_⟩
  · rw[gi];exact kZ.bB h aK h0 (λj aO=>a0 j (List.mem_cons_of_mem _ aO)) aN
  · rw[B6];exact nG.bB h aK h0 (a0 _ (List.mem_cons_self ..)) bS
theorem kZ.bB{l m:List b3}{Q:Nat->Prop}(h:∀e∈l,Q e.id->∃q∈m,q.id=e.id/\q.k=e.k/\q.nm=e.nm/\q.ns=e.ns/\q.args=e.args/\q.ret=e.ret)(aK:∀e∈l,Q e.id->∀i∈e.parts,i=0\/Q i)(h0:∀e∈l,e.id≠0):∀{cF:List aJ} {m6:List Nat},(∀j∈m6,j=0\/Q j)->kZ l m6 cF->kZ m m6 cF
 |[],m6,_,ao=>by rw[kZ] at ao⊢;exact ao
 |t::cF,m6,aO,ao=>by
  rw[kZ] at ao⊢
  obtain⟨i,fr,rfl,I,ae⟩:=ao
  refine⟨i,fr,rfl,?_,kZ.bB h aK h0 (λj hx=>aO j (List.mem_cons_of_mem _ hx)) ae⟩
  rcases aO i (List.mem_cons_self ..) with c6|hi
  · obtain⟨k,nm,ns,xs,rt⟩:=t
    rw[gC] at I
    obtain⟨e,he,ax,_⟩:=I
    exact absurd (ax.trans c6) (h0 e he)
  · exact gC.bB h aK h0 hi I
theorem nG.bB{l m:List b3}{Q:Nat->Prop}(h:∀e∈l,Q e.id->∃q∈m,q.id=e.id/\q.k=e.k/\q.nm=e.nm/\q.ns=e.ns/\q.args=e.args/\q.ret=e.ret)(aK:∀e∈l,Q e.id->∀i∈e.parts,i=0\/Q i)(h0:∀e∈l,e.id≠0):∀{o:Option aJ} {r:Nat},(r=0\/Q r)->nG l r o->nG m r o
 |none,r,_,ao=>by rw[nG] at ao⊢;exact ao
 |some t,r,aO,ao=>by
  rw[nG] at ao⊢
  rcases aO with c6|hi
  · obtain⟨k,nm,ns,xs,rt⟩:=t
    rw[gC] at ao
    obtain⟨e,he,ax,_⟩:=ao
    exact absurd (ax.trans c6) (h0 e he)
  · exact gC.bB h aK h0 hi ao
end
theorem gC.qZ{s s':bZ}(al:eg s)(g:nF s s'){t:aJ}{i:Nat}(h:gC s.l i t):gC s'.l i t:=
 gC.bB (Q:=λ_=>True) (λe he _=>by obtain⟨q,aK,a⟩:=g.old e he;exact⟨q,aK,a.id,a.k,a.nm,a.ns,a.args,a.ret⟩) (λ_ _ _ _ _=>.inr trivial) (λe he=>by have:=(al.lo e he).1;omega) trivial h
theorem kZ.qZ{s s':bZ}(al:eg s)(g:nF s s'){t:List aJ}{i:List Nat}(h:kZ s.l i t):kZ s'.l i t:=
 kZ.bB (Q:=λ_=>True) (λe he _=>by obtain⟨q,aK,a⟩:=g.old e he;exact⟨q,aK,a.id,a.k,a.nm,a.ns,a.args,a.ret⟩) (λ_ _ _ _ _=>.inr trivial) (λe he=>by have:=(al.lo e he).1;omega) (λ_ _=>.inr trivial) h
theorem gC.map{s:bZ}(al:eg s){f:b3->b3}(F:zh f){t:aJ}{i:Nat}(h:gC s.l i t):gC (s.l.map f) i t:=
 gC.bB (Q:=λ_=>True) (λe he _=>by obtain⟨I,ae,ax,aN,bS⟩:=F.a1 e;exact⟨f e,List.mem_map.2 ⟨e,he,rfl⟩,F.id e,I,ae,ax,aN,bS⟩) (λ_ _ _ _ _=>.inr trivial) (λe he=>by have:=(al.lo e he).1;omega) trivial h
theorem gC.drop{s:bZ}(al:eg s){d:Nat}(ai:∀x∈s.l,d∉x.parts){t:aJ}{i:Nat}(hi:i≠d)(h:gC s.l i t):gC (hH d s.l) i t:=
 gC.bB (Q:=λj=>j≠d) (λe he aK=>⟨e,oz.2 ⟨he,aK⟩,rfl,rfl,rfl,rfl,rfl,rfl⟩) (λe he _ j aO=>.inr λdc=>ai e he (by rw[<-dc];exact aO)) (λe he=>by have:=(al.lo e he).1;omega) hi h
theorem adp{s:bZ}{k:Nat}{nm:bb}{ns:List bb}{az:List Nat}{r:Nat}:∃e∈(hG k nm ns az r s).2.l,e.id=(hG k nm ns az r s).1/\e.k=k/\e.nm=nm/\e.ns=ns/\e.args=az/\e.ret=r:=by
 unfold hG
 cases hf:s.l.find? (b3.is k nm ns az r) with
 |some e=>
  simp only
  have he:=List.mem_of_find?_eq_some hf
  have I:=List.find?_some hf
  obtain⟨cu,cU,dm,e0,ey⟩:=sa.1 I
  have T:=B3 e.id (s.clock+1) e
  exact⟨_,List.mem_map.2 ⟨e,he,rfl⟩,T.id,T.k.trans cu,T.nm.trans cU,T.ns.trans dm,T.args.trans e0,T.ret.trans ey⟩
 |none=>exact⟨_,List.mem_append_right _ (List.mem_singleton.2 rfl),rfl,rfl,rfl,rfl,rfl,rfl⟩
mutual
theorem JR:∀(t:aJ) {s:bZ},eg s->gC (ch t s).2.l (ch t s).1 t
 |.mk k nm ns xs rt,s,h=>by
  obtain⟨I,ak,cT⟩:=sb xs h
  obtain⟨ae,av,dv⟩:=B4 rt I
  have r1:=Q4 xs h
  have r2:=adq rt I
  obtain⟨ax,aD,eY⟩:=JP ae (k:=k) (nm:=nm) (ns:=ns) (az:=(cf xs s).1) (r:=(fM rt (cf xs s).2).1) λi hi=>by
   rcases List.mem_cons.1 hi with rfl|hi
   · exact dv
   · exact .inr ((cT i hi).qZ av)
  rw[ch,gC]
  obtain⟨e,he,aG,aE,bH,eu,eZ,hd⟩:=adp (k:=k) (nm:=nm) (ns:=ns) (az:=(cf xs s).1) (r:=(fM rt (cf xs s).2).1) (s:=(fM rt (cf xs s).2).2)
  refine⟨e,he,aG,aE,bH,eu,?_,?_⟩
  · rw[eZ];exact(r1.qZ I av).qZ ae aD
  · rw[hd]
    cases rt with
    |none=>exact r2
    |some t=>exact gC.qZ ae aD r2
theorem Q4:∀(l:List aJ) {s:bZ},eg s->kZ (cf l s).2.l (cf l s).1 l
 |[],s,h=>by rw[cf,kZ]
 |t::l,s,h=>by
  obtain⟨I,ak,cT⟩:=oA t h
  obtain⟨ae,av,dv⟩:=sb l I
  have r1:=JR t h
  have r2:=Q4 l I
  rw[cf,kZ]
  exact⟨_,_,rfl,r1.qZ I av,r2⟩
theorem adq:∀(o:Option aJ) {s:bZ},eg s->nG (fM o s).2.l (fM o s).1 o
 |none,s,h=>by rw[fM,nG]
 |some t,s,h=>by rw[fM,nG];exact JR t h
end
theorem gC.adr{l:List b3}{i:Nat}{t:aJ}(h:gC l i t):∃e∈l,e.id=i:=by
 obtain⟨k,nm,ns,xs,rt⟩:=t
 rw[gC] at h
 obtain⟨e,he,I,_⟩:=h
 exact⟨e,he,I⟩
def AS(l:List b3)(L:List Nat):Prop:=∀e∈l,e.id∈L->∀p∈e.parts,p=0\/p∈L
theorem lK{t:aJ}:dE (some t)=0<->sz t<=60/\eW t=true:=by
 simp only[dE]
 split
 · constructor
   · intro h;cases h
   · rintro⟨h,_⟩;omega
 · split
   · rename_i I ae;exact⟨λ_=>⟨by omega,ae⟩,λ_=>rfl⟩
   · rename_i I ae
     constructor
     · intro h;cases h
     · rintro⟨_,h⟩;exact absurd h ae
theorem B7{t:aJ}(h:eW t=true):r_ t=if sz t<=60 then t else r9:=by
 unfold r_
 by_cases cz:sz t<=60
 · rw[if_pos cz,if_pos (lK.2 ⟨cz,h⟩)]
 · rw[if_neg cz,if_neg λe=>cz (lK.1 e).1]
theorem JS{l:List aJ}(h:∀t∈l,dE (some t)=0):iG l=true:=by
 induction l with
 |nil=>rw[iG]
 |cons x l bl=>
  rw[iG,(lK.1 (h x (List.mem_cons_self ..))).2,bl λt bm=>h t (List.mem_cons_of_mem _ bm)];rfl
theorem ads{l:List aJ}(h:∀t∈l,dE (some t)=0):dH l<=60*l.length:=by
 induction l with
 |nil=>rw[dH];exact Nat.zero_le _
 |cons x l bl=>
  have I:=(lK.1 (h x (List.mem_cons_self ..))).1
  have ae:=bl λt bm=>h t (List.mem_cons_of_mem _ bm)
  rw[dH,List.length_cons];omega
theorem adt{l:List aJ}(h:∀t∈l,dE (some t)=0)(ax:l.length<=3):eW (.mk 7 [] (g8.take l.length) l none)=true:=by
 have hm:=JS h
 have aA:l.length=0\/l.length=1\/l.length=2\/l.length=3:=by omega
 rw[o_,hm,fK]
 have aH:lg none (g8.take l.length)=true:=by rcases aA with e|e|e|e<;>rw[e]<;>decide+kernel
 have a0:jm 7 [] (g8.take l.length).length l.length (none:Option aJ).isSome=true:=by rcases aA with e|e|e|e<;>rw[e]<;>decide+kernel
 have ay:(g8.take l.length).length=l.length:=by rw[List.length_take];show min l.length 3=_;omega
 rw[a0,aH,ay]
 simp
theorem Q5{l:List aJ}{x:aJ}(h:∀t∈l,dE (some t)=0)(aa:dE (some x)=0):eW (.mk 8 [] [] l (some x))=true:=by
 rw[o_,JS h,fK,jV,(lK.1 aa).2,jm]
 simp[c1]
theorem Q6:∀a b c:bb,eA a b=true->eA b c=true->eA a c=true
 |[],[],_,h,_=>by cases h
 |_::_,[],_,h,_=>by cases h
 |[],_::_,[],_,h=>by cases h
 |_::_,_::_,[],_,h=>by cases h
 |[],_::_,_::_,_,_=>rfl
 |x::a,y::b,z::c,I,ae=>by
  rw[BB] at I ae⊢
  by_cases aG:x.toNat=y.toNat
  · rw[if_pos aG] at I
    by_cases aE:y.toNat=z.toNat
    · rw[if_pos aE] at ae;rw[if_pos (aG.trans aE)];exact Q6 a b c I ae
    · rw[if_neg aE] at ae;rw[if_neg (by omega)];simp at ae⊢;omega
  · rw[if_neg aG] at I
    by_cases aE:y.toNat=z.toNat
    · rw[if_neg (by omega)];simp at I⊢;omega
    · rw[if_neg aE] at ae;simp at I ae;rw[if_neg (by omega)];simp;omega
def ve(l:List aJ):Prop:=l.Pairwise λa b=>eA (wr a) (wr b)=true
theorem Q7{t:aJ}:∀{l:List aJ},ve l->ve (jC t l)
 |[],_=>List.pairwise_singleton ..
 |x::l,h=>by
  unfold ve at h⊢
  have h0:=h
  rw[List.pairwise_cons] at h
  rw[jC]
  by_cases I:eA (wr x) (wr t)=true
  · rw[if_pos I,List.pairwise_cons]
    refine⟨λb ag=>?_,Q7 h.2⟩
    rcases JL ag with rfl|ag
    · exact I
    · exact h.1 b ag
  rw[if_neg I]
  by_cases ae:wr x=wr t
  · rw[if_pos ae];exact h0
  rw[if_neg ae,List.pairwise_cons]
  have ax:eA (wr t) (wr x)=true:=by
   cases e:eA (wr t) (wr x) with
   |true=>rfl
   |false=>exact absurd (Jo _ _ (by simpa using I) e) ae
  refine⟨λb ag=>?_,h0⟩
  rcases List.mem_cons.1 ag with rfl|ag
  · exact ax
  · exact Q6 _ _ _ ax (h.1 b ag)
theorem Q8:∀(l a:List aJ),ve a->ve (l.foldl (λa t=>jC t a) a)
 |[],a,h=>h
 |t::l,a,h=>Q8 l _ (Q7 h)
theorem Q9{t:aJ}:∀(l:List aJ),l.length<=(jC t l).length/\(jC t l).length<=l.length+1/\0<(jC t l).length
 |[]=>by simp[jC]
 |x::l=>by
  have:=Q9 (t:=t) l
  rw[jC]
  split
  · simp only[List.length_cons];omega
  · split<;>simp only[List.length_cons]<;>omega
theorem B8:∀(l a:List aJ),a.length<=(l.foldl (λa t=>jC t a) a).length/\(l.foldl (λa t=>jC t a) a).length<=a.length+l.length/\(0<l.length->0<(l.foldl (λa t=>jC t a) a).length)
 |[],a=>⟨Nat.le_refl _,Nat.le_add_right ..,λh=>absurd h (by simp)⟩
 |t::l,a=>by
  obtain⟨I,ae,ax⟩:=B8 l (jC t a)
  have:=Q9 (t:=t) a
  simp only[List.foldl_cons,List.length_cons]
  exact⟨by omega,by omega,λ_=>by omega⟩
theorem Q_:∀(p:Option bb) (l:List aJ),ve l->(∀t∈l,t.k≠9/\t.k≠1)->(∀t,l[0]? =some t->oi p (wr t)=true)->mr p (l.map aJ.k) (cM l)=true
 |_,[],_,_,_=>by rw[cM];rfl
 |p,t::l,h,ay,a0=>by
  unfold ve at h
  rw[List.pairwise_cons] at h
  rw[List.map_cons,cM]
  have I:=ay t (List.mem_cons_self ..)
  have bl:=Q_ (some (wr t)) l h.2 (λu hu=>ay u (List.mem_cons_of_mem _ hu)) λu hu=>h.1 u (List.mem_of_getElem? hu)
  unfold mr
  rw[bl,a0 t rfl]
  simp[I.1,I.2]
theorem adu{t u:aJ}(h:eW t=true)(ay:t.k=9)(hu:u∈t.xs):u.k≠9/\u.k≠1:=by
 obtain⟨k,nm,ns,xs,rt⟩:=t
 obtain rfl:k=9:=ay
 rw[o_,fK] at h
 simp only[Bool.and_eq_true] at h
 have oK:u∈xs:=hu
 have I:mr none (xs.map aJ.k) (cM xs)=true/\2<=xs.length:=by simpa using h.2.2.2
 clear h
 have key:∀(p:Option bb) (l:List aJ),mr p (l.map aJ.k) (cM l)=true->∀u∈l,u.k≠9/\u.k≠1:=by
  intro p l
  induction l generalizing p with
  |nil=>intro _ u hu;cases hu
  |cons x l bl=>
   intro h u hu
   rw[List.map_cons,cM] at h
   unfold mr at h
   simp only[Bool.and_eq_true] at h
   rcases List.mem_cons.1 hu with rfl|hu
   · simpa using h.1
   · exact bl _ h.2.2 u hu
 exact key none xs I.1 u oK
theorem adv{t:aJ}(h:eW t=true)(ay:t.k=9):2<=t.xs.length:=by
 obtain⟨k,nm,ns,xs,rt⟩:=t
 obtain rfl:k=9:=ay
 rw[o_,fK] at h
 simp only[Bool.and_eq_true] at h
 have I:mr none (xs.map aJ.k) (cM xs)=true/\2<=xs.length:=by simpa using h.2.2.2
 exact I.2
theorem Ra{u:aJ}:∀{l f:List aJ},(∀t∈l,dE (some t)=0)->iv l=some f->u∈f->u.k≠9/\u.k≠1
 |[],f,_,h,hu=>by cases h;cases hu
 |t::l,f,aA,h,hu=>by
  rw[iv] at h
  have I:=(lK.1 (aA t (List.mem_cons_self ..))).2
  split at h
  · cases h
  · rename_i adw
    cases e:iv l with
    |none=>rw[e] at h;cases h
    |some r=>
     rw[e] at h
     cases h
     rcases List.mem_append.1 hu with hu|hu
     · split at hu
       · rename_i B9;exact adu I B9 hu
       · rename_i B9
         obtain rfl:u=t:=by simpa using hu
         exact⟨B9,adw⟩
     · exact Ra (λt bm=>aA t (List.mem_cons_of_mem _ bm)) e hu
theorem Rb{l f:List aJ}(aA:∀t∈l,dE (some t)=0)(h0:0<l.length)(h:iv l=some f):0<f.length:=by
 cases l with
 |nil=>exact absurd h0 (by simp)
 |cons t l=>
  rw[iv] at h
  have I:=(lK.1 (aA t (List.mem_cons_self ..))).2
  split at h
  · cases h
  · cases e:iv l with
    |none=>rw[e] at h;cases h
    |some r=>
     rw[e] at h
     cases h
     rw[List.length_append]
     split
     · rename_i B9;have:=adv I B9;omega
     · simp;omega
theorem JT:∀{l f:List aJ},(∀t∈l,dE (some t)=0)->iv l=some f->f.length<=60*l.length/\dH f<=60*l.length
 |[],f,_,h=>by cases h;exact⟨Nat.le_refl _,by rw[dH];exact Nat.zero_le _⟩
 |t::l,f,aA,h=>by
  rw[iv] at h
  have I:=(lK.1 (aA t (List.mem_cons_self ..))).1
  split at h
  · cases h
  · cases e:iv l with
    |none=>rw[e] at h;cases h
    |some r=>
     rw[e] at h
     cases h
     have bl:=JT (λt bm=>aA t (List.mem_cons_of_mem _ bm)) e
     have ae:dH (if t.k=9 then t.xs else[t])<=60:=by
      split
      · obtain⟨k,nm,ns,xs,rt⟩:=t
        rw[l3] at I
        show dH xs<=60
        omega
      · rw[dH,dH];omega
     have key:∀a b:List aJ,dH (a++b)=dH a+dH b:=by
      intro a b
      induction a with
      |nil=>rw[dH,List.nil_append];omega
      |cons x a bl=>rw[List.cons_append,dH,bl,dH];omega
     have ax:=mo (if t.k=9 then t.xs else[t])
     rw[List.length_append,List.length_cons,key]
     omega
theorem Rc{l f:List aJ}(h:∀t∈l,dE (some t)=0)(h0:0<l.length)(hf:iv l=some f)(I:(fE f).length≠1):eW (.mk 9 [] [] (fE f) none)=true:=by
 have hu:ve (fE f):=Q8 f [] List.Pairwise.nil
 have a0:=(B8 f []).2.2 (Rb h h0 hf)
 have a0:0<(fE f).length:=a0
 have hm:∀t∈fE f,t∈f:=λt bm=>by
  rcases B2 f [] bm with h|h
  · exact h
  · cases h
 have ah:∀t∈fE f,dE (some t)=0:=λt bm=>by
  rcases Fk hf (hm t bm) with hm|⟨x,I,ae⟩
  · exact h t hm
  · exact pk (h x I) ae
 rw[o_,JS ah,fK,Q_ none _ hu (λt bm=>Ra h hf (hm t bm)) λt _=>rfl]
 have:2<=(fE f).length:=by omega
 simp[jm,c1,this]
theorem rec_eq{l:List aJ}(h:∀t∈l,dE (some t)=0)(ax:l.length<=3):JI l=if sz (.mk 7 [] (g8.take l.length) l none)<=60 then .mk 7 [] (g8.take l.length) l none else r9:=B7 (adt h ax)
end Go.Proofs.kU
