/-
  PROVED HERE: contracts of functions (Dh). No condition beside each statement's own.
-/
import Derived.Test.YtjkomfonmcmgdaaGreatDoorDc
import Derived.Test.YtjkomfonmcmgdaaGreatDoorDf
set_option linter.unusedVariables false
set_option linter.unusedSimpArgs false
set_option maxRecDepth 100000
set_option maxHeartbeats 1000000
namespace Go.Proofs.jj
open Go bt Go.Proofs hy Go.Proofs.jk
structure fm where
 left:a7
 nodes:Nat
def dg(n:Nat)(m:fm):Nat×fm:=match m.left with
 |[]=>(0,m)
 |c::l=>(c.toNat %n,⟨l,m.nodes⟩)
def qB:aC:=.mk 2 [] [] [] none
def Hn:aC:=.mk 1 [] [] [] none
def qC(t:aC):aC:=if dv (some t)=0 then t else qB
def gp:List a7:=[[97],[98],[99]]
def Ho(l:List aC):aC:=qC (.mk 7 [] (gp.take l.length) l none)
def C5:List aC->aC
 |[]=>qB
 |x::l=>qC (.mk 8 [] [] l (some x))
def hA:List aC->Option (List aC)
 |[]=>some []
 |t::l=>if t.k=1 then none else(hA l).map λr=>(if t.k=9 then t.xs else[t])++r
def iE(t:aC):List aC->List aC
 |[]=>[t]
 |x::l=>if dO (wr x) (wr t)=true then x::iE t l else if wr x=wr t then x::l else t::x::l
def eW(l:List aC):List aC:=l.foldl (λa t=>iE t a) []
def nT(l:List aC):aC:=match hA l with
 |none=>Hn
 |some f=>match eW f with
  |[t]=>t
  |out=>qC (.mk 9 [] [] out none)
def xq(n:Nat):a7:=if n=0 then[109,46,84] else[109,46,85]
def f_(k:Nat)(l:List aC)(m:fm):aC×fm:=
 if k=6 then(.mk 6 (xq (dg 2 m).1) [] [] none,(dg 2 m).2) else if k=7 then(Ho l,m) else if k=8 then(C5 l,m) else if k=9 then(nT l,m) else(.mk k [] [] [] none,m)
def h2(f:fm->aC×fm):Nat->fm->List aC×fm
 |0,m=>([],m)
 |n+1,m=>((f m).1::(h2 f n (f m).2).1,(h2 f n (f m).2).2)
def eN:Nat->fm->aC×fm
 |0,m=>
  let a:=dg 9 ⟨m.left,m.nodes+1⟩
  let b:=dg 5 a.2
  let c:=dg 3 b.2
  f_ (1+b.1) [] c.2
 |d+1,m=>
  let a:=dg 9 ⟨m.left,m.nodes+1⟩
  let b:=if 40<m.nodes+1 then dg 5 a.2 else a
  let c:=dg 3 b.2
  let l:=if 7<=1+b.1 then h2 (eN d) (c.1+1) c.2 else([],c.2)
  f_ (1+b.1) l.1 l.2
def hB(s:a7):aC:=(eN 3 ⟨s.take (min s.length 60),0⟩).1
theorem Hp(t:aC):dv (some (qC t))=0:=by
 unfold qC
 by_cases h:dv (some t)=0
 · rw[if_pos h,h]
 · rw[if_neg h];decide+kernel
theorem Hq(k:Nat)(aa:1<=k)(ad:k<=5):dv (some (.mk k [] [] [] none))=0:=by
 have:k=1\/k=2\/k=3\/k=4\/k=5:=by omega
 rcases this with rfl|rfl|rfl|rfl|rfl<;>decide+kernel
theorem aaA(n:Nat):dv (some (.mk 6 (xq n) [] [] none))=0:=by
 unfold xq
 split<;>decide+kernel
theorem vd{t u:aC}(h:dv (some t)=0)(hu:u∈t.xs):dv (some u)=0:=by
 obtain⟨k,nm,ns,xs,rt⟩:=t
 have lX:u∈xs:=hu
 simp only[dv] at h⊢
 split at h
 · cases h
 · rename_i cq
   split at h
   · rename_i hm
     rw[nL] at hm
     simp only[Bool.and_eq_true] at hm
     have aa:=zL hm.2.2.1 lX
     have ad:=oH lX
     rw[mc] at cq
     rw[if_neg (by omega),if_pos aa]
   · cases h
theorem Hr{t u:aC}:∀{l:List aC},u∈iE t l->u=t\/u∈l
 |[],h=>by simpa[iE] using h
 |x::l,h=>by
  rw[iE] at h
  split at h
  · rcases List.mem_cons.1 h with rfl|h
    · exact .inr (List.mem_cons_self ..)
    · rcases Hr h with h|h
      · exact .inl h
      · exact .inr (List.mem_cons_of_mem _ h)
  · split at h
    · exact .inr h
    · rcases List.mem_cons.1 h with h|h
      · exact .inl h
      · exact .inr h
theorem z_{u:aC}:∀(l a:List aC),u∈l.foldl (λa t=>iE t a) a->u∈l\/u∈a
 |[],a,h=>.inr h
 |t::l,a,h=>by
  rcases z_ l _ h with h|h
  · exact .inl (List.mem_cons_of_mem _ h)
  · rcases Hr h with rfl|h
    · exact .inl (List.mem_cons_self ..)
    · exact .inr h
theorem C6{u:aC}:∀{l f:List aC},hA l=some f->u∈f->u∈l\/∃t∈l,u∈t.xs
 |[],f,h,hu=>by cases h;cases hu
 |t::l,f,h,hu=>by
  rw[hA] at h
  split at h
  · cases h
  · cases e:hA l with
    |none=>rw[e] at h;cases h
    |some r=>
     rw[e] at h
     cases h
     rcases List.mem_append.1 hu with hu|hu
     · split at hu
       · exact .inr ⟨t,List.mem_cons_self ..,hu⟩
       · obtain rfl:u=t:=by simpa using hu
         exact .inl (List.mem_cons_self ..)
     · rcases C6 e hu with h|⟨x,aa,ad⟩
       · exact .inl (List.mem_cons_of_mem _ h)
       · exact .inr ⟨x,List.mem_cons_of_mem _ aa,ad⟩
theorem aaB{l:List aC}(h:∀t∈l,dv (some t)=0):dv (some (nT l))=0:=by
 unfold nT
 cases e:hA l with
 |none=>exact Hq 1 (by omega) (by omega)
 |some f=>
  simp only
  split
  · rename_i t bc
    have hm:t∈eW f:=by rw[bc];exact List.mem_cons_self ..
    rcases z_ f [] hm with hm|hm
    · rcases C6 e hm with hm|⟨x,aa,ad⟩
      · exact h t hm
      · exact vd (h x aa) ad
    · cases hm
  · exact Hp _
theorem NZ{k:Nat}{l:List aC}(m:fm)(aa:1<=k)(ad:k<=9)(h:∀t∈l,dv (some t)=0):dv (some (f_ k l m).1)=0:=by
 unfold f_
 by_cases cq:k=6
 · rw[if_pos cq];exact aaA _
 rw[if_neg cq]
 by_cases di:k=7
 · rw[if_pos di];exact Hp _
 rw[if_neg di]
 by_cases hR:k=8
 · rw[if_pos hR]
   show dv (some (C5 l))=0
   cases l with
   |nil=>exact Hq 2 (by omega) (by omega)
   |cons x l=>exact Hp _
 rw[if_neg hR]
 by_cases g5:k=9
 · rw[if_pos g5];exact aaB h
 rw[if_neg g5]
 exact Hq k aa (by omega)
theorem Hs{f:fm->aC×fm}(P:aC->Prop)(h:∀m,P (f m).1):∀n m,∀t∈(h2 f n m).1,P t
 |0,m,t,bc=>by cases bc
 |n+1,m,t,bc=>by
  rcases List.mem_cons.1 bc with rfl|bc
  · exact h m
  · exact Hs P h n _ t bc
theorem oL{n:Nat}(h:0<n)(m:fm):(dg n m).1<n:=by
 unfold dg
 split
 · exact h
 · exact Nat.mod_lt _ h
theorem Ht:∀d m,dv (some (eN d m).1)=0
 |0,m=>by
  rw[eN]
  refine NZ _ (by omega) ?_ (λt bc=>by cases bc)
  have:=oL (n:=5) (by omega) (dg 9 ⟨m.left,m.nodes+1⟩).2
  omega
 |d+1,m=>by
  rw[eN]
  refine NZ _ (by omega) ?_ ?_
  · split
    · have:=oL (n:=5) (by omega) (dg 9 ⟨m.left,m.nodes+1⟩).2
      omega
    · have:=oL (n:=9) (by omega) ⟨m.left,m.nodes+1⟩
      omega
  · have key:∀(c:Prop) [Decidable c] (n:Nat) (j5:fm),∀t∈(if c then h2 (eN d) n j5 else([],j5)).1,dv (some t)=0:=by
      intro c _ n j5 t bc
      split at bc
      · exact Hs (λt=>dv (some t)=0) (Ht d) _ _ t bc
      · cases bc
    exact key _ _ _
theorem Hu(s:a7):dv (some (hB s))=0:=Ht 3 _
structure cc where
 id:Nat
 k:Nat
 nm:a7
 ns:List a7
 args:List Nat
 ret:Nat
 pins:Nat
 used:Nat
structure ct where
 cap:Nat
 given:Nat
 clock:Nat
 l:List cc
def cc.parts(e:cc):List Nat:=e.ret::e.args
def cc.is(k:Nat)(nm:a7)(ns:List a7)(az:List Nat)(r:Nat)(e:cc):Bool:=decide (e.k=k)&&(decide (e.nm=nm)&&(decide (e.ns=ns)&&(decide (e.args=az)&&decide (e.ret=r))))
def lL(id c:Nat)(e:cc):cc:=if e.id=id then{e with used:=c} else e
def jW(k:Nat)(nm:a7)(ns:List a7)(az:List Nat)(r:Nat)(s:ct):Nat×ct:=match s.l.find? (cc.is k nm ns az r) with
 |some e=>(e.id,{s with clock:=s.clock+1,l:=s.l.map (lL e.id (s.clock+1))})
 |none=>(s.given+1,{s with given:=s.given+1,clock:=s.clock+1,l:=s.l++[⟨s.given+1,k,nm,ns,az,r,0,s.clock+1⟩]})
mutual
def cM:aC->ct->Nat×ct
 |.mk k nm ns xs rt,s=>jW k nm ns (da xs s).1 (g1 rt (da xs s).2).1 (g1 rt (da xs s).2).2
def da:List aC->ct->List Nat×ct
 |[],s=>([],s)
 |t::ck,s=>((cM t s).1::(da ck (cM t s).2).1,(da ck (cM t s).2).2)
def g1:Option aC->ct->Nat×ct
 |none,s=>(0,s)
 |some t,s=>cM t s
end
def eM(id:Nat):List cc->Nat
 |[]=>0
 |e::l=>e.parts.count id+eM id l
def qD(l:List cc)(e:cc):Bool:=Nat.beq e.pins 0&&Nat.beq (eM e.id l) 0
def iU(l:List cc):List cc->Option cc
 |[]=>none
 |e::m=>match iU l m with
  |none=>if qD l e then some e else none
  |some b=>if qD l e&&Nat.blt e.used b.used then some e else some b
def h3(id:Nat)(l:List cc):List cc:=l.filter λe=>!Nat.beq e.id id
def iv(cap:Nat):Nat->List cc->List cc
 |0,l=>l
 |n+1,l=>if cap<l.length then match iU l l with
   |none=>l
   |some e=>iv cap n (h3 e.id l)
  else l
def nU(s:ct):ct:={s with l:=iv s.cap s.l.length s.l}
def iV(id:Nat)(e:cc):cc:=if e.id=id then{e with pins:=e.pins+1} else e
def ke(id:Nat)(e:cc):cc:=if e.id=id then{e with pins:=e.pins-1} else e
def fb(t:aC)(s:ct):Nat×ct:=((cM t s).1,nU {(cM t s).2 with l:=(cM t s).2.l.map (iV (cM t s).1)})
def th(id:Nat)(l:List cc):Option cc:=l.find? λe=>Nat.beq e.id id
def iw(id:Nat)(s:ct):Nat×ct:=match th id s.l with
 |none=>(5,s)
 |some e=>if e.pins=0 then(2,s) else(0,nU {s with l:=s.l.map (ke id)})
structure dG(s:ct):Prop where
 up:s.l.Pairwise (λa b=>a.id<b.id)
 aI:∀e∈s.l,0<e.id/\e.id<=s.given/\e.used<=s.clock
 part:∀e∈s.l,∀i∈e.parts,i=0\/(i<e.id/\∃p∈s.l,p.id=i)
 one:∀a∈s.l,∀b∈s.l,a.used=b.used->a.id=b.id
 apart:s.l.Pairwise (λa b=>b.is a.k a.nm a.ns a.args a.ret=false)
theorem C7{id:Nat}:∀{l:List cc},eM id l=0<-> ∀e∈l,id∉e.parts
 |[]=>by simp[eM]
 |e::l=>by
  rw[eM]
  constructor
  · intro h x ab
    rcases List.mem_cons.1 ab with rfl|ab
    · exact List.count_eq_zero.1 (by omega)
    · exact C7.1 (by omega) x ab
  · intro h
    rw[List.count_eq_zero.2 (h e (List.mem_cons_self ..)),C7.2 λx ab=>h x (List.mem_cons_of_mem _ ab)]
theorem xr{l:List cc}{e:cc}:qD l e=true<->e.pins=0/\∀x∈l,e.id∉x.parts:=by
 unfold qD
 rw[Bool.and_eq_true,Nat.beq_eq,Nat.beq_eq,C7]
theorem C8{l:List cc}:∀{m:List cc},iU l m=none<-> ∀e∈m,qD l e=false
 |[]=>by simp[iU]
 |e::m=>by
  rw[iU]
  have bb:=C8 (l:=l) (m:=m)
  cases ae:iU l m with
  |none=>
   have:=bb.1 ae
   cases he:qD l e with
   |true=>simp[he]
   |false=>
    simp only[he]
    constructor
    · intro _ x ab
      rcases List.mem_cons.1 ab with rfl|ab
      · exact he
      · exact this x ab
    · intro _;rfl
  |some b=>
   constructor
   · intro h
     simp only at h
     split at h<;>cases h
   · intro h
     have:=bb.2 λx ab=>h x (List.mem_cons_of_mem _ ab)
     rw[ae] at this;cases this
theorem ti{l:List cc}:∀{m:List cc} {b:cc},iU l m=some b->b∈m/\qD l b=true/\∀e∈m,qD l e=true->b.used<=e.used
 |[],b,h=>by cases h
 |e::m,b,h=>by
  rw[iU] at h
  cases ae:iU l m with
  |none=>
   rw[ae] at h
   simp only at h
   split at h
   · rename_i he
     cases h
     refine⟨List.mem_cons_self ..,he,λx ab aw=>?_⟩
     rcases List.mem_cons.1 ab with rfl|ab
     · exact Nat.le_refl _
     · rw[C8.1 ae x ab] at aw;cases aw
   · cases h
  |some c=>
   rw[ae] at h
   simp only at h
   obtain⟨bJ,bQ,ez⟩:=ti ae
   split at h
   · rename_i he
     cases h
     rw[Bool.and_eq_true] at he
     have ch:=Nat.blt_eq▸he.2
     refine⟨List.mem_cons_self ..,he.1,λx ab aw=>?_⟩
     rcases List.mem_cons.1 ab with rfl|ab
     · exact Nat.le_refl _
     · have:=ez x ab aw;omega
   · rename_i he
     cases h
     refine⟨List.mem_cons_of_mem _ bJ,bQ,λx ab aw=>?_⟩
     rcases List.mem_cons.1 ab with rfl|ab
     · rw[aw,Bool.true_and] at he
       have:¬x.used<b.used:=by simpa[Nat.blt_eq] using he
       omega
     · exact ez x ab aw
theorem nV{id:Nat}{l:List cc}{e:cc}:e∈h3 id l<->e∈l/\e.id≠id:=by
 unfold h3
 rw[List.mem_filter]
 refine and_congr Iff.rfl ?_
 cases ae:Nat.beq e.id id with
 |true=>simp[Nat.eq_of_beq_eq_true ae]
 |false=>
  constructor
  · intro _ h;rw[h,Nat.beq_refl] at ae;cases ae
  · intro _;rfl
theorem dG.drop{s:ct}(h:dG s){id:Nat}(aw:∀x∈s.l,id∉x.parts):dG {s with l:=h3 id s.l}:=by
 refine⟨h.up.filter _,λe he=>h.aI e (nV.1 he).1,λe he i af=>?_,λa aL b ae=>h.one a (nV.1 aL).1 b (nV.1 ae).1,h.apart.filter _⟩
 obtain⟨aa,ad⟩:=nV.1 he
 rcases h.part e aa i af with h0|⟨av,p,aG,bI⟩
 · exact .inl h0
 · refine .inr ⟨av,p,nV.2 ⟨aG,λcI=>?_⟩,bI⟩
   exact aw e aa (by rw[<-cI,bI];exact af)
theorem Hv{s:ct}:∀(n:Nat) (l:List cc),dG {s with l:=l}->dG {s with l:=iv s.cap n l}
 |0,l,h=>h
 |n+1,l,h=>by
  rw[iv]
  split
  · cases ae:iU l l with
    |none=>exact h
    |some e=>
     obtain⟨_,ad,_⟩:=ti ae
     exact Hv n _ (dG.drop h (xr.1 ad).2)
  · exact h
theorem dG.least{s:ct}(h:dG s)(aQ:∀e∈s.l,e.pins=0)(aw:s.l≠[]):iU s.l s.l≠none:=by
 intro ae
 have ae:=C8.1 ae
 obtain⟨m,hm⟩:∃m,s.l.getLast?=some m:=by
  cases e:s.l.getLast? with
  |none=>exact absurd (List.getLast?_eq_none_iff.1 e) aw
  |some m=>exact⟨m,rfl⟩
 obtain⟨ys,N0⟩:=List.getLast?_eq_some_iff.1 hm
 have hl:m∈s.l:=List.mem_of_getLast? hm
 have qE:=h.up
 rw[N0,List.pairwise_append] at qE
 have:qD s.l m=true:=xr.2 ⟨aQ m hl,λx ab af=>by
  rcases h.part x ab _ af with h0|⟨aa,_⟩
  · have:=(h.aI m hl).1;omega
  · rw[N0] at ab
    rcases List.mem_append.1 ab with ab|ab
    · have:=qE.2.2 x ab m (List.mem_singleton.2 rfl);omega
    · obtain rfl:x=m:=by simpa using ab
      omega⟩
 rw[ae m hl] at this;cases this
theorem pz{e:cc}{k:Nat}{nm:a7}{ns:List a7}{az:List Nat}{r:Nat}:e.is k nm ns az r=true<->e.k=k/\e.nm=nm/\e.ns=ns/\e.args=az/\e.ret=r:=by
 simp[cc.is]
theorem Hw(a b:cc):b.is a.k a.nm a.ns a.args a.ret=a.is b.k b.nm b.ns b.args b.ret:=by
 apply Bool.eq_iff_iff.2
 rw[pz,pz]
 constructor<;>rintro⟨aa,ad,av,aG,bI⟩<;>exact⟨aa.symm,ad.symm,av.symm,aG.symm,bI.symm⟩
structure Alike(a b:cc):Prop where
 id:a.id=b.id
 k:a.k=b.k
 nm:a.nm=b.nm
 ns:a.ns=b.ns
 args:a.args=b.args
 ret:a.ret=b.ret
 pins:a.pins=b.pins
theorem Alike.refl(a:cc):Alike a a:=⟨rfl,rfl,rfl,rfl,rfl,rfl,rfl⟩
theorem Alike.trans{a b c:cc}(h:Alike a b)(an:Alike b c):Alike a c:=⟨h.1.trans an.1,h.2.trans an.2,h.3.trans an.3,h.4.trans an.4,h.5.trans an.5,h.6.trans an.6,h.7.trans an.7⟩
theorem Alike.parts{a b:cc}(h:Alike a b):a.parts=b.parts:=by unfold cc.parts;rw[h.ret,h.args]
theorem C9(id c:Nat)(e:cc):Alike (lL id c e) e:=by
 unfold lL
 split
 · exact⟨rfl,rfl,rfl,rfl,rfl,rfl,rfl⟩
 · exact Alike.refl e
theorem aaC(id c:Nat)(e:cc):(lL id c e).used=if e.id=id then c else e.used:=by
 unfold lL
 split<;>rfl
structure ml(s bd:ct):Prop where
 cap:bd.cap=s.cap
 given:s.given<=bd.given
 old:∀e∈s.l,∃q∈bd.l,Alike q e
 new:∀q∈bd.l,(∃e∈s.l,Alike q e)\/(s.given<q.id/\q.pins=0)
theorem ml.refl(s:ct):ml s s:=⟨rfl,Nat.le_refl _,λe he=>⟨e,he,Alike.refl e⟩,λq aJ=>.inl ⟨q,aJ,Alike.refl q⟩⟩
theorem ml.trans{a b c:ct}(h:ml a b)(an:ml b c):ml a c:=by
 refine⟨an.cap.trans h.cap,Nat.le_trans h.given an.given,λe he=>?_,λq aJ=>?_⟩
 · obtain⟨x,ab,aa⟩:=h.old e he
   obtain⟨y,aU,ad⟩:=an.old x ab
   exact⟨y,aU,ad.trans aa⟩
 · rcases an.new q aJ with⟨x,ab,aa⟩|⟨aa,ad⟩
   · rcases h.new x ab with⟨y,aU,ad⟩|⟨ad,av⟩
     · exact .inl ⟨y,aU,aa.trans ad⟩
     · exact .inr ⟨by rw[aa.id];exact ad,by rw[aa.pins];exact av⟩
   · exact .inr ⟨by have:=h.given;omega,ad⟩
def Has(s:ct)(i:Nat):Prop:=∃p∈s.l,p.id=i
theorem Has.qF{s bd:ct}(h:ml s bd){i:Nat}(af:Has s i):Has bd i:=by
 obtain⟨p,aQ,rfl⟩:=af
 obtain⟨q,aJ,aa⟩:=h.old p aQ
 exact⟨q,aJ,aa.id⟩
theorem Hx{l:List cc}(h:l.Pairwise (λa b=>a.id<b.id)){a b:cc}(aL:a∈l)(ae:b∈l)(e:a.id=b.id):a=b:=by
 induction l with
 |nil=>cases aL
 |cons x l bb=>
  rw[List.pairwise_cons] at h
  rcases List.mem_cons.1 aL with aa|aa
  · rcases List.mem_cons.1 ae with ad|ad
    · rw[aa,ad]
    · have:=h.1 b ad;rw[aa] at e;omega
  · rcases List.mem_cons.1 ae with ad|ad
    · have:=h.1 a aa;rw[ad] at e;omega
    · exact bb h.2 aa ad
theorem N1{s:ct}(h:dG s){k:Nat}{nm:a7}{ns:List a7}{az:List Nat}{r:Nat}(aQ:∀i∈r::az,i=0\/Has s i):dG (jW k nm ns az r s).2/\ml s (jW k nm ns az r s).2/\Has (jW k nm ns az r s).2 (jW k nm ns az r s).1:=by
 unfold jW
 cases hf:s.l.find? (cc.is k nm ns az r) with
 |some e=>
  simp only
  have he:=List.mem_of_find?_eq_some hf
  have T:=C9 e.id (s.clock+1)
  have U:=aaC e.id (s.clock+1)
  refine⟨⟨?_,?_,?_,?_,?_⟩,⟨rfl,Nat.le_refl _,λx ab=>⟨_,List.mem_map.2 ⟨x,ab,rfl⟩,T x⟩,λq aJ=>?_⟩,⟨_,List.mem_map.2 ⟨e,he,rfl⟩,(T e).id⟩⟩
  · rw[List.pairwise_map]
    exact h.up.imp λ{a b} fw=>by rw[(T a).id,(T b).id];exact fw
  · intro q aJ
    obtain⟨x,ab,rfl⟩:=List.mem_map.1 aJ
    obtain⟨aa,ad,av⟩:=h.aI x ab
    rw[(T x).id,U x]
    refine⟨aa,ad,?_⟩
    split<;>simp only<;>omega
  · intro q aJ i af
    obtain⟨x,ab,rfl⟩:=List.mem_map.1 aJ
    rw[(T x).parts] at af
    rw[(T x).id]
    rcases h.part x ab i af with h0|⟨aa,p,ad,av⟩
    · exact .inl h0
    · exact .inr ⟨aa,_,List.mem_map.2 ⟨p,ad,rfl⟩,by rw[(T p).id,av]⟩
  · intro a aL b ae hu
    obtain⟨x,ab,rfl⟩:=List.mem_map.1 aL
    obtain⟨y,aU,rfl⟩:=List.mem_map.1 ae
    rw[(T x).id,(T y).id]
    rw[U x,U y] at hu
    have z2:=(h.aI x ab).2.2
    have afY:=(h.aI y aU).2.2
    by_cases aA:x.id=e.id
    · by_cases ax:y.id=e.id
      · rw[aA,ax]
      · rw[if_pos aA,if_neg ax] at hu;omega
    · by_cases ax:y.id=e.id
      · rw[if_neg aA,if_pos ax] at hu;omega
      · rw[if_neg aA,if_neg ax] at hu;exact h.one x ab y aU hu
  · rw[List.pairwise_map]
    refine h.apart.imp λ{a b} fw=>?_
    rw[(T a).k,(T a).nm,(T a).ns,(T a).args,(T a).ret]
    cases ag:(lL e.id (s.clock+1) b).is a.k a.nm a.ns a.args a.ret with
    |false=>rfl
    |true=>
     obtain⟨aF,a6,dy,fO,mj⟩:=pz.1 ag
     rw[(T b).k] at aF
     rw[(T b).nm] at a6
     rw[(T b).ns] at dy
     rw[(T b).args] at fO
     rw[(T b).ret] at mj
     rw[pz.2 ⟨aF,a6,dy,fO,mj⟩] at fw;cases fw
  · obtain⟨x,ab,rfl⟩:=List.mem_map.1 aJ
    exact .inl ⟨x,ab,T x⟩
 |none=>
  simp only
  have aN:=List.find?_eq_none.1 hf
  refine⟨⟨?_,?_,?_,?_,?_⟩,⟨rfl,by simp only;omega,λx ab=>⟨x,List.mem_append_left _ ab,Alike.refl x⟩,λq aJ=>?_⟩,⟨_,List.mem_append_right _ (List.mem_singleton.2 rfl),rfl⟩⟩
  · rw[List.pairwise_append]
    refine⟨h.up,List.pairwise_singleton ..,λa aL b ae=>?_⟩
    obtain rfl:=List.mem_singleton.1 ae
    have:=(h.aI a aL).2.1
    simp only;omega
  · intro q aJ
    rcases List.mem_append.1 aJ with aJ|aJ
    · obtain⟨aa,ad,av⟩:=h.aI q aJ
      exact⟨aa,by simp only;omega,by simp only;omega⟩
    · obtain rfl:=List.mem_singleton.1 aJ
      exact⟨by simp only;omega,Nat.le_refl _,Nat.le_refl _⟩
  · intro q aJ i af
    rcases List.mem_append.1 aJ with aJ|aJ
    · rcases h.part q aJ i af with h0|⟨aa,p,ad,av⟩
      · exact .inl h0
      · exact .inr ⟨aa,p,List.mem_append_left _ ad,av⟩
    · obtain rfl:=List.mem_singleton.1 aJ
      rcases aQ i af with h0|⟨p,ad,av⟩
      · exact .inl h0
      · refine .inr ⟨?_,p,List.mem_append_left _ ad,av⟩
        have:=(h.aI p ad).2.1
        simp only;omega
  · intro a aL b ae hu
    rcases List.mem_append.1 aL with aL|aL
    · rcases List.mem_append.1 ae with ae|ae
      · exact h.one a aL b ae hu
      · obtain rfl:=List.mem_singleton.1 ae
        have:=(h.aI a aL).2.2
        simp only at hu;omega
    · obtain rfl:=List.mem_singleton.1 aL
      rcases List.mem_append.1 ae with ae|ae
      · have:=(h.aI b ae).2.2
        simp only at hu;omega
      · obtain rfl:=List.mem_singleton.1 ae
        rfl
  · rw[List.pairwise_append]
    refine⟨h.apart,List.pairwise_singleton ..,λa aL b ae=>?_⟩
    obtain rfl:=List.mem_singleton.1 ae
    rw[Hw]
    simpa using aN a aL
  · rcases List.mem_append.1 aJ with aJ|aJ
    · exact .inl ⟨q,aJ,Alike.refl q⟩
    · obtain rfl:=List.mem_singleton.1 aJ
      exact .inr ⟨by simp only;omega,rfl⟩
mutual
theorem nW:∀(t:aC) {s:ct},dG s->dG (cM t s).2/\ml s (cM t s).2/\Has (cM t s).2 (cM t s).1
 |.mk k nm ns xs rt,s,h=>by
  obtain⟨aa,ai,ey⟩:=xt xs h
  obtain⟨ad,au,e9⟩:=Hy rt aa
  rw[cM]
  obtain⟨av,ay,jK⟩:=N1 ad (k:=k) (nm:=nm) (ns:=ns) (az:=(da xs s).1) (r:=(g1 rt (da xs s).2).1) λi af=>by
   rcases List.mem_cons.1 af with rfl|af
   · exact e9
   · exact .inr ((ey i af).qF au)
  exact⟨av,(ai.trans au).trans ay,jK⟩
theorem xt:∀(l:List aC) {s:ct},dG s->dG (da l s).2/\ml s (da l s).2/\∀i∈(da l s).1,Has (da l s).2 i
 |[],s,h=>by rw[da];exact⟨h,ml.refl s,λi af=>by cases af⟩
 |t::l,s,h=>by
  obtain⟨aa,ai,ey⟩:=nW t h
  obtain⟨ad,au,e9⟩:=xt l aa
  rw[da]
  refine⟨ad,ai.trans au,λi af=>?_⟩
  rcases List.mem_cons.1 af with rfl|af
  · exact ey.qF au
  · exact e9 i af
theorem Hy:∀(o:Option aC) {s:ct},dG s->dG (g1 o s).2/\ml s (g1 o s).2/\((g1 o s).1=0\/Has (g1 o s).2 (g1 o s).1)
 |none,s,h=>by rw[g1];exact⟨h,ml.refl s,.inl rfl⟩
 |some t,s,h=>by
  obtain⟨aa,ai,ey⟩:=nW t h
  rw[g1]
  exact⟨aa,ai,.inr ey⟩
end
structure Aa(f:cc->cc):Prop where
 id:∀e,(f e).id=e.id
 parts:∀e,(f e).parts=e.parts
 used:∀e,(f e).used=e.used
 is:∀e k nm ns az r,(f e).is k nm ns az r=e.is k nm ns az r
 bq:∀e,(f e).k=e.k/\(f e).nm=e.nm/\(f e).ns=e.ns/\(f e).args=e.args/\(f e).ret=e.ret
theorem mm(i:Nat):Aa (iV i):=by
 refine⟨λe=>?_,λe=>?_,λe=>?_,λe k nm ns az r=>?_,λe=>?_⟩<;>unfold iV<;>split<;>first|rfl|exact⟨rfl,rfl,rfl,rfl,rfl⟩
theorem rO(i:Nat):Aa (ke i):=by
 refine⟨λe=>?_,λe=>?_,λe=>?_,λe k nm ns az r=>?_,λe=>?_⟩<;>unfold ke<;>split<;>first|rfl|exact⟨rfl,rfl,rfl,rfl,rfl⟩
theorem dG.map{s:ct}(h:dG s){f:cc->cc}(F:Aa f):dG {s with l:=s.l.map f}:=by
 refine⟨?_,?_,?_,?_,?_⟩
 · show(s.l.map f).Pairwise _
   rw[List.pairwise_map]
   exact h.up.imp λ{a b} fw=>by rw[F.id,F.id];exact fw
 · intro q aJ
   obtain⟨x,ab,rfl⟩:=List.mem_map.1 aJ
   rw[F.id,F.used]
   exact h.aI x ab
 · intro q aJ i af
   obtain⟨x,ab,rfl⟩:=List.mem_map.1 aJ
   rw[F.parts] at af
   rw[F.id]
   rcases h.part x ab i af with h0|⟨aa,p,ad,av⟩
   · exact .inl h0
   · exact .inr ⟨aa,_,List.mem_map.2 ⟨p,ad,rfl⟩,by rw[F.id,av]⟩
 · intro a aL b ae hu
   obtain⟨x,ab,rfl⟩:=List.mem_map.1 aL
   obtain⟨y,aU,rfl⟩:=List.mem_map.1 ae
   rw[F.used,F.used] at hu
   rw[F.id,F.id]
   exact h.one x ab y aU hu
 · show(s.l.map f).Pairwise _
   rw[List.pairwise_map]
   refine h.apart.imp λ{a b} fw=>?_
   obtain⟨aa,ad,av,aG,bI⟩:=F.bq a
   rw[aa,ad,av,aG,bI,F.is]
   exact fw
theorem Ab(cap:Nat):∀(n:Nat) (l:List cc),∀e∈iv cap n l,e∈l
 |0,l,e,h=>h
 |n+1,l,e,h=>by
  rw[iv] at h
  split at h
  · cases ae:iU l l with
    |none=>rw[ae] at h;exact h
    |some x=>rw[ae] at h;exact(nV.1 (Ab cap n _ e h)).1
  · exact h
theorem Hz(cap:Nat):∀(n:Nat) (l:List cc),∀e∈l,(∀x∈l,x.id=e.id->x.pins≠0)->e∈iv cap n l
 |0,l,e,h,_=>h
 |n+1,l,e,h,aQ=>by
  rw[iv]
  split
  · cases ae:iU l l with
    |none=>exact h
    |some x=>
     obtain⟨aa,ad,_⟩:=ti ae
     refine Hz cap n _ e (nV.2 ⟨h,λcI=>aQ x aa cI.symm (xr.1 ad).1⟩) λy aU=>aQ y (nV.1 aU).1
  · exact h
theorem N2{l:List cc}{e:cc}(h:e∈l):(h3 e.id l).length<l.length:=by
 unfold h3
 refine List.length_filter_lt_length_iff_exists.2 ⟨e,h,?_⟩
 simp[Nat.beq_refl]
theorem N3{s:ct}:∀(n:Nat) (l:List cc),dG {s with l:=l}->(∀e∈l,e.pins=0)->l.length<=n->iv 0 n l=[]
 |0,l,h,aQ,aN=>List.length_eq_zero_iff.1 (by rw[iv];omega)
 |n+1,l,h,aQ,aN=>by
  rw[iv]
  split
  · rename_i h0
    have aw:l≠[]:=by intro e;rw[e] at h0;simp at h0
    cases ae:iU l l with
    |none=>exact absurd ae (dG.least h aQ aw)
    |some e=>
     obtain⟨aa,ad,_⟩:=ti ae
     have:=N2 aa
     exact N3 n _ (dG.drop h (xr.1 ad).2) (λx ab=>aQ x (nV.1 ab).1) (by omega)
  · exact List.length_eq_zero_iff.1 (by omega)
theorem aaD(t:aC){s:ct}(h:dG s):dG (fb t s).2:=Hv _ _ ((nW t h).1.map (mm _))
theorem C_{i:Nat}{l:List cc}{e:cc}(h:th i l=some e):e∈l/\e.id=i:=by
 refine⟨List.mem_of_find?_eq_some h,?_⟩
 have:=List.find?_some h
 exact Nat.eq_of_beq_eq_true this
theorem aaE(t:aC){s:ct}(h:dG s):∃e∈(fb t s).2.l,e.id=(fb t s).1/\e.pins≠0:=by
 obtain⟨aa,ai,p,aQ,af⟩:=nW t h
 have aq:=aa.map (mm (cM t s).1)
 have pp:(iV (cM t s).1 p).pins≠0:=by unfold iV;rw[if_pos af];simp
 have pi:(iV (cM t s).1 p).id=(cM t s).1:=((mm _).id p).trans af
 refine⟨iV (cM t s).1 p,Hz _ _ _ _ (List.mem_map.2 ⟨p,aQ,rfl⟩) λx ab e=>?_,pi,pp⟩
 have:=Hx aq.up ab (List.mem_map.2 ⟨p,aQ,rfl⟩) e
 rw[this];exact pp
theorem never(t:aC){s:ct}(h:dG s)(h0:s.l=[])(ag:s.cap=0):s.given<(fb t s).1/\(fb t s).1<=(fb t s).2.given/\(fb t s).2.cap=0/\(iw (fb t s).1 (fb t s).2).1=0/\(iw (fb t s).1 (fb t s).2).2.l=[]/\(iw (fb t s).1 (fb t s).2).2.cap=0/\(iw (fb t s).1 (fb t s).2).2.given=(fb t s).2.given:=by
 obtain⟨aa,ai,p,aQ,af⟩:=nW t h
 have l0:(cM t s).2.cap=0:=ai.cap.trans ag
 have N4:=aaD t h
 obtain⟨e,he,Da,afZ⟩:=aaE t h
 have HA:(fb t s).2.cap=0:=l0
 have new:∀q∈(cM t s).2.l,s.given<q.id/\q.pins=0:=λq aJ=>by
  rcases ai.new q aJ with⟨x,ab,_⟩|ad
  · rw[h0] at ab;cases ab
  · exact ad
 have aI:=N4.aI e he
 rw[Da] at aI
 have pins:∀x∈(fb t s).2.l,x.pins=if x.id=(fb t s).1 then 1 else 0:=λx ab=>by
  obtain⟨y,aU,rfl⟩:=List.mem_map.1 (Ab _ _ _ x ab)
  obtain⟨_,av⟩:=new y aU
  have hn:=(mm (cM t s).1).id y
  show(iV (cM t s).1 y).pins=if(iV (cM t s).1 y).id=(cM t s).1 then 1 else 0
  rw[hn]
  unfold iV
  split
  · show y.pins+1=1;omega
  · exact av
 have hf:∃x,th (fb t s).1 (fb t s).2.l=some x:=by
  cases ab:th (fb t s).1 (fb t s).2.l with
  |some x=>exact⟨x,rfl⟩
  |none=>
   have:=List.find?_eq_none.1 ab e he
   rw[Da] at this;simp[Nat.beq_refl] at this
 obtain⟨x,ab⟩:=hf
 obtain⟨bC,cS⟩:=C_ ab
 have aaF:=pins x bC
 rw[if_pos cS] at aaF
 have dc:iw (fb t s).1 (fb t s).2=(0,nU {(fb t s).2 with l:=(fb t s).2.l.map (ke (fb t s).1)}):=by
  unfold iw
  rw[ab]
  simp only
  rw[if_neg (by omega)]
 rw[dc]
 refine⟨?_,aI.2.1,HA,rfl,?_,HA,rfl⟩
 · show s.given<(cM t s).1
   have:=(new p aQ).1
   omega
 · show iv (fb t s).2.cap _ _=[]
   rw[HA]
   refine N3 (s:=(fb t s).2) _ _ (N4.map (rO _)) (λq aJ=>?_) (Nat.le_refl _)
   obtain⟨y,aU,rfl⟩:=List.mem_map.1 aJ
   have hyp:=pins y aU
   unfold ke
   split
   · rename_i aG
     rw[if_pos aG] at hyp
     show y.pins-1=0;omega
   · rename_i aG
     rw[if_neg aG] at hyp
     exact hyp
mutual
def dH(l:List cc):Nat->aC->Prop
 |i,.mk k nm ns xs rt=>∃e∈l,e.id=i/\e.k=k/\e.nm=nm/\e.ns=ns/\fo l e.args xs/\hg l e.ret rt
def fo(l:List cc):List Nat->List aC->Prop
 |h4,[]=>h4=[]
 |h4,t::ck=>∃i eg,h4=i::eg/\dH l i t/\fo l eg ck
def hg(l:List cc):Nat->Option aC->Prop
 |r,none=>r=0
 |r,some t=>dH l r t
end
mutual
theorem dH.bO{l m:List cc}{Q:Nat->Prop}(h:∀e∈l,Q e.id->∃q∈m,q.id=e.id/\q.k=e.k/\q.nm=e.nm/\q.ns=e.ns/\q.args=e.args/\q.ret=e.ret)(aJ:∀e∈l,Q e.id->∀i∈e.parts,i=0\/Q i)(h0:∀e∈l,e.id≠0):∀{t:aC} {i:Nat},Q i->dH l i t->dH m i t
 |.mk k nm ns xs rt,i,af,aj=>by
  rw[dH] at aj⊢
  obtain⟨e,he,rfl,aa,ad,av,aG,bI⟩:=aj
  obtain⟨q,hm,ba,a1,b7,fv,fV,Ac⟩:=h e he af
  have aQ:=aJ e he af
  refine⟨q,hm,ba,a1.trans aa,b7.trans ad,fv.trans av,?_,?_⟩
  · rw[fV];exact fo.bO h aJ h0 (λj aK=>aQ j (List.mem_cons_of_mem _ aK)) aG
  · rw[Ac];exact hg.bO h aJ h0 (aQ _ (List.mem_cons_self ..)) bI
theorem fo.bO{l m:List cc}{Q:Nat->Prop}(h:∀e∈l,Q e.id->∃q∈m,q.id=e.id/\q.k=e.k/\q.nm=e.nm/\q.ns=e.ns/\q.args=e.args/\q.ret=e.ret)(aJ:∀e∈l,Q e.id->∀i∈e.parts,i=0\/Q i)(h0:∀e∈l,e.id≠0):∀{ck:List aC} {h4:List Nat},(∀j∈h4,j=0\/Q j)->fo l h4 ck->fo m h4 ck
 |[],h4,_,aj=>by rw[fo] at aj⊢;exact aj
 |t::ck,h4,aK,aj=>by
  rw[fo] at aj⊢
  obtain⟨i,eg,rfl,aa,ad⟩:=aj
  refine⟨i,eg,rfl,?_,fo.bO h aJ h0 (λj gH=>aK j (List.mem_cons_of_mem _ gH)) ad⟩
  rcases aK i (List.mem_cons_self ..) with dc|af
  · obtain⟨k,nm,ns,xs,rt⟩:=t
    rw[dH] at aa
    obtain⟨e,he,av,_⟩:=aa
    exact absurd (av.trans dc) (h0 e he)
  · exact dH.bO h aJ h0 af aa
theorem hg.bO{l m:List cc}{Q:Nat->Prop}(h:∀e∈l,Q e.id->∃q∈m,q.id=e.id/\q.k=e.k/\q.nm=e.nm/\q.ns=e.ns/\q.args=e.args/\q.ret=e.ret)(aJ:∀e∈l,Q e.id->∀i∈e.parts,i=0\/Q i)(h0:∀e∈l,e.id≠0):∀{o:Option aC} {r:Nat},(r=0\/Q r)->hg l r o->hg m r o
 |none,r,_,aj=>by rw[hg] at aj⊢;exact aj
 |some t,r,aK,aj=>by
  rw[hg] at aj⊢
  rcases aK with dc|af
  · obtain⟨k,nm,ns,xs,rt⟩:=t
    rw[dH] at aj
    obtain⟨e,he,av,_⟩:=aj
    exact absurd (av.trans dc) (h0 e he)
  · exact dH.bO h aJ h0 af aj
end
theorem dH.qF{s bd:ct}(hs:dG s)(g:ml s bd){t:aC}{i:Nat}(h:dH s.l i t):dH bd.l i t:=
 dH.bO (Q:=λ_=>True) (λe he _=>by obtain⟨q,aJ,a⟩:=g.old e he;exact⟨q,aJ,a.id,a.k,a.nm,a.ns,a.args,a.ret⟩) (λ_ _ _ _ _=>.inr trivial) (λe he=>by have:=(hs.aI e he).1;omega) trivial h
theorem fo.qF{s bd:ct}(hs:dG s)(g:ml s bd){t:List aC}{i:List Nat}(h:fo s.l i t):fo bd.l i t:=
 fo.bO (Q:=λ_=>True) (λe he _=>by obtain⟨q,aJ,a⟩:=g.old e he;exact⟨q,aJ,a.id,a.k,a.nm,a.ns,a.args,a.ret⟩) (λ_ _ _ _ _=>.inr trivial) (λe he=>by have:=(hs.aI e he).1;omega) (λ_ _=>.inr trivial) h
theorem dH.map{s:ct}(hs:dG s){f:cc->cc}(F:Aa f){t:aC}{i:Nat}(h:dH s.l i t):dH (s.l.map f) i t:=
 dH.bO (Q:=λ_=>True) (λe he _=>by obtain⟨aa,ad,av,aG,bI⟩:=F.bq e;exact⟨f e,List.mem_map.2 ⟨e,he,rfl⟩,F.id e,aa,ad,av,aG,bI⟩) (λ_ _ _ _ _=>.inr trivial) (λe he=>by have:=(hs.aI e he).1;omega) trivial h
theorem dH.drop{s:ct}(hs:dG s){d:Nat}(ao:∀x∈s.l,d∉x.parts){t:aC}{i:Nat}(af:i≠d)(h:dH s.l i t):dH (h3 d s.l) i t:=
 dH.bO (Q:=λj=>j≠d) (λe he aJ=>⟨e,nV.2 ⟨he,aJ⟩,rfl,rfl,rfl,rfl,rfl,rfl⟩) (λe he _ j aK=>.inr λcI=>ao e he (by rw[<-cI];exact aK)) (λe he=>by have:=(hs.aI e he).1;omega) af h
theorem dH.room{s:ct}{t:aC}{i:Nat}:∀(n:Nat) (l:List cc),dG {s with l:=l}->(∃e∈l,e.id=i/\e.pins≠0)->dH l i t->dH (iv s.cap n l) i t
 |0,l,_,_,h=>h
 |n+1,l,hs,⟨e,he,af,aQ⟩,h=>by
  rw[iv]
  split
  · cases ae:iU l l with
    |none=>exact h
    |some x=>
     obtain⟨aa,ad,_⟩:=ti ae
     obtain⟨av,aG⟩:=xr.1 ad
     have cX:e.id≠x.id:=λcI=>by
      have:=Hx hs.up he aa cI
      rw[this] at aQ;exact aQ av
     exact dH.room n _ (dG.drop hs aG) ⟨e,nV.2 ⟨he,cX⟩,af,aQ⟩ (dH.drop hs aG (by rw[<-af];exact cX) h)
  · exact h
theorem aaG{s:ct}{k:Nat}{nm:a7}{ns:List a7}{az:List Nat}{r:Nat}:∃e∈(jW k nm ns az r s).2.l,e.id=(jW k nm ns az r s).1/\e.k=k/\e.nm=nm/\e.ns=ns/\e.args=az/\e.ret=r:=by
 unfold jW
 cases hf:s.l.find? (cc.is k nm ns az r) with
 |some e=>
  simp only
  have he:=List.mem_of_find?_eq_some hf
  have aa:=List.find?_some hf
  obtain⟨b6,cU,c8,ek,en⟩:=pz.1 aa
  have T:=C9 e.id (s.clock+1) e
  exact⟨_,List.mem_map.2 ⟨e,he,rfl⟩,T.id,T.k.trans b6,T.nm.trans cU,T.ns.trans c8,T.args.trans ek,T.ret.trans en⟩
 |none=>exact⟨_,List.mem_append_right _ (List.mem_singleton.2 rfl),rfl,rfl,rfl,rfl,rfl,rfl⟩
mutual
theorem HB:∀(t:aC) {s:ct},dG s->dH (cM t s).2.l (cM t s).1 t
 |.mk k nm ns xs rt,s,h=>by
  obtain⟨aa,ai,ey⟩:=xt xs h
  obtain⟨ad,au,e9⟩:=Hy rt aa
  have r1:=N5 xs h
  have r2:=aaH rt aa
  obtain⟨av,ay,jK⟩:=N1 ad (k:=k) (nm:=nm) (ns:=ns) (az:=(da xs s).1) (r:=(g1 rt (da xs s).2).1) λi af=>by
   rcases List.mem_cons.1 af with rfl|af
   · exact e9
   · exact .inr ((ey i af).qF au)
  rw[cM,dH]
  obtain⟨e,he,aA,ax,bD,ed,fF,gu⟩:=aaG (k:=k) (nm:=nm) (ns:=ns) (az:=(da xs s).1) (r:=(g1 rt (da xs s).2).1) (s:=(g1 rt (da xs s).2).2)
  refine⟨e,he,aA,ax,bD,ed,?_,?_⟩
  · rw[fF];exact(r1.qF aa au).qF ad ay
  · rw[gu]
    cases rt with
    |none=>exact r2
    |some t=>exact dH.qF ad ay r2
theorem N5:∀(l:List aC) {s:ct},dG s->fo (da l s).2.l (da l s).1 l
 |[],s,h=>by rw[da,fo]
 |t::l,s,h=>by
  obtain⟨aa,ai,ey⟩:=nW t h
  obtain⟨ad,au,e9⟩:=xt l aa
  have r1:=HB t h
  have r2:=N5 l aa
  rw[da,fo]
  exact⟨_,_,rfl,r1.qF aa au,r2⟩
theorem aaH:∀(o:Option aC) {s:ct},dG s->hg (g1 o s).2.l (g1 o s).1 o
 |none,s,h=>by rw[g1,hg]
 |some t,s,h=>by rw[g1,hg];exact HB t h
end
theorem dH.N6{l:List cc}{i:Nat}{t:aC}(h:dH l i t):∃e∈l,e.id=i:=by
 obtain⟨k,nm,ns,xs,rt⟩:=t
 rw[dH] at h
 obtain⟨e,he,aa,_⟩:=h
 exact⟨e,he,aa⟩
theorem aaI{l:List cc}(h:l.Pairwise (λa b=>b.is a.k a.nm a.ns a.args a.ret=false)){a b:cc}(aL:a∈l)(ae:b∈l)(e:b.is a.k a.nm a.ns a.args a.ret=true):a=b:=by
 induction l with
 |nil=>cases aL
 |cons x l bb=>
  rw[List.pairwise_cons] at h
  rcases List.mem_cons.1 aL with aa|aa
  · rcases List.mem_cons.1 ae with ad|ad
    · rw[aa,ad]
    · have:=h.1 b ad;rw[<-aa,e] at this;cases this
  · rcases List.mem_cons.1 ae with ad|ad
    · have:=h.1 a aa;rw[<-ad,Hw,e] at this;cases this
    · exact bb h.2 aa ad
mutual
theorem dH.fwd{s:ct}(hs:dG s):∀{t u:aC} {i:Nat},dH s.l i t->dH s.l i u->t=u
 |.mk k nm ns xs rt,.mk dh qo rD oG pf,i,h,an=>by
  rw[dH] at h an
  obtain⟨e,he,h0,aa,ad,av,aG,bI⟩:=h
  obtain⟨f,hf,xu,ai,au,ay,bg,bF⟩:=an
  have:=Hx hs.up he hf (h0.trans xu.symm)
  subst this
  rw[<-aa,<-ad,<-av,<-ai,<-au,<-ay,fo.fwd hs aG bg,hg.fwd hs bI bF]
theorem fo.fwd{s:ct}(hs:dG s):∀{l m:List aC} {h4:List Nat},fo s.l h4 l->fo s.l h4 m->l=m
 |[],[],_,_,_=>rfl
 |[],u::m,h4,h,an=>by
  rw[fo] at h
  rw[fo] at an
  obtain⟨_,_,e,_⟩:=an
  rw[h] at e;cases e
 |t::l,[],h4,h,an=>by
  rw[fo] at h
  rw[fo] at an
  obtain⟨_,_,e,_⟩:=h
  rw[an] at e;cases e
 |t::l,u::m,h4,h,an=>by
  rw[fo] at h
  rw[fo] at an
  obtain⟨i,eg,e,aa,ad⟩:=h
  obtain⟨BR,af0,cI,ai,au⟩:=an
  rw[e] at cI
  cases cI
  rw[dH.fwd hs aa ai,fo.fwd hs ad au]
theorem hg.fwd{s:ct}(hs:dG s):∀{o p:Option aC} {r:Nat},hg s.l r o->hg s.l r p->o=p
 |none,none,_,_,_=>rfl
 |none,some u,r,h,an=>by
  rw[hg] at h
  rw[hg] at an
  obtain⟨e,he,aa⟩:=an.N6
  have:=(hs.aI e he).1
  omega
 |some t,none,r,h,an=>by
  rw[hg] at h
  rw[hg] at an
  obtain⟨e,he,aa⟩:=h.N6
  have:=(hs.aI e he).1
  omega
 |some t,some u,r,h,an=>by
  rw[hg] at h
  rw[hg] at an
  rw[dH.fwd hs h an]
end
mutual
theorem dH.inj{s:ct}(hs:dG s):∀{t:aC} {i j:Nat},dH s.l i t->dH s.l j t->i=j
 |.mk k nm ns xs rt,i,j,h,an=>by
  rw[dH] at h an
  obtain⟨e,he,h0,aa,ad,av,aG,bI⟩:=h
  obtain⟨f,hf,xu,ai,au,ay,bg,bF⟩:=an
  have:=aaI hs.apart he hf (pz.2 ⟨ai.trans aa.symm,au.trans ad.symm,ay.trans av.symm,(fo.inj hs aG bg).symm,(hg.inj hs bI bF).symm⟩)
  subst this
  exact h0.symm.trans xu
theorem fo.inj{s:ct}(hs:dG s):∀{l:List aC} {h4 eg:List Nat},fo s.l h4 l->fo s.l eg l->h4=eg
 |[],h4,eg,h,an=>by
  rw[fo] at h
  rw[fo] at an
  rw[h,an]
 |t::l,h4,eg,h,an=>by
  rw[fo] at h
  rw[fo] at an
  obtain⟨i,m,rfl,aa,ad⟩:=h
  obtain⟨BR,j5,rfl,ai,au⟩:=an
  rw[dH.inj hs aa ai,fo.inj hs ad au]
theorem hg.inj{s:ct}(hs:dG s):∀{o:Option aC} {r r':Nat},hg s.l r o->hg s.l r' o->r=r'
 |none,r,r',h,an=>by
  rw[hg] at h
  rw[hg] at an
  rw[h,an]
 |some t,r,r',h,an=>by
  rw[hg] at h
  rw[hg] at an
  exact dH.inj hs h an
end
def yW(l:List cc)(L:List Nat):Prop:=∀e∈l,e.id∈L->∀p∈e.parts,p=0\/p∈L
theorem N7(cap:Nat):∀(n:Nat) (l:List cc),l.length<=n->(iv cap n l).length<=cap\/iU (iv cap n l) (iv cap n l)=none
 |0,l,h=>.inl (by rw[iv];omega)
 |n+1,l,h=>by
  rw[iv]
  split
  · cases ae:iU l l with
    |none=>exact .inr ae
    |some e=>
     have:=N2 (ti ae).1
     exact N7 cap n _ (by omega)
  · exact .inl (by omega)
theorem ld{t:aC}:dv (some t)=0<->sz t<=60/\ep t=true:=by
 simp only[dv]
 split
 · constructor
   · intro h;cases h
   · rintro⟨h,_⟩;omega
 · split
   · rename_i aa ad;exact⟨λ_=>⟨by omega,ad⟩,λ_=>rfl⟩
   · rename_i aa ad
     constructor
     · intro h;cases h
     · rintro⟨_,h⟩;exact absurd h ad
theorem Ad{t:aC}(h:ep t=true):qC t=if sz t<=60 then t else qB:=by
 unfold qC
 by_cases cq:sz t<=60
 · rw[if_pos cq,if_pos (ld.2 ⟨cq,h⟩)]
 · rw[if_neg cq,if_neg λe=>cq (ld.1 e).1]
theorem HC{l:List aC}(h:∀t∈l,dv (some t)=0):hL l=true:=by
 induction l with
 |nil=>rw[hL]
 |cons x l bb=>
  rw[hL,(ld.1 (h x (List.mem_cons_self ..))).2,bb λt bc=>h t (List.mem_cons_of_mem _ bc)];rfl
theorem aaJ{l:List aC}(h:∀t∈l,dv (some t)=0):df l<=60*l.length:=by
 induction l with
 |nil=>rw[df];exact Nat.zero_le _
 |cons x l bb=>
  have aa:=(ld.1 (h x (List.mem_cons_self ..))).1
  have ad:=bb λt bc=>h t (List.mem_cons_of_mem _ bc)
  rw[df,List.length_cons];omega
theorem aaK{l:List aC}(h:∀t∈l,dv (some t)=0)(av:l.length<=3):ep (.mk 7 [] (gp.take l.length) l none)=true:=by
 have hm:=HC h
 have aw:l.length=0\/l.length=1\/l.length=2\/l.length=3:=by omega
 rw[nL,hm,e3]
 have aN:j_ none (gp.take l.length)=true:=by rcases aw with e|e|e|e<;>rw[e]<;>decide+kernel
 have aQ:ik 7 [] (gp.take l.length).length l.length (none:Option aC).isSome=true:=by rcases aw with e|e|e|e<;>rw[e]<;>decide+kernel
 have aq:(gp.take l.length).length=l.length:=by rw[List.length_take];show min l.length 3=_;omega
 rw[aQ,aN,aq]
 simp
theorem N8{l:List aC}{x:aC}(h:∀t∈l,dv (some t)=0)(ab:dv (some x)=0):ep (.mk 8 [] [] l (some x))=true:=by
 rw[nL,HC h,e3,iR,(ld.1 ab).2,ik]
 simp[dd]
theorem N9:∀a b c:a7,dO a b=true->dO b c=true->dO a c=true
 |[],[],_,h,_=>by cases h
 |_::_,[],_,h,_=>by cases h
 |[],_::_,[],_,h=>by cases h
 |_::_,_::_,[],_,h=>by cases h
 |[],_::_,_::_,_,_=>rfl
 |x::a,y::b,z::c,aa,ad=>by
  rw[zI] at aa ad⊢
  by_cases aA:x.toNat=y.toNat
  · rw[if_pos aA] at aa
    by_cases ax:y.toNat=z.toNat
    · rw[if_pos ax] at ad;rw[if_pos (aA.trans ax)];exact N9 a b c aa ad
    · rw[if_neg ax] at ad;rw[if_neg (by omega)];simp at ad⊢;omega
  · rw[if_neg aA] at aa
    by_cases ax:y.toNat=z.toNat
    · rw[if_neg (by omega)];simp at aa⊢;omega
    · rw[if_neg ax] at ad;simp at aa ad;rw[if_neg (by omega)];simp;omega
def tj(l:List aC):Prop:=l.Pairwise λa b=>dO (wr a) (wr b)=true
theorem N_{t:aC}:∀{l:List aC},tj l->tj (iE t l)
 |[],_=>List.pairwise_singleton ..
 |x::l,h=>by
  unfold tj at h⊢
  have h0:=h
  rw[List.pairwise_cons] at h
  rw[iE]
  by_cases aa:dO (wr x) (wr t)=true
  · rw[if_pos aa,List.pairwise_cons]
    refine⟨λb ae=>?_,N_ h.2⟩
    rcases Hr ae with rfl|ae
    · exact aa
    · exact h.1 b ae
  rw[if_neg aa]
  by_cases ad:wr x=wr t
  · rw[if_pos ad];exact h0
  rw[if_neg ad,List.pairwise_cons]
  have av:dO (wr t) (wr x)=true:=by
   cases e:dO (wr t) (wr x) with
   |true=>rfl
   |false=>exact absurd (G5 _ _ (by simpa using aa) e) ad
  refine⟨λb ae=>?_,h0⟩
  rcases List.mem_cons.1 ae with rfl|ae
  · exact av
  · exact N9 _ _ _ av (h.1 b ae)
theorem Oa:∀(l a:List aC),tj a->tj (l.foldl (λa t=>iE t a) a)
 |[],a,h=>h
 |t::l,a,h=>Oa l _ (N_ h)
theorem Ob{t:aC}:∀(l:List aC),l.length<=(iE t l).length/\(iE t l).length<=l.length+1/\0<(iE t l).length
 |[]=>by simp[iE]
 |x::l=>by
  have:=Ob (t:=t) l
  rw[iE]
  split
  · simp only[List.length_cons];omega
  · split<;>simp only[List.length_cons]<;>omega
theorem Ae:∀(l a:List aC),a.length<=(l.foldl (λa t=>iE t a) a).length/\(l.foldl (λa t=>iE t a) a).length<=a.length+l.length/\(0<l.length->0<(l.foldl (λa t=>iE t a) a).length)
 |[],a=>⟨Nat.le_refl _,Nat.le_add_right ..,λh=>absurd h (by simp)⟩
 |t::l,a=>by
  obtain⟨aa,ad,av⟩:=Ae l (iE t a)
  have:=Ob (t:=t) a
  simp only[List.foldl_cons,List.length_cons]
  exact⟨by omega,by omega,λ_=>by omega⟩
theorem Oc:∀(p:Option a7) (l:List aC),tj l->(∀t∈l,t.k≠9/\t.k≠1)->(∀t,l[0]? =some t->mX p (wr t)=true)->k8 p (l.map aC.k) (cB l)=true
 |_,[],_,_,_=>by rw[cB];rfl
 |p,t::l,h,aq,aQ=>by
  unfold tj at h
  rw[List.pairwise_cons] at h
  rw[List.map_cons,cB]
  have aa:=aq t (List.mem_cons_self ..)
  have bb:=Oc (some (wr t)) l h.2 (λu hu=>aq u (List.mem_cons_of_mem _ hu)) λu hu=>h.1 u (List.mem_of_getElem? hu)
  unfold k8
  rw[bb,aQ t rfl]
  simp[aa.1,aa.2]
theorem aaL{t u:aC}(h:ep t=true)(aq:t.k=9)(hu:u∈t.xs):u.k≠9/\u.k≠1:=by
 obtain⟨k,nm,ns,xs,rt⟩:=t
 obtain rfl:k=9:=aq
 rw[nL,e3] at h
 simp only[Bool.and_eq_true] at h
 have lX:u∈xs:=hu
 have aa:k8 none (xs.map aC.k) (cB xs)=true/\2<=xs.length:=by simpa using h.2.2.2
 clear h
 have key:∀(p:Option a7) (l:List aC),k8 p (l.map aC.k) (cB l)=true->∀u∈l,u.k≠9/\u.k≠1:=by
  intro p l
  induction l generalizing p with
  |nil=>intro _ u hu;cases hu
  |cons x l bb=>
   intro h u hu
   rw[List.map_cons,cB] at h
   unfold k8 at h
   simp only[Bool.and_eq_true] at h
   rcases List.mem_cons.1 hu with rfl|hu
   · simpa using h.1
   · exact bb _ h.2.2 u hu
 exact key none xs aa.1 u lX
theorem aaM{t:aC}(h:ep t=true)(aq:t.k=9):2<=t.xs.length:=by
 obtain⟨k,nm,ns,xs,rt⟩:=t
 obtain rfl:k=9:=aq
 rw[nL,e3] at h
 simp only[Bool.and_eq_true] at h
 have aa:k8 none (xs.map aC.k) (cB xs)=true/\2<=xs.length:=by simpa using h.2.2.2
 exact aa.2
theorem Od{u:aC}:∀{l f:List aC},(∀t∈l,dv (some t)=0)->hA l=some f->u∈f->u.k≠9/\u.k≠1
 |[],f,_,h,hu=>by cases h;cases hu
 |t::l,f,aw,h,hu=>by
  rw[hA] at h
  have aa:=(ld.1 (aw t (List.mem_cons_self ..))).2
  split at h
  · cases h
  · rename_i aaN
    cases e:hA l with
    |none=>rw[e] at h;cases h
    |some r=>
     rw[e] at h
     cases h
     rcases List.mem_append.1 hu with hu|hu
     · split at hu
       · rename_i Af;exact aaL aa Af hu
       · rename_i Af
         obtain rfl:u=t:=by simpa using hu
         exact⟨Af,aaN⟩
     · exact Od (λt bc=>aw t (List.mem_cons_of_mem _ bc)) e hu
theorem Oe{l f:List aC}(aw:∀t∈l,dv (some t)=0)(h0:0<l.length)(h:hA l=some f):0<f.length:=by
 cases l with
 |nil=>exact absurd h0 (by simp)
 |cons t l=>
  rw[hA] at h
  have aa:=(ld.1 (aw t (List.mem_cons_self ..))).2
  split at h
  · cases h
  · cases e:hA l with
    |none=>rw[e] at h;cases h
    |some r=>
     rw[e] at h
     cases h
     rw[List.length_append]
     split
     · rename_i Af;have:=aaM aa Af;omega
     · simp;omega
theorem HD:∀{l f:List aC},(∀t∈l,dv (some t)=0)->hA l=some f->f.length<=60*l.length/\df f<=60*l.length
 |[],f,_,h=>by cases h;exact⟨Nat.le_refl _,by rw[df];exact Nat.zero_le _⟩
 |t::l,f,aw,h=>by
  rw[hA] at h
  have aa:=(ld.1 (aw t (List.mem_cons_self ..))).1
  split at h
  · cases h
  · cases e:hA l with
    |none=>rw[e] at h;cases h
    |some r=>
     rw[e] at h
     cases h
     have bb:=HD (λt bc=>aw t (List.mem_cons_of_mem _ bc)) e
     have ad:df (if t.k=9 then t.xs else[t])<=60:=by
      split
      · obtain⟨k,nm,ns,xs,rt⟩:=t
        rw[mc] at aa
        show df xs<=60
        omega
      · rw[df,df];omega
     have key:∀a b:List aC,df (a++b)=df a+df b:=by
      intro a b
      induction a with
      |nil=>rw[df,List.nil_append];omega
      |cons x a bb=>rw[List.cons_append,df,bb,df];omega
     have av:=mW (if t.k=9 then t.xs else[t])
     rw[List.length_append,List.length_cons,key]
     omega
theorem Of{l f:List aC}(h:∀t∈l,dv (some t)=0)(h0:0<l.length)(hf:hA l=some f)(aa:(eW f).length≠1):ep (.mk 9 [] [] (eW f) none)=true:=by
 have hu:tj (eW f):=Oa f [] List.Pairwise.nil
 have aQ:=(Ae f []).2.2 (Oe h h0 hf)
 have aQ:0<(eW f).length:=aQ
 have hm:∀t∈eW f,t∈f:=λt bc=>by
  rcases z_ f [] bc with h|h
  · exact h
  · cases h
 have ag:∀t∈eW f,dv (some t)=0:=λt bc=>by
  rcases C6 hf (hm t bc) with hm|⟨x,aa,ad⟩
  · exact h t hm
  · exact vd (h x aa) ad
 rw[nL,HC ag,e3,Oc none _ hu (λt bc=>Od h hf (hm t bc)) λt _=>rfl]
 have:2<=(eW f).length:=by omega
 simp[ik,dd,this]
theorem rec_eq{l:List aC}(h:∀t∈l,dv (some t)=0)(av:l.length<=3):Ho l=if sz (.mk 7 [] (gp.take l.length) l none)<=60 then .mk 7 [] (gp.take l.length) l none else qB:=Ad (aaK h av)
end Go.Proofs.jj
