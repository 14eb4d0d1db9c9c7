/-
  PROVED HERE: contracts of functions (Dh). No condition beside each statement's own.
-/
import Derived.Test.YtjkomfonmcmgdaaDoorDc
import Derived.Test.YtjkomfonmcmgdaaDoorDf
set_option linter.unusedVariables false
set_option linter.unusedSimpArgs false
set_option maxRecDepth 100000
set_option maxHeartbeats 1000000
namespace Go.Proofs.hJ
open Go a8 Go.Proofs gp Go.Proofs.hK
structure n9 where
 left:a5
 nodes:Nat
def m9(n:Nat)(m:n9):Nat×n9:=match m.left with
 |[]=>(0,m)
 |c::l=>(c.toNat %n,⟨l,m.nodes⟩)
def JP:aZ:=.mk 2 [] [] [] none
def TQ:aZ:=.mk 1 [] [] [] none
def DZ(t:aZ):aZ:=if hY (some t)=0 then t else JP
def TR:List a5:=[[97],[98],[99]]
def TS(l:List aZ):aZ:=DZ (.mk 7 [] (TR.take l.length) l none)
def TT:List aZ->aZ
 |[]=>JP
 |x::l=>DZ (.mk 8 [] [] l (some x))
def JQ:List aZ->Option (List aZ)
 |[]=>some []
 |t::l=>if t.k=1 then none else(JQ l).map λr=>(if t.k=9 then t.xs else[t])++r
def JR(t:aZ):List aZ->List aZ
 |[]=>[t]
 |x::l=>if eR (wr x) (wr t)=true then x::JR t l else if wr x=wr t then x::l else t::x::l
def TU(l:List aZ):List aZ:=l.foldl (λa t=>JR t a) []
def TV(l:List aZ):aZ:=match JQ l with
 |none=>TQ
 |some f=>match TU f with
  |[t]=>t
  |out=>DZ (.mk 9 [] [] out none)
def TW(n:Nat):a5:=if n=0 then[109,46,84] else[109,46,85]
def JS(k:Nat)(l:List aZ)(m:n9):aZ×n9:=
 if k=6 then(.mk 6 (TW (m9 2 m).1) [] [] none,(m9 2 m).2) else if k=7 then(TS l,m) else if k=8 then(TT l,m) else if k=9 then(TV l,m) else(.mk k [] [] [] none,m)
def D0(f:n9->aZ×n9):Nat->n9->List aZ×n9
 |0,m=>([],m)
 |n+1,m=>((f m).1::(D0 f n (f m).2).1,(D0 f n (f m).2).2)
def nR:Nat->n9->aZ×n9
 |0,m=>
  let a:=m9 9 ⟨m.left,m.nodes+1⟩
  let b:=m9 5 a.2
  let c:=m9 3 b.2
  JS (1+b.1) [] c.2
 |d+1,m=>
  let a:=m9 9 ⟨m.left,m.nodes+1⟩
  let b:=if 40<m.nodes+1 then m9 5 a.2 else a
  let c:=m9 3 b.2
  let l:=if 7<=1+b.1 then D0 (nR d) (c.1+1) c.2 else([],c.2)
  JS (1+b.1) l.1 l.2
theorem zR{t u:aZ}(h:hY (some t)=0)(hu:u∈t.xs):hY (some u)=0:=by
 obtain⟨k,nm,ns,xs,rt⟩:=t
 have mC:u∈xs:=hu
 simp only[hY] at h⊢
 split at h
 · cases h
 · rename_i dd
   split at h
   · rename_i hm
     rw[qw] at hm
     simp only[Bool.and_eq_true] at hm
     have aa:=zB hm.2.2.1 mC
     have ad:=uc mC
     rw[o1] at dd
     rw[if_neg (by omega),if_pos aa]
   · cases h
structure bI where
 id:Nat
 k:Nat
 nm:a5
 ns:List a5
 args:List Nat
 ret:Nat
 pins:Nat
 used:Nat
structure b7 where
 cap:Nat
 given:Nat
 clock:Nat
 l:List bI
def bI.parts(e:bI):List Nat:=e.ret::e.args
def bI.is(k:Nat)(nm:a5)(ns:List a5)(az:List Nat)(r:Nat)(e:bI):Bool:=decide (e.k=k)&&(decide (e.nm=nm)&&(decide (e.ns=ns)&&(decide (e.args=az)&&decide (e.ret=r))))
def eL(id c:Nat)(e:bI):bI:=if e.id=id then{e with used:=c} else e
def ic(k:Nat)(nm:a5)(ns:List a5)(az:List Nat)(r:Nat)(s:b7):Nat×b7:=match s.l.find? (bI.is k nm ns az r) with
 |some e=>(e.id,{s with clock:=s.clock+1,l:=s.l.map (eL e.id (s.clock+1))})
 |none=>(s.given+1,{s with given:=s.given+1,clock:=s.clock+1,l:=s.l++[⟨s.given+1,k,nm,ns,az,r,0,s.clock+1⟩]})
mutual
def cC:aZ->b7->Nat×b7
 |.mk k nm ns xs rt,s=>ic k nm ns (cP xs s).1 (hc rt (cP xs s).2).1 (hc rt (cP xs s).2).2
def cP:List aZ->b7->List Nat×b7
 |[],s=>([],s)
 |t::cu,s=>((cC t s).1::(cP cu (cC t s).2).1,(cP cu (cC t s).2).2)
def hc:Option aZ->b7->Nat×b7
 |none,s=>(0,s)
 |some t,s=>cC t s
end
def dE(id:Nat):List bI->Nat
 |[]=>0
 |e::l=>e.parts.count id+dE id l
def lI(l:List bI)(e:bI):Bool:=Nat.beq e.pins 0&&Nat.beq (dE e.id l) 0
def ie(l:List bI):List bI->Option bI
 |[]=>none
 |e::m=>match ie l m with
  |none=>if lI l e then some e else none
  |some b=>if lI l e&&Nat.blt e.used b.used then some e else some b
def eF(id:Nat)(l:List bI):List bI:=l.filter λe=>!Nat.beq e.id id
def hM(cap:Nat):Nat->List bI->List bI
 |0,l=>l
 |n+1,l=>if cap<l.length then match ie l l with
   |none=>l
   |some e=>hM cap n (eF e.id l)
  else l
def hd(s:b7):b7:={s with l:=hM s.cap s.l.length s.l}
def fK(id:Nat)(e:bI):bI:=if e.id=id then{e with pins:=e.pins+1} else e
def hN(id:Nat)(e:bI):bI:=if e.id=id then{e with pins:=e.pins-1} else e
def dF(t:aZ)(s:b7):Nat×b7:=((cC t s).1,hd {(cC t s).2 with l:=(cC t s).2.l.map (fK (cC t s).1)})
def mn(id:Nat)(l:List bI):Option bI:=l.find? λe=>Nat.beq e.id id
def gq(id:Nat)(s:b7):Nat×b7:=match mn id s.l with
 |none=>(5,s)
 |some e=>if e.pins=0 then(2,s) else(0,hd {s with l:=s.l.map (hN id)})
structure dG(s:b7):Prop where
 up:s.l.Pairwise (λa b=>a.id<b.id)
 aY:∀e∈s.l,0<e.id/\e.id<=s.given/\e.used<=s.clock
 part:∀e∈s.l,∀i∈e.parts,i=0\/(i<e.id/\∃p∈s.l,p.id=i)
 one:∀a∈s.l,∀b∈s.l,a.used=b.used->a.id=b.id
 apart:s.l.Pairwise (λa b=>b.is a.k a.nm a.ns a.args a.ret=false)
theorem zS{id:Nat}:∀{l:List bI},dE id l=0<-> ∀e∈l,id∉e.parts
 |[]=>by simp[dE]
 |e::l=>by
  rw[dE]
  constructor
  · intro h x J
    rcases List.mem_cons.1 J with rfl|J
    · exact List.count_eq_zero.1 (by omega)
    · exact zS.1 (by omega) x J
  · intro h
    rw[List.count_eq_zero.2 (h e (List.mem_cons_self ..)),zS.2 λx J=>h x (List.mem_cons_of_mem _ J)]
theorem sn{l:List bI}{e:bI}:lI l e=true<->e.pins=0/\∀x∈l,e.id∉x.parts:=by
 unfold lI
 rw[Bool.and_eq_true,Nat.beq_eq,Nat.beq_eq,zS]
theorem w_{l:List bI}:∀{m:List bI},ie l m=none<-> ∀e∈m,lI l e=false
 |[]=>by simp[ie]
 |e::m=>by
  rw[ie]
  have a3:=w_ (l:=l) (m:=m)
  cases ae:ie l m with
  |none=>
   have:=a3.1 ae
   cases he:lI l e with
   |true=>simp[he]
   |false=>
    simp only[he]
    constructor
    · intro _ x J
      rcases List.mem_cons.1 J with rfl|J
      · exact he
      · exact this x J
    · intro _;rfl
  |some b=>
   constructor
   · intro h
     simp only at h
     split at h<;>cases h
   · intro h
     have:=a3.2 λx J=>h x (List.mem_cons_of_mem _ J)
     rw[ae] at this;cases this
theorem so{l:List bI}:∀{m:List bI} {b:bI},ie l m=some b->b∈m/\lI l b=true/\∀e∈m,lI l e=true->b.used<=e.used
 |[],b,h=>by cases h
 |e::m,b,h=>by
  rw[ie] at h
  cases ae:ie l m with
  |none=>
   rw[ae] at h
   simp only at h
   split at h
   · rename_i he
     cases h
     refine⟨List.mem_cons_self ..,he,λx J ar=>?_⟩
     rcases List.mem_cons.1 J with rfl|J
     · exact Nat.le_refl _
     · rw[w_.1 ae x J] at ar;cases ar
   · cases h
  |some c=>
   rw[ae] at h
   simp only at h
   obtain⟨bJ,bR,e_⟩:=so ae
   split at h
   · rename_i he
     cases h
     rw[Bool.and_eq_true] at he
     have bX:=Nat.blt_eq▸he.2
     refine⟨List.mem_cons_self ..,he.1,λx J ar=>?_⟩
     rcases List.mem_cons.1 J with rfl|J
     · exact Nat.le_refl _
     · have:=e_ x J ar;omega
   · rename_i he
     cases h
     refine⟨List.mem_cons_of_mem _ bJ,bR,λx J ar=>?_⟩
     rcases List.mem_cons.1 J with rfl|J
     · rw[ar,Bool.true_and] at he
       have:¬x.used<b.used:=by simpa[Nat.blt_eq] using he
       omega
     · exact e_ x J ar
theorem mo{id:Nat}{l:List bI}{e:bI}:e∈eF id l<->e∈l/\e.id≠id:=by
 unfold eF
 rw[List.mem_filter]
 refine and_congr Iff.rfl ?_
 cases ae:Nat.beq e.id id with
 |true=>simp[Nat.eq_of_beq_eq_true ae]
 |false=>
  constructor
  · intro _ h;rw[h,Nat.beq_refl] at ae;cases ae
  · intro _;rfl
theorem dG.drop{s:b7}(h:dG s){id:Nat}(ar:∀x∈s.l,id∉x.parts):dG {s with l:=eF id s.l}:=by
 refine⟨h.up.filter _,λe he=>h.aY e (mo.1 he).1,λe he i ag=>?_,λa aw b ae=>h.one a (mo.1 aw).1 b (mo.1 ae).1,h.apart.filter _⟩
 obtain⟨aa,ad⟩:=mo.1 he
 rcases h.part e aa i ag with h0|⟨aq,p,aC,bC⟩
 · exact .inl h0
 · refine .inr ⟨aq,p,mo.2 ⟨aC,λcn=>?_⟩,bC⟩
   exact ar e aa (by rw[<-cn,bC];exact ag)
theorem zT{s:b7}:∀(n:Nat) (l:List bI),dG {s with l:=l}->dG {s with l:=hM s.cap n l}
 |0,l,h=>h
 |n+1,l,h=>by
  rw[hM]
  split
  · cases ae:ie l l with
    |none=>exact h
    |some e=>
     obtain⟨_,ad,_⟩:=so ae
     exact zT n _ (dG.drop h (sn.1 ad).2)
  · exact h
theorem dG.least{s:b7}(h:dG s)(aL:∀e∈s.l,e.pins=0)(ar:s.l≠[]):ie s.l s.l≠none:=by
 intro ae
 have ae:=w_.1 ae
 obtain⟨m,hm⟩:∃m,s.l.getLast?=some m:=by
  cases e:s.l.getLast? with
  |none=>exact absurd (List.getLast?_eq_none_iff.1 e) ar
  |some m=>exact⟨m,rfl⟩
 obtain⟨ys,JT⟩:=List.getLast?_eq_some_iff.1 hm
 have iC:m∈s.l:=List.mem_of_getLast? hm
 have uv:=h.up
 rw[JT,List.pairwise_append] at uv
 have:lI s.l m=true:=sn.2 ⟨aL m iC,λx J ag=>by
  rcases h.part x J _ ag with h0|⟨aa,_⟩
  · have:=(h.aY m iC).1;omega
  · rw[JT] at J
    rcases List.mem_append.1 J with J|J
    · have:=uv.2.2 x J m (List.mem_singleton.2 rfl);omega
    · obtain rfl:x=m:=by simpa using J
      omega⟩
 rw[ae m iC] at this;cases this
theorem pc{e:bI}{k:Nat}{nm:a5}{ns:List a5}{az:List Nat}{r:Nat}:e.is k nm ns az r=true<->e.k=k/\e.nm=nm/\e.ns=ns/\e.args=az/\e.ret=r:=by
 simp[bI.is]
theorem JU(a b:bI):b.is a.k a.nm a.ns a.args a.ret=a.is b.k b.nm b.ns b.args b.ret:=by
 apply Bool.eq_iff_iff.2
 rw[pc,pc]
 constructor<;>rintro⟨aa,ad,aq,aC,bC⟩<;>exact⟨aa.symm,ad.symm,aq.symm,aC.symm,bC.symm⟩
structure Alike(a b:bI):Prop where
 id:a.id=b.id
 k:a.k=b.k
 nm:a.nm=b.nm
 ns:a.ns=b.ns
 args:a.args=b.args
 ret:a.ret=b.ret
 pins:a.pins=b.pins
theorem Alike.refl(a:bI):Alike a a:=⟨rfl,rfl,rfl,rfl,rfl,rfl,rfl⟩
theorem Alike.trans{a b c:bI}(h:Alike a b)(ao:Alike b c):Alike a c:=⟨h.1.trans ao.1,h.2.trans ao.2,h.3.trans ao.3,h.4.trans ao.4,h.5.trans ao.5,h.6.trans ao.6,h.7.trans ao.7⟩
theorem Alike.parts{a b:bI}(h:Alike a b):a.parts=b.parts:=by unfold bI.parts;rw[h.ret,h.args]
theorem D1(id c:Nat)(e:bI):Alike (eL id c e) e:=by
 unfold eL
 split
 · exact⟨rfl,rfl,rfl,rfl,rfl,rfl,rfl⟩
 · exact Alike.refl e
theorem TX(id c:Nat)(e:bI):(eL id c e).used=if e.id=id then c else e.used:=by
 unfold eL
 split<;>rfl
structure lJ(s a6:b7):Prop where
 cap:a6.cap=s.cap
 given:s.given<=a6.given
 old:∀e∈s.l,∃q∈a6.l,Alike q e
 new:∀q∈a6.l,(∃e∈s.l,Alike q e)\/(s.given<q.id/\q.pins=0)
theorem lJ.refl(s:b7):lJ s s:=⟨rfl,Nat.le_refl _,λe he=>⟨e,he,Alike.refl e⟩,λq aE=>.inl ⟨q,aE,Alike.refl q⟩⟩
theorem lJ.trans{a b c:b7}(h:lJ a b)(ao:lJ b c):lJ a c:=by
 refine⟨ao.cap.trans h.cap,Nat.le_trans h.given ao.given,λe he=>?_,λq aE=>?_⟩
 · obtain⟨x,J,aa⟩:=h.old e he
   obtain⟨y,aO,ad⟩:=ao.old x J
   exact⟨y,aO,ad.trans aa⟩
 · rcases ao.new q aE with⟨x,J,aa⟩|⟨aa,ad⟩
   · rcases h.new x J with⟨y,aO,ad⟩|⟨ad,aq⟩
     · exact .inl ⟨y,aO,aa.trans ad⟩
     · exact .inr ⟨by rw[aa.id];exact ad,by rw[aa.pins];exact aq⟩
   · exact .inr ⟨by have:=h.given;omega,ad⟩
def Has(s:b7)(i:Nat):Prop:=∃p∈s.l,p.id=i
theorem Has.JV{s a6:b7}(h:lJ s a6){i:Nat}(ag:Has s i):Has a6 i:=by
 obtain⟨p,aL,rfl⟩:=ag
 obtain⟨q,aE,aa⟩:=h.old p aL
 exact⟨q,aE,aa.id⟩
theorem TY{l:List bI}(h:l.Pairwise (λa b=>a.id<b.id)){a b:bI}(aw:a∈l)(ae:b∈l)(e:a.id=b.id):a=b:=by
 induction l with
 |nil=>cases aw
 |cons x l a3=>
  rw[List.pairwise_cons] at h
  rcases List.mem_cons.1 aw with aa|aa
  · rcases List.mem_cons.1 ae with ad|ad
    · rw[aa,ad]
    · have:=h.1 b ad;rw[aa] at e;omega
  · rcases List.mem_cons.1 ae with ad|ad
    · have:=h.1 a aa;rw[ad] at e;omega
    · exact a3 h.2 aa ad
theorem TZ{s:b7}(h:dG s){k:Nat}{nm:a5}{ns:List a5}{az:List Nat}{r:Nat}(aL:∀i∈r::az,i=0\/Has s i):dG (ic k nm ns az r s).2/\lJ s (ic k nm ns az r s).2/\Has (ic k nm ns az r s).2 (ic k nm ns az r s).1:=by
 unfold ic
 cases hf:s.l.find? (bI.is k nm ns az r) with
 |some e=>
  simp only
  have he:=List.mem_of_find?_eq_some hf
  have T:=D1 e.id (s.clock+1)
  have U:=TX e.id (s.clock+1)
  refine⟨⟨?_,?_,?_,?_,?_⟩,⟨rfl,Nat.le_refl _,λx J=>⟨_,List.mem_map.2 ⟨x,J,rfl⟩,T x⟩,λq aE=>?_⟩,⟨_,List.mem_map.2 ⟨e,he,rfl⟩,(T e).id⟩⟩
  · rw[List.pairwise_map]
    exact h.up.imp λ{a b} eA=>by rw[(T a).id,(T b).id];exact eA
  · intro q aE
    obtain⟨x,J,rfl⟩:=List.mem_map.1 aE
    obtain⟨aa,ad,aq⟩:=h.aY x J
    rw[(T x).id,U x]
    refine⟨aa,ad,?_⟩
    split<;>simp only<;>omega
  · intro q aE i ag
    obtain⟨x,J,rfl⟩:=List.mem_map.1 aE
    rw[(T x).parts] at ag
    rw[(T x).id]
    rcases h.part x J i ag with h0|⟨aa,p,ad,aq⟩
    · exact .inl h0
    · exact .inr ⟨aa,_,List.mem_map.2 ⟨p,ad,rfl⟩,by rw[(T p).id,aq]⟩
  · intro a aw b ae hu
    obtain⟨x,J,rfl⟩:=List.mem_map.1 aw
    obtain⟨y,aO,rfl⟩:=List.mem_map.1 ae
    rw[(T x).id,(T y).id]
    rw[U x,U y] at hu
    have wY:=(h.aY x J).2.2
    have Yt:=(h.aY y aO).2.2
    by_cases ax:x.id=e.id
    · by_cases av:y.id=e.id
      · rw[ax,av]
      · rw[if_pos ax,if_neg av] at hu;omega
    · by_cases av:y.id=e.id
      · rw[if_neg ax,if_pos av] at hu;omega
      · rw[if_neg ax,if_neg av] at hu;exact h.one x J y aO hu
  · rw[List.pairwise_map]
    refine h.apart.imp λ{a b} eA=>?_
    rw[(T a).k,(T a).nm,(T a).ns,(T a).args,(T a).ret]
    cases af:(eL e.id (s.clock+1) b).is a.k a.nm a.ns a.args a.ret with
    |false=>rfl
    |true=>
     obtain⟨aT,bp,ef,gl,kq⟩:=pc.1 af
     rw[(T b).k] at aT
     rw[(T b).nm] at bp
     rw[(T b).ns] at ef
     rw[(T b).args] at gl
     rw[(T b).ret] at kq
     rw[pc.2 ⟨aT,bp,ef,gl,kq⟩] at eA;cases eA
  · obtain⟨x,J,rfl⟩:=List.mem_map.1 aE
    exact .inl ⟨x,J,T x⟩
 |none=>
  simp only
  have aH:=List.find?_eq_none.1 hf
  refine⟨⟨?_,?_,?_,?_,?_⟩,⟨rfl,by simp only;omega,λx J=>⟨x,List.mem_append_left _ J,Alike.refl x⟩,λq aE=>?_⟩,⟨_,List.mem_append_right _ (List.mem_singleton.2 rfl),rfl⟩⟩
  · rw[List.pairwise_append]
    refine⟨h.up,List.pairwise_singleton ..,λa aw b ae=>?_⟩
    obtain rfl:=List.mem_singleton.1 ae
    have:=(h.aY a aw).2.1
    simp only;omega
  · intro q aE
    rcases List.mem_append.1 aE with aE|aE
    · obtain⟨aa,ad,aq⟩:=h.aY q aE
      exact⟨aa,by simp only;omega,by simp only;omega⟩
    · obtain rfl:=List.mem_singleton.1 aE
      exact⟨by simp only;omega,Nat.le_refl _,Nat.le_refl _⟩
  · intro q aE i ag
    rcases List.mem_append.1 aE with aE|aE
    · rcases h.part q aE i ag with h0|⟨aa,p,ad,aq⟩
      · exact .inl h0
      · exact .inr ⟨aa,p,List.mem_append_left _ ad,aq⟩
    · obtain rfl:=List.mem_singleton.1 aE
      rcases aL i ag with h0|⟨p,ad,aq⟩
      · exact .inl h0
      · refine .inr ⟨?_,p,List.mem_append_left _ ad,aq⟩
        have:=(h.aY p ad).2.1
        simp only;omega
  · intro a aw b ae hu
    rcases List.mem_append.1 aw with aw|aw
    · rcases List.mem_append.1 ae with ae|ae
      · exact h.one a aw b ae hu
      · obtain rfl:=List.mem_singleton.1 ae
        have:=(h.aY a aw).2.2
        simp only at hu;omega
    · obtain rfl:=List.mem_singleton.1 aw
      rcases List.mem_append.1 ae with ae|ae
      · have:=(h.aY b ae).2.2
        simp only at hu;omega
      · obtain rfl:=List.mem_singleton.1 ae
        rfl
  · rw[List.pairwise_append]
    refine⟨h.apart,List.pairwise_singleton ..,λa aw b ae=>?_⟩
    obtain rfl:=List.mem_singleton.1 ae
    rw[JU]
    simpa using aH a aw
  · rcases List.mem_append.1 aE with aE|aE
    · exact .inl ⟨q,aE,Alike.refl q⟩
    · obtain rfl:=List.mem_singleton.1 aE
      exact .inr ⟨by simp only;omega,rfl⟩
mutual
theorem pd:∀(t:aZ) {s:b7},dG s->dG (cC t s).2/\lJ s (cC t s).2/\Has (cC t s).2 (cC t s).1
 |.mk k nm ns xs rt,s,h=>by
  obtain⟨aa,al,eH⟩:=zU xs h
  obtain⟨ad,aA,fB⟩:=JW rt aa
  rw[cC]
  obtain⟨aq,aU,j4⟩:=TZ ad (k:=k) (nm:=nm) (ns:=ns) (az:=(cP xs s).1) (r:=(hc rt (cP xs s).2).1) λi ag=>by
   rcases List.mem_cons.1 ag with rfl|ag
   · exact fB
   · exact .inr ((eH i ag).JV aA)
  exact⟨aq,(al.trans aA).trans aU,j4⟩
theorem zU:∀(l:List aZ) {s:b7},dG s->dG (cP l s).2/\lJ s (cP l s).2/\∀i∈(cP l s).1,Has (cP l s).2 i
 |[],s,h=>by rw[cP];exact⟨h,lJ.refl s,λi ag=>by cases ag⟩
 |t::l,s,h=>by
  obtain⟨aa,al,eH⟩:=pd t h
  obtain⟨ad,aA,fB⟩:=zU l aa
  rw[cP]
  refine⟨ad,al.trans aA,λi ag=>?_⟩
  rcases List.mem_cons.1 ag with rfl|ag
  · exact eH.JV aA
  · exact fB i ag
theorem JW:∀(o:Option aZ) {s:b7},dG s->dG (hc o s).2/\lJ s (hc o s).2/\((hc o s).1=0\/Has (hc o s).2 (hc o s).1)
 |none,s,h=>by rw[hc];exact⟨h,lJ.refl s,.inl rfl⟩
 |some t,s,h=>by
  obtain⟨aa,al,eH⟩:=pd t h
  rw[hc]
  exact⟨aa,al,.inr eH⟩
end
structure zV(f:bI->bI):Prop where
 id:∀e,(f e).id=e.id
 parts:∀e,(f e).parts=e.parts
 used:∀e,(f e).used=e.used
 is:∀e k nm ns az r,(f e).is k nm ns az r=e.is k nm ns az r
 a9:∀e,(f e).k=e.k/\(f e).nm=e.nm/\(f e).ns=e.ns/\(f e).args=e.args/\(f e).ret=e.ret
theorem qI(i:Nat):zV (fK i):=by
 refine⟨λe=>?_,λe=>?_,λe=>?_,λe k nm ns az r=>?_,λe=>?_⟩<;>unfold fK<;>split<;>first|rfl|exact⟨rfl,rfl,rfl,rfl,rfl⟩
theorem zW(i:Nat):zV (hN i):=by
 refine⟨λe=>?_,λe=>?_,λe=>?_,λe k nm ns az r=>?_,λe=>?_⟩<;>unfold hN<;>split<;>first|rfl|exact⟨rfl,rfl,rfl,rfl,rfl⟩
theorem dG.map{s:b7}(h:dG s){f:bI->bI}(F:zV f):dG {s with l:=s.l.map f}:=by
 refine⟨?_,?_,?_,?_,?_⟩
 · show(s.l.map f).Pairwise _
   rw[List.pairwise_map]
   exact h.up.imp λ{a b} eA=>by rw[F.id,F.id];exact eA
 · intro q aE
   obtain⟨x,J,rfl⟩:=List.mem_map.1 aE
   rw[F.id,F.used]
   exact h.aY x J
 · intro q aE i ag
   obtain⟨x,J,rfl⟩:=List.mem_map.1 aE
   rw[F.parts] at ag
   rw[F.id]
   rcases h.part x J i ag with h0|⟨aa,p,ad,aq⟩
   · exact .inl h0
   · exact .inr ⟨aa,_,List.mem_map.2 ⟨p,ad,rfl⟩,by rw[F.id,aq]⟩
 · intro a aw b ae hu
   obtain⟨x,J,rfl⟩:=List.mem_map.1 aw
   obtain⟨y,aO,rfl⟩:=List.mem_map.1 ae
   rw[F.used,F.used] at hu
   rw[F.id,F.id]
   exact h.one x J y aO hu
 · show(s.l.map f).Pairwise _
   rw[List.pairwise_map]
   refine h.apart.imp λ{a b} eA=>?_
   obtain⟨aa,ad,aq,aC,bC⟩:=F.a9 a
   rw[aa,ad,aq,aC,bC,F.is]
   exact eA
theorem zX(cap:Nat):∀(n:Nat) (l:List bI),∀e∈hM cap n l,e∈l
 |0,l,e,h=>h
 |n+1,l,e,h=>by
  rw[hM] at h
  split at h
  · cases ae:ie l l with
    |none=>rw[ae] at h;exact h
    |some x=>rw[ae] at h;exact(mo.1 (zX cap n _ e h)).1
  · exact h
theorem JX(cap:Nat):∀(n:Nat) (l:List bI),∀e∈l,(∀x∈l,x.id=e.id->x.pins≠0)->e∈hM cap n l
 |0,l,e,h,_=>h
 |n+1,l,e,h,aL=>by
  rw[hM]
  split
  · cases ae:ie l l with
    |none=>exact h
    |some x=>
     obtain⟨aa,ad,_⟩:=so ae
     refine JX cap n _ e (mo.2 ⟨h,λcn=>aL x aa cn.symm (sn.1 ad).1⟩) λy aO=>aL y (mo.1 aO).1
  · exact h
theorem T0{l:List bI}{e:bI}(h:e∈l):(eF e.id l).length<l.length:=by
 unfold eF
 refine List.length_filter_lt_length_iff_exists.2 ⟨e,h,?_⟩
 simp[Nat.beq_refl]
theorem D2{s:b7}:∀(n:Nat) (l:List bI),dG {s with l:=l}->(∀e∈l,e.pins=0)->l.length<=n->hM 0 n l=[]
 |0,l,h,aL,aH=>List.length_eq_zero_iff.1 (by rw[hM];omega)
 |n+1,l,h,aL,aH=>by
  rw[hM]
  split
  · rename_i h0
    have ar:l≠[]:=by intro e;rw[e] at h0;simp at h0
    cases ae:ie l l with
    |none=>exact absurd ae (dG.least h aL ar)
    |some e=>
     obtain⟨aa,ad,_⟩:=so ae
     have:=T0 aa
     exact D2 n _ (dG.drop h (sn.1 ad).2) (λx J=>aL x (mo.1 J).1) (by omega)
  · exact List.length_eq_zero_iff.1 (by omega)
theorem D3(t:aZ){s:b7}(h:dG s):dG (dF t s).2:=zT _ _ ((pd t h).1.map (qI _))
theorem D4{i:Nat}{l:List bI}{e:bI}(h:mn i l=some e):e∈l/\e.id=i:=by
 refine⟨List.mem_of_find?_eq_some h,?_⟩
 have:=List.find?_some h
 exact Nat.eq_of_beq_eq_true this
theorem JY(i:Nat){s:b7}(h:dG s):dG (gq i s).2:=by
 unfold gq
 cases mn i s.l with
 |none=>exact h
 |some e=>
  simp only
  split
  · exact h
  · exact zT _ _ (h.map (zW _))
theorem T1(t:aZ){s:b7}(h:dG s):∃e∈(dF t s).2.l,e.id=(dF t s).1/\e.pins≠0:=by
 obtain⟨aa,al,p,aL,ag⟩:=pd t h
 have an:=aa.map (qI (cC t s).1)
 have pp:(fK (cC t s).1 p).pins≠0:=by unfold fK;rw[if_pos ag];simp
 have pi:(fK (cC t s).1 p).id=(cC t s).1:=((qI _).id p).trans ag
 refine⟨fK (cC t s).1 p,JX _ _ _ _ (List.mem_map.2 ⟨p,aL,rfl⟩) λx J e=>?_,pi,pp⟩
 have:=TY an.up J (List.mem_map.2 ⟨p,aL,rfl⟩) e
 rw[this];exact pp
theorem never(t:aZ){s:b7}(h:dG s)(h0:s.l=[])(af:s.cap=0):s.given<(dF t s).1/\(dF t s).1<=(dF t s).2.given/\(dF t s).2.cap=0/\(gq (dF t s).1 (dF t s).2).1=0/\(gq (dF t s).1 (dF t s).2).2.l=[]/\(gq (dF t s).1 (dF t s).2).2.cap=0/\(gq (dF t s).1 (dF t s).2).2.given=(dF t s).2.given:=by
 obtain⟨aa,al,p,aL,ag⟩:=pd t h
 have hj:(cC t s).2.cap=0:=al.cap.trans af
 have JZ:=D3 t h
 obtain⟨e,he,zY,Yu⟩:=T1 t h
 have D5:(dF t s).2.cap=0:=hj
 have new:∀q∈(cC t s).2.l,s.given<q.id/\q.pins=0:=λq aE=>by
  rcases al.new q aE with⟨x,J,_⟩|ad
  · rw[h0] at J;cases J
  · exact ad
 have aY:=JZ.aY e he
 rw[zY] at aY
 have pins:∀x∈(dF t s).2.l,x.pins=if x.id=(dF t s).1 then 1 else 0:=λx J=>by
  obtain⟨y,aO,rfl⟩:=List.mem_map.1 (zX _ _ _ x J)
  obtain⟨_,aq⟩:=new y aO
  have gU:=(qI (cC t s).1).id y
  show(fK (cC t s).1 y).pins=if(fK (cC t s).1 y).id=(cC t s).1 then 1 else 0
  rw[gU]
  unfold fK
  split
  · show y.pins+1=1;omega
  · exact aq
 have hf:∃x,mn (dF t s).1 (dF t s).2.l=some x:=by
  cases J:mn (dF t s).1 (dF t s).2.l with
  |some x=>exact⟨x,rfl⟩
  |none=>
   have:=List.find?_eq_none.1 J e he
   rw[zY] at this;simp[Nat.beq_refl] at this
 obtain⟨x,J⟩:=hf
 obtain⟨bM,cU⟩:=D4 J
 have T2:=pins x bM
 rw[if_pos cU] at T2
 have da:gq (dF t s).1 (dF t s).2=(0,hd {(dF t s).2 with l:=(dF t s).2.l.map (hN (dF t s).1)}):=by
  unfold gq
  rw[J]
  simp only
  rw[if_neg (by omega)]
 rw[da]
 refine⟨?_,aY.2.1,D5,rfl,?_,D5,rfl⟩
 · show s.given<(cC t s).1
   have:=(new p aL).1
   omega
 · show hM (dF t s).2.cap _ _=[]
   rw[D5]
   refine D2 (s:=(dF t s).2) _ _ (JZ.map (zW _)) (λq aE=>?_) (Nat.le_refl _)
   obtain⟨y,aO,rfl⟩:=List.mem_map.1 aE
   have hyp:=pins y aO
   unfold hN
   split
   · rename_i aC
     rw[if_pos aC] at hyp
     show y.pins-1=0;omega
   · rename_i aC
     rw[if_neg aC] at hyp
     exact hyp
mutual
def qJ(l:List bI):Nat->aZ->Prop
 |i,.mk k nm ns xs rt=>∃e∈l,e.id=i/\e.k=k/\e.nm=nm/\e.ns=ns/\qK l e.args xs/\zZ l e.ret rt
def qK(l:List bI):List Nat->List aZ->Prop
 |n_,[]=>n_=[]
 |n_,t::cu=>∃i hb,n_=i::hb/\qJ l i t/\qK l hb cu
def zZ(l:List bI):Nat->Option aZ->Prop
 |r,none=>r=0
 |r,some t=>qJ l r t
end
def vP(l:List bI)(L:List Nat):Prop:=∀e∈l,e.id∈L->∀p∈e.parts,p=0\/p∈L
theorem uw{t:aZ}:hY (some t)=0<->sz t<=60/\fD t=true:=by
 simp only[hY]
 split
 · constructor
   · intro h;cases h
   · rintro⟨h,_⟩;omega
 · split
   · rename_i aa ad;exact⟨λ_=>⟨by omega,ad⟩,λ_=>rfl⟩
   · rename_i aa ad
     constructor
     · intro h;cases h
     · rintro⟨_,h⟩;exact absurd h ad
end Go.Proofs.hJ
