/-
  PROVED HERE: contracts of functions (Sxb). No condition beside each statement's own.
-/
import Derived.Test.YtfooahfebojldaaGreatDoorSxa
set_option linter.unusedVariables false
set_option linter.unusedSimpArgs false
namespace aB
open Go
section
variable {D:Type}
def fk(enc:D->List I)(aW:List D):List I:=aW.flatMap enc
theorem zu{A:Type}{enc:D->List A}{w:Nat}(hw:∀d,(enc d).length=w):∀(aW:List D) (j:Nat),(aW.flatMap enc)[j]? =if j<aW.length*w then(aW[j/w]?).bind (λd=>(enc d)[j %w]?) else none
 |[],j=>by simp
 |d::aW,j=>by
  rw[List.flatMap_cons,List.getElem?_append,hw]
  by_cases h:j<w
  · have aa:j/w=0:=Nat.div_eq_of_lt h
    have ad:j %w=j:=Nat.mod_eq_of_lt h
    rw[if_pos h,if_pos (by rw[List.length_cons,Nat.add_mul];omega),aa,ad];rfl
  · have PN:0<w\/w=0:=by omega
    rcases PN with h0|h0
    · obtain⟨k,rfl⟩:∃k,j=k+w:=⟨j-w,by omega⟩
      rw[if_neg h,Nat.add_sub_cancel,zu hw aW k,Nat.add_div_right k h0,Nat.add_mod_right]
      have:(k<aW.length*w)=(k+w<(d::aW).length*w):=by rw[List.length_cons,Nat.add_mul];apply propext;omega
      simp only[this];rfl
    · subst h0
      rw[if_neg h,zu hw aW (j-0)]
      simp
theorem CB{enc:D->List I}{w:Nat}(hw:∀d,(enc d).length=w):∀aW:List D,(fk enc aW).length=aW.length*w
 |[]=>by simp[fk]
 |d::aW=>by
  have:=CB hw aW
  unfold fk at this⊢
  rw[List.flatMap_cons,List.length_append,hw,this,List.length_cons,Nat.add_mul];omega
theorem HT(enc:D->List I)(l m:List D):fk enc (l++m)=fk enc l++fk enc m:=by simp[fk]
theorem HU(enc:D->List I)(d:D)(m:List D):fk enc (d::m)=enc d++fk enc m:=rfl
theorem PO{aW:List D}{i:Nat}(ae:i<aW.length):aW=aW.take i++aW[i]::aW.drop (i+1):=by
 rw[<-List.drop_eq_getElem_cons ae,List.take_append_drop]
section
variable {enc:D->List I} {w:Nat}
theorem CC(hw:∀d,(enc d).length=w){h:J}{b el bk up off:Nat}{k:ey}{aW:List D}{rest:List I}(ak:h.get b=some (.cells (fk enc aW++rest) el k bk up)){i:Nat}(ae:i<aW.length)(a7:off=i*w):
  aB.loadCells h b off w=some (enc aW[i]):=by
 have e:fk enc aW++rest=fk enc (aW.take i)++(enc aW[i]++(fk enc (aW.drop (i+1))++rest)):=by
  conv=>lhs;rw[PO ae]
  simp only[HT,HU,List.append_assoc,List.cons_append]
 have aq:(fk enc (aW.take i)).length=off:=by rw[CB hw,List.length_take,a7,Nat.min_eq_left (by omega)]
 simp only[aB.loadCells,ak,e]
 rw[<-aq,HL]
 exact PH _ _ _ (hw _)
theorem zv(ag:∀d,(enc d).all I.b0=true):∀aW:List D,(fk enc aW).all I.b0=true
 |[]=>rfl
 |d::aW=>by rw[HU,List.all_append,ag,zv ag aW];rfl
end
end
end aB
namespace aB
open Go
structure su{D:Type}(P:Program)(enc:D->List I)(w:Nat)(el sT:TypeId):Prop where
 hu:P.underlying sT=some (.slice el)
 gk:nZ P (some sT)=true
 info:∃i,P.info? el=some i/\i.size=w/\i.bytes<=1000
 zero:∃z,ea P el=some z/\z.cells.length=w
 size:dd P el=some w
 len:∀d,(enc d).length=w
 cell:∀d,(enc d).all I.b0=true
 pos:0<w
section
variable {D:Type} {P:Program} {enc:D->List I} {w:Nat} {el sT:TypeId}
def ki(enc:D->List I)(w:Nat)(el:TypeId)(B:Nat)(h:J)(v:I)(aW:List D):Prop:=
 (v=.bf/\aW=[])\/∃p,v=.slice p 0 aW.length (.aS w)/\0<aW.length/\h.get p=some (.cells (fk enc aW) el .aS 0 0)/\B<=p/\p<h.n
theorem ki.mono{B lo:Nat}{h an:J}{v:I}{aW:List D}(a7:ki enc w el B h v aW)(e:Ext lo h an)(bI:h.n<=lo):ki enc w el B an v aW:=by
 rcases a7 with a7|⟨p,aa,ad,aw,aQ,bS⟩
 · exact .inl a7
 · exact .inr ⟨p,aa,ad,(e.get p (by omega)).trans aw,aQ,Nat.lt_of_lt_of_le bS e.n⟩
theorem ki.sound{B:Nat}{h:J}{v:I}{aW:List D}(a7:ki enc w el B h v aW):I.sound v=true:=by
 rcases a7 with⟨rfl,_⟩|⟨p,rfl,_⟩<;>rfl
theorem ki.load(T:su P enc w el sT){B p n:Nat}{c:ch}{h:J}{aW:List D}(a7:ki enc w el B h (.slice p 0 n c) aW):n=aW.length/\p<h.n/\∀i (ae:i<aW.length),aB.loadCells h p (0+i*w) w=some (enc aW[i]):=by
 rcases a7 with⟨h,_⟩|⟨q,e,ad,aw,aQ,bS⟩
 · cases h
 · cases e
   exact⟨rfl,bS,λi ae=>CC (off:=0+i*w) (rest:=[]) T.len (by rw[List.append_nil];exact aw) ae (by omega)⟩
theorem PQ(T:su P enc w el sT){h:J}{src:I}{es:List D}(hs:hW h w src=some (es.length,fk enc es))(h0:0<es.length)(aq:es.length<=1000000):gx P h sT (some sT) .bf src=some (.slice h.n 0 es.length (.aS w),h.push (.cells (fk enc es) el .aS 0 0)):=by
 obtain⟨i,ae,bH,mR⟩:=T.info
 obtain⟨z,a4,ie⟩:=T.zero
 obtain⟨k,av⟩:∃k,es.length=k+1:=⟨es.length-1,by omega⟩
 have gV:k2 (k+1) i.bytes=true:=by
  unfold k2
  have aa:(4*(k+1)+2048)*(i.bytes+1)<=5000000*1001:=Nat.mul_le_mul (by omega) (by omega)
  simp;omega
 have hS:j_ h el i.bytes w (k+1) z (fk enc es) 0=some (.slice h.n 0 (k+1) (.aS w),h.push (.cells (fk enc es) el .aS 0 0)):=
  wE gV (by rw[ie];simp) (zv T.cell es)
 rw[av] at hs⊢
 simp only[gx,T.hu,T.gk,ae,a4,bH,hs,hS]
theorem PR(T:su P enc w el sT){h:J}{src:I}{p:Nat}{aW es:List D}(ak:h.get p=some (.cells (fk enc aW) el .aS 0 0))(hs:hW h w src=some (es.length,fk enc es))(h0:0<es.length)(aq:aW.length+es.length<=1000000):
  gx P h sT (some sT) (.slice p 0 aW.length (.aS w)) src=some (.slice h.n 0 (aW.length+es.length) (.aS w),(h.set p none).push (.cells (fk enc (aW++es)) el .aS 0 0)):=by
 obtain⟨i,ae,bH,mR⟩:=T.info
 obtain⟨z,a4,ie⟩:=T.zero
 obtain⟨k,av⟩:∃k,es.length=k+1:=⟨es.length-1,by omega⟩
 have gV:k2 (aW.length+(k+1)) i.bytes=true:=by
  unfold k2
  have aa:(4*(aW.length+(k+1))+2048)*(i.bytes+1)<=5000000*1001:=Nat.mul_le_mul (by omega) (by omega)
  simp;omega
 have hS:j_ (h.set p none) el i.bytes w (aW.length+(k+1)) z (fk enc aW++fk enc es) (0-0)=some (.slice (h.set p none).n 0 (aW.length+(k+1)) (.aS w),(h.set p none).push (.cells (fk enc aW++fk enc es) el .aS 0 0)):=
  wE gV (by rw[ie];simp) (by rw[List.all_append,zv T.cell,zv T.cell];rfl)
 have hr:(Nat.beq w w&&Nat.blt 0 w)=true:=by
  have:=T.pos
  simp[Nat.blt_eq];omega
 have hlen:=CB T.len aW
 have pk:Nat.ble (0+(aW.length+(k+1))*w) (fk enc aW).length=false:=by
  cases ab:Nat.ble (0+(aW.length+(k+1))*w) (fk enc aW).length with
  |false=>rfl
  |true=>
   have:=Nat.le_of_ble_eq_true ab
   rw[hlen,Nat.add_mul,Nat.add_mul] at this
   have:=T.pos
   omega
 have jT:(Nat.ble 0 (0+aW.length*w)&&Nat.beq el el)=true:=by simp
 have fA:aB.loadCells h p 0 (aW.length*w)=some (fk enc aW):=by
  have:=zl (h:=h) (xs:=fk enc aW) (rest:=[]) (by rw[List.append_nil];exact ak)
  rwa [hlen] at this
 rw[av] at hs⊢
 rw[HT]
 simp only[gx,T.hu,T.gk,ae,a4,bH,hs,hr,ak,pk,jT,fA,hS]
 rfl
end
end aB
namespace aB
open Go
section
variable {P:Program}
end
section
variable {P:Program} {rd:Option Nat} {call:aF->List I->J->ao} {fn:Func}
end
end aB
namespace aB
open Go
section
variable {P:Program} {intr:Nat->List I->J->Option (I×J)}
end
end aB
namespace aB
open Go
section
variable {P:Program} {fn:Func} {call:aF->List I->J->ao}
def bj(P:Program)(fn:Func)(call:aF->List I->J->ao)(p:List Nat)(st:ah)(Q:bw->ah->Prop):Prop:=∃e ca,az P fn none call p st e ca/\Q e ca
def dI(A:ah->Prop)(Q:bw->ah->Prop):bw->ah->Prop
 |.nrm,s=>A s
 |e,s=>Q e s
theorem bj.of{p:List Nat}{st ca:ah}{e:bw}{Q:bw->ah->Prop}(h:az P fn none call p st e ca)(q:Q e ca):bj P fn call p st Q:=⟨e,ca,h,q⟩
theorem bj.mono{p:List Nat}{st:ah}{Q HV:bw->ah->Prop}(h:bj P fn call p st Q)(bp:∀e s,Q e s->HV e s):bj P fn call p st HV:=by
 obtain⟨e,s,r,q⟩:=h;exact⟨e,s,r,bp e s q⟩
theorem bj.pre{p:List Nat}{st st1:ah}{Q:bw->ah->Prop}(h:bj P fn call p st Q)(hs:cg st.Γ st1.Γ)(aA:st1.d=st.d)(bp:st1.q=st.q)(aj:st1.h=st.h):bj P fn call p st1 Q:=by
 obtain⟨e,s,r,q⟩:=h;exact⟨e,s,cC.pre r hs aA bp aj,q⟩
theorem ef.more{p:List Nat}{n m:Nat}{st ca:ah}{e:bw}(qf:n<=m)(h:ef P fn none call p n st e ca):ef P fn none call p m st e ca:=by
 intro r ai
 obtain⟨r1,ax,cM⟩:=h r ai
 exact⟨r1,Cu qf ax,cM⟩
theorem bj.loop{p:List Nat}{Q:bw->ah->Prop}(hs:zj (sub (fF fn) p)=true)(l4:Nat->ah->Prop)(step:∀k st,l4 k st->bj P fn call (p++[0]) st (dI (λs=>∃j,j<k/\l4 j s) Q)):∀(k:Nat) (st:ah),k<99999->l4 k st->bj P fn call p st Q:=by
 have key:∀(k:Nat) (st:ah),l4 k st->∃e ca,ef P fn none call p (k+1) st e ca/\Q e ca:=by
  intro k
  induction k using Nat.strongRecOn with
  |_ k bd=>
   intro st ae
   obtain⟨e,s,r,q⟩:=step k st ae
   have out:∀{e:bw},az P fn none call (p++[0]) st e s->e≠ .nrm->Q e s->∃e ca,ef P fn none call p (k+1) st e ca/\Q e ca:=λr he q=>⟨_,s,.exit r he,q⟩
   cases e with
   |nrm=>
    obtain⟨j,aG,qE⟩:=q
    obtain⟨ay,s2,r2,aY⟩:=bd j aG s qE
    refine⟨ay,s2,?_,aY⟩
    have:ef P fn none call p (j+1+1) st ay s2:=.step r r2
    exact ef.more (by omega) this
   |exit j=>exact out r (by simp) q
   |ret=>exact out r (by simp) q
   |b1 v=>exact out r (by simp) q
   |_=>exact out r (by simp) q
 intro k st av ae
 obtain⟨e,s,r,q⟩:=key k st ae
 exact⟨e,s,ef.run hs r (by omega),q⟩
variable {intr:Nat->List I->J->Option (I×J)}
theorem HW{f n:Nat}{args:List I}{h:J}{R:ao->Prop}(hf:P.funcs[f]? =some fn)(af:fn.body.isSome=true)(ae:intr f args h=none)(hle:Nat.ble args.length fn.ntmps=true)
  {Q:bw->ah->Prop}(ak:bj P fn (fq P intr n) [] ⟨nA 0 args,[],.none,h⟩ Q)
  (PS:∀e s,Q e s->((e=.ret\/e=.nrm)/\s.d=[]/\∃w,mV P (dM fn) fn s.Γ s.h=some w/\R (.ret w s.h))\/∃v,e=.b1 v/\s.d=[]/\R (.b1 v s.h)):R (fq P intr (n+1) (.fn f) args h):=by
 obtain⟨e,s,r,q⟩:=ak
 obtain⟨Γ,d,Yu,an⟩:=s
 rcases PS e _ q with⟨he,aA,w,hw,ai⟩|⟨v,rfl,aA,ai⟩
 · simp only at aA hw ai
   subst aA
   rw[ed hf af ae hle r he hw];exact ai
 · simp only at aA ai
   subst aA
   rw[PA hf af ae hle r];exact ai
end
end aB
namespace aB
set_option maxRecDepth 100000
open Go
def bM(B:Nat)(h:J)(v:I)(x:ao):Prop:=∃an,x=.ret v an/\Ext B h an
theorem bM.mk{B:Nat}{h an:J}{v:I}(e:Ext B h an):bM B h v (.ret v an):=⟨an,rfl,e⟩
theorem bM.of{B:Nat}{h an:J}{v w:I}(aC:v=w)(e:Ext B h an):bM B h v (.ret w an):=⟨an,by rw[aC],e⟩
theorem eo{a b:Bool}(h:a=b):I.bool a=I.bool b:=by rw[h]
theorem gg{B b i:Nat}{h x:J}(e:Ext B h x)(af:b<B){v:I}(aq:au h b i=some v):au x b i=some v:=by
 unfold au at aq⊢
 rw[e.get b af];exact aq
theorem CD{h:J}{b i:Nat}{cs:List I}{e bk up:Nat}{k:ey}{v:I}(ak:h.get b=some (.cells cs e k bk up))(aI:cs[i]? =some v):au h b i=some v:=by
 have key:∀(l:List I) (j:Nat),nth j l=l[j]? :=by
  intro l
  induction l with
  |nil=>intro j;cases j<;>rfl
  |cons a l bd=>intro j;cases j with
   |zero=>rfl
   |succ j=>exact bd j
 exact aL ak (by rw[key];exact aI)
theorem PT{h an:J}{b off:Nat}{xs:List I}(e:aB.storeCells h b off xs=some an){d:Nat}(aA:d≠b):an.get d=h.get d:=by
 unfold aB.storeCells at e
 repeat' split at e
 all_goals first
  |(cases e;done)
  |(cases e;rw[J.b2,if_neg aA])
  |(simp at e;done)
theorem PU{h an:J}{e bytes size need fz:Nat}{z v:I}{cs:List I}(ak:j_ h e bytes size need z cs fz=some (v,an)){d:Nat}(aA:d<h.n):an.get d=h.get d:=by
 unfold j_ at ak
 split at ak
 · cases ak;rw[J.eB,if_neg (by omega)]
 · cases ak
theorem PV{P:Program}{h an:J}{sT:TypeId}{xT:Option TypeId}{s x v:I}(e:gx P h sT xT s x=some (v,an)){d:Nat}(aA:d<h.n)(hs:∀o l c,s≠ .slice d o l c):an.get d=h.get d:=by
 have hS:∀(h0:J) (e b s n:Nat) (z:I) (cs:List I) (fz:Nat) (v:I) (aa:J),j_ h0 e b s n z cs fz=some (v,aa)->∀d,d<h0.n->aa.get d=h0.get d:=λh0 e b s n z cs fz v aa ak d aA=>PU ak aA
 unfold gx at e
 generalize j_=G at e hS
 repeat' split at e
 all_goals first
  |exact hS _ _ _ _ _ _ _ _ _ _ e d aA
  |(refine(hS _ _ _ _ _ _ _ _ _ _ e d (by simpa using aA)).trans ?_;rw[J.b2,if_neg (λaf=>hs _ _ _ (by rw[af]))])
  |(cases e;done)
  |(cases e;rfl)
  |(cases e;rename_i cf;exact PT cf (λaf=>hs _ _ _ (by rw[af])))
  |(simp at e;done)
def PW(e:Nat)(o:Option cp):Prop:=∀cs bk up,o≠some (.cells cs e .aS bk up)
structure l5(e b B:Nat)(h an:J):Prop where
 x:eJ b B h an
 k:∀d,d<h.n->d≠b->PW e (h.get d)->an.get d=h.get d
theorem l5.refl(e b B:Nat)(h:J):l5 e b B h h:=⟨eJ.refl _ _ _,λ_ _ _ _=>rfl⟩
theorem l5.trans{e b B:Nat}{h aa ad:J}(w:l5 e b B h aa)(w':l5 e b B aa ad):l5 e b B h ad:=
 ⟨w.x.trans (Nat.le_refl _) w'.x,λd aA af aI=>(w'.k d (Nat.lt_of_lt_of_le aA w.x.n) af (by rw[w.k d aA af aI];exact aI)).trans (w.k d aA af aI)⟩
theorem l5.ext{e b B:Nat}{h aa:J}(x:Ext h.n h aa)(bI:B<=h.n):l5 e b B h aa:=⟨(x.le bI).mX b,λd aA _ _=>x.get d aA⟩
end aB
