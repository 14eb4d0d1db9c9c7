/-
  PROVED HERE: contracts of functions (Sxb). No condition beside each statement's own.
-/
import Derived.Test.YtjkomfonmcmgdaaDoorSxa
set_option linter.unusedVariables false
set_option linter.unusedSimpArgs false
set_option maxRecDepth 100000
namespace a8
open Go
section
variable {D:Type}
def dS(enc:D->List I)(ds:List D):List I:=ds.flatMap enc
theorem CK{enc:D->List I}{w:Nat}(hw:∀d,(enc d).length=w):∀ds:List D,(dS enc ds).length=ds.length*w
 |[]=>by simp[dS]
 |d::ds=>by
  have:=CK hw ds
  unfold dS at this⊢
  rw[List.flatMap_cons,List.length_append,hw,this,List.length_cons,Nat.add_mul];omega
theorem Qe(enc:D->List I)(l m:List D):dS enc (l++m)=dS enc l++dS enc m:=by simp[dS]
theorem Qf(enc:D->List I)(d:D)(m:List D):dS enc (d::m)=enc d++dS enc m:=rfl
section
variable {enc:D->List I} {w:Nat}
theorem wg(af:∀d,(enc d).all I.cw=true):∀ds:List D,(dS enc ds).all I.cw=true
 |[]=>rfl
 |d::ds=>by rw[Qf,List.all_append,af,wg af ds];rfl
end
end
structure kd{D:Type}(P:Program)(enc:D->List I)(w:Nat)(el sT:TypeId):Prop where
 hu:P.underlying sT=some (.slice el)
 fb:ni P (some sT)=true
 info:∃i,P.info? el=some i/\i.size=w/\i.bytes<=1000
 zero:∃z,dt P el=some z/\z.cells.length=w
 size:cY P el=some w
 len:∀d,(enc d).length=w
 cell:∀d,(enc d).all I.cw=true
 pos:0<w
section
variable {D:Type} {P:Program} {enc:D->List I} {w:Nat} {el sT:TypeId}
def cH(enc:D->List I)(w:Nat)(el:TypeId)(B:Nat)(h:ab)(v:I)(ds:List D):Prop:=
 (v=.bd/\ds=[])\/∃p,v=.slice p 0 ds.length (.aS w)/\0<ds.length/\h.get p=some (.cells (dS enc ds) el .aS 0 0)/\B<=p/\p<h.n
theorem cH.mono{B mW:Nat}{h ao:ab}{v:I}{ds:List D}(aQ:cH enc w el B h v ds)(e:Ext mW h ao)(c3:h.n<=mW):cH enc w el B ao v ds:=by
 rcases aQ with aQ|⟨p,aa,ad,aq,aC,bC⟩
 · exact .inl aQ
 · exact .inr ⟨p,aa,ad,(e.get p (by omega)).trans aq,aC,Nat.lt_of_lt_of_le bC e.n⟩
theorem cH.cL{B:Nat}{h ao:ab}{v:I}{ds:List D}(aQ:cH enc w el B h v ds)(aH:h.n<=ao.n)(an:∀p,v=.slice p 0 ds.length (.aS w)->p<h.n->ao.get p=h.get p):cH enc w el B ao v ds:=by
 rcases aQ with aQ|⟨q,rfl,ad,aq,aC,bC⟩
 · exact .inl aQ
 · exact .inr ⟨q,rfl,ad,(an q rfl bC).trans aq,aC,by omega⟩
theorem cH.ze{B:Nat}{h:ab}{v:I}{ds:List D}(aQ:cH enc w el B h v ds){c:Nat}{cs:List I}{q7:Nat}{o:Option cX}(af:h.get c=some (.cells cs q7 .own 0 0)):cH enc w el B (h.set c o) v ds:=by
 rcases aQ with aQ|⟨p,aa,ad,aq,aC,bC⟩
 · exact .inl aQ
 · exact .inr ⟨p,aa,ad,c5 (λe=>by subst e;rw[af] at aq;cases aq) aq,aC,by simpa using bC⟩
theorem cH.sound{B:Nat}{h:ab}{v:I}{ds:List D}(aQ:cH enc w el B h v ds):I.sound v=true:=by
 rcases aQ with⟨rfl,_⟩|⟨p,rfl,_⟩<;>rfl
theorem cH.src(T:kd P enc w el sT){B:Nat}{h:ab}{v:I}{ds:List D}(aQ:cH enc w el B h v ds):fF h w v=some (ds.length,dS enc ds):=by
 rcases aQ with⟨rfl,rfl⟩|⟨p,rfl,ad,aq,aC,bC⟩
 · rfl
 · have:=y7 (h:=h) (xs:=dS enc ds) (rest:=[]) (by rw[List.append_nil];exact aq)
   rw[CK T.len] at this
   simp only[fF,this]
theorem Qg(T:kd P enc w el sT){h:ab}{src:I}(hs:fF h w src=some (0,[])):eh P h sT (some sT) .bd src=some (.bd,h):=by
 obtain⟨i,ag,bh,_⟩:=T.info
 obtain⟨z,aP,_⟩:=T.zero
 simp only[eh,T.hu,T.fb,ag,aP,bh,hs]
theorem HT(T:kd P enc w el sT){h:ab}{src:I}{es:List D}(hs:fF h w src=some (es.length,dS enc es))(h0:0<es.length)(ar:es.length<=1000000):eh P h sT (some sT) .bd src=some (.slice h.n 0 es.length (.aS w),h.push (.cells (dS enc es) el .aS 0 0)):=by
 obtain⟨i,ag,bh,l5⟩:=T.info
 obtain⟨z,aP,hi⟩:=T.zero
 obtain⟨k,an⟩:∃k,es.length=k+1:=⟨es.length-1,by omega⟩
 have fk:jA (k+1) i.bytes=true:=by
  unfold jA
  have aa:(4*(k+1)+2048)*(i.bytes+1)<=5000000*1001:=Nat.mul_le_mul (by omega) (by omega)
  simp;omega
 have ke:ji h el i.bytes w (k+1) z (dS enc es) 0=some (.slice h.n 0 (k+1) (.aS w),h.push (.cells (dS enc es) el .aS 0 0)):=
  tG fk (by rw[hi];simp) (wg T.cell es)
 rw[an] at hs⊢
 simp only[eh,T.hu,T.fb,ag,aP,bh,hs,ke]
theorem HU(T:kd P enc w el sT){h:ab}{src:I}{p:Nat}{ds es:List D}(aj:h.get p=some (.cells (dS enc ds) el .aS 0 0))(hs:fF h w src=some (es.length,dS enc es))(h0:0<es.length)(ar:ds.length+es.length<=1000000):
  eh P h sT (some sT) (.slice p 0 ds.length (.aS w)) src=some (.slice h.n 0 (ds.length+es.length) (.aS w),(h.set p none).push (.cells (dS enc (ds++es)) el .aS 0 0)):=by
 obtain⟨i,ag,bh,l5⟩:=T.info
 obtain⟨z,aP,hi⟩:=T.zero
 obtain⟨k,an⟩:∃k,es.length=k+1:=⟨es.length-1,by omega⟩
 have fk:jA (ds.length+(k+1)) i.bytes=true:=by
  unfold jA
  have aa:(4*(ds.length+(k+1))+2048)*(i.bytes+1)<=5000000*1001:=Nat.mul_le_mul (by omega) (by omega)
  simp;omega
 have ke:ji (h.set p none) el i.bytes w (ds.length+(k+1)) z (dS enc ds++dS enc es) (0-0)=some (.slice (h.set p none).n 0 (ds.length+(k+1)) (.aS w),(h.set p none).push (.cells (dS enc ds++dS enc es) el .aS 0 0)):=
  tG fk (by rw[hi];simp) (by rw[List.all_append,wg T.cell,wg T.cell];rfl)
 have tw:(Nat.beq w w&&Nat.blt 0 w)=true:=by
  have:=T.pos
  simp[Nat.blt_eq];omega
 have hlen:=CK T.len ds
 have mX:Nat.ble (0+(ds.length+(k+1))*w) (dS enc ds).length=false:=by
  cases J:Nat.ble (0+(ds.length+(k+1))*w) (dS enc ds).length with
  |false=>rfl
  |true=>
   have:=Nat.le_of_ble_eq_true J
   rw[hlen,Nat.add_mul,Nat.add_mul] at this
   have:=T.pos
   omega
 have jm:(Nat.ble 0 (0+ds.length*w)&&Nat.beq el el)=true:=by simp
 have ga:a8.loadCells h p 0 (ds.length*w)=some (dS enc ds):=by
  have:=y7 (h:=h) (xs:=dS enc ds) (rest:=[]) (by rw[List.append_nil];exact aj)
  rwa [hlen] at this
 rw[an] at hs⊢
 rw[Qe]
 simp only[eh,T.hu,T.fb,ag,aP,bh,hs,tw,aj,mX,jm,ga,ke]
 rfl
theorem CL(T:kd P enc w el sT){B:Nat}{h:ab}{v src:I}{ds es:List D}(aQ:cH enc w el B h v ds)(c3:B<=h.n)(hs:fF h w src=some (es.length,dS enc es))(ar:ds.length+es.length<=1000000):
  ∃v' ao,eh P h sT (some sT) v src=some (v',ao)/\cH enc w el B ao v' (ds++es)/\Ext B h ao/\h.n<=ao.n/\∀c,c<h.n->(∀n cp,v≠ .slice c 0 n cp)->ao.get c=h.get c:=by
 by_cases h0:es.length=0
 · have he:es=[]:=List.eq_nil_of_length_eq_zero h0
   subst he
   refine⟨v,h,?_,by rw[List.append_nil];exact aQ,Ext.refl _ _,Nat.le_refl _,λ_ _ _=>rfl⟩
   rcases aQ with⟨rfl,_⟩|⟨p,rfl,ad,aq,aC,bC⟩
   · exact Qg T hs
   · obtain⟨i,ag,bh,l5⟩:=T.info
     obtain⟨z,aP,hi⟩:=T.zero
     have tw:(Nat.beq w w&&Nat.blt 0 w)=true:=by
      have:=T.pos
      simp[Nat.blt_eq];omega
     have c_:fF h w src=some (0,dS enc []):=hs
     simp only[eh,T.hu,T.fb,ag,aP,bh,c_,tw]
 · rcases aQ with⟨rfl,rfl⟩|⟨p,rfl,ad,aq,aC,bC⟩
   · rw[List.nil_append]
     exact⟨_,_,HT T hs (by omega) (by simp at ar;omega),.inr ⟨h.n,rfl,by omega,fI rfl,c3,by simp⟩,Ext.lq c3 (Ext.refl _ _),by simp,λc af _=>lp af rfl⟩
   · refine⟨_,_,HU T aq hs (by omega) ar,.inr ⟨h.n,by rw[List.length_append],by rw[List.length_append];omega,by exact fI (by simp),c3,by simp⟩,?_,by simp,λc af hw=>?_⟩
     · exact Ext.lq (by simp;omega) (Ext.hG aC (Ext.refl _ _))
     · exact lp (by simpa using af) (c5 (λe=>hw _ _ (by rw[e])) rfl)
theorem wh(T:kd P enc w el sT)(g:ab)(t:TypeId)(d:D):fF (g.push (.cells (enc d) t .own 0 0)) w (.slice g.n 0 1 (.exact 1))=some ([d].length,dS enc [d]):=by
 have e:takeN (1*w) (ih 0 (enc d))=some (enc d):=by
  rw[Nat.one_mul]
  have:=HR (enc d) [] w (T.len d)
  rw[List.append_nil] at this
  exact this
 have:a8.loadCells (g.push (.cells (enc d) t .own 0 0)) g.n 0 (1*w)=some (enc d):=oW (fI rfl) e
 simp only[fF,this]
 simp[dS]
end
section
variable {P:Program}
end
section
variable {P:Program} {rd:Option Nat} {call:bt} {fn:Func}
end
section
variable {P:Program} {intr:Nat->List I->ab->Option (I×ab)}
end
section
variable {P:Program} {fn:Func} {call:bt}
def a4(P:Program)(fn:Func)(call:bt)(p:List Nat)(st:au)(Q:bk->au->Prop):Prop:=∃e bG,bS P fn none call p st e bG/\Q e bG
def df(A:au->Prop)(Q:bk->au->Prop):bk->au->Prop
 |.nrm,s=>A s
 |e,s=>Q e s
def CM(id:Nat)(Q:bk->au->Prop):bk->au->Prop
 |.exit j,s=>if j=id then Q .nrm s else Q (.exit j) s
 |e,s=>Q e s
theorem a4.of{p:List Nat}{st bG:au}{e:bk}{Q:bk->au->Prop}(h:bS P fn none call p st e bG)(q:Q e bG):a4 P fn call p st Q:=⟨e,bG,h,q⟩
theorem a4.mono{p:List Nat}{st:au}{Q HV:bk->au->Prop}(h:a4 P fn call p st Q)(aE:∀e s,Q e s->HV e s):a4 P fn call p st HV:=by
 obtain⟨e,s,r,q⟩:=h;exact⟨e,s,r,aE e s q⟩
theorem a4.seq{p:List Nat}{st:au}{Q:bk->au->Prop}(hs:rN (sub (en fn) p)=true)(h:a4 P fn call (p++[0]) st (df (λs=>a4 P fn call (p++[1]) s Q) Q)):a4 P fn call p st Q:=by
 obtain⟨e,s,r,q⟩:=h
 cases e with
 |nrm=>obtain⟨av,s2,r2,ba⟩:=q;exact⟨av,s2,bS.seq hs r r2,ba⟩
 |exit j=>exact⟨_,s,bS.qa hs r (by simp),q⟩
 |ret=>exact⟨_,s,bS.qa hs r (by simp),q⟩
 |bK v=>exact⟨_,s,bS.qa hs r (by simp),q⟩
 |_=>exact⟨_,s,bS.qa hs r (by simp),q⟩
theorem a4.pre{p:List Nat}{st st1:au}{Q:bk->au->Prop}(h:a4 P fn call p st Q)(hs:cd st.Γ st1.Γ)(ak:st1.d=st.d)(aE:st1.q=st.q)(ah:st1.h=st.h):a4 P fn call p st1 Q:=by
 obtain⟨e,s,r,q⟩:=h;exact⟨e,s,dT.pre r hs ak aE ah,q⟩
theorem iJ.more{p:List Nat}{n m:Nat}{st bG:au}{e:bk}(jl:n<=m)(h:iJ P fn none call p n st e bG):iJ P fn none call p m st e bG:=by
 intro r ai
 obtain⟨r1,ax,aR⟩:=h r ai
 exact⟨r1,CC jl ax,aR⟩
theorem a4.loop{p:List Nat}{Q:bk->au->Prop}(hs:wb (sub (en fn) p)=true)(ch:Nat->au->Prop)(step:∀k st,ch k st->a4 P fn call (p++[0]) st (df (λs=>∃j,j<k/\ch j s) Q)):∀(k:Nat) (st:au),k<99999->ch k st->a4 P fn call p st Q:=by
 have key:∀(k:Nat) (st:au),ch k st->∃e bG,iJ P fn none call p (k+1) st e bG/\Q e bG:=by
  intro k
  induction k using Nat.strongRecOn with
  |_ k a3=>
   intro st ag
   obtain⟨e,s,r,q⟩:=step k st ag
   have out:∀{e:bk},bS P fn none call (p++[0]) st e s->e≠ .nrm->Q e s->∃e bG,iJ P fn none call p (k+1) st e bG/\Q e bG:=λr he q=>⟨_,s,.exit r he,q⟩
   cases e with
   |nrm=>
    obtain⟨j,aF,rv⟩:=q
    obtain⟨av,s2,r2,ba⟩:=a3 j aF s rv
    refine⟨av,s2,?_,ba⟩
    have:iJ P fn none call p (j+1+1) st av s2:=.step r r2
    exact iJ.more (by omega) this
   |exit j=>exact out r (by simp) q
   |ret=>exact out r (by simp) q
   |bK v=>exact out r (by simp) q
   |_=>exact out r (by simp) q
 intro k st an ag
 obtain⟨e,s,r,q⟩:=key k st ag
 exact⟨e,s,iJ.run hs r (by omega),q⟩
variable {intr:Nat->List I->ab->Option (I×ab)}
theorem HW{f n:Nat}{args:List I}{h:ab}{R:a7->Prop}(hf:P.funcs[f]? =some fn)(ae:fn.body.isSome=true)(ag:intr f args h=none)(hle:Nat.ble args.length fn.ntmps=true)
  {Q:bk->au->Prop}(aj:a4 P fn (et P intr n) [] ⟨l9 0 args,[],.none,h⟩ Q)
  (Qh:∀e s,Q e s->((e=.ret\/e=.nrm)/\s.d=[]/\∃w,p_ P (c8 fn) fn s.Γ s.h=some w/\R (.ret w s.h))\/∃v,e=.bK v/\s.d=[]/\R (.bK v s.h)):R (et P intr (n+1) (.fn f) args h):=by
 obtain⟨e,s,r,q⟩:=aj
 obtain⟨Γ,d,Yk,ao⟩:=s
 rcases Qh e _ q with⟨he,ak,w,hw,ai⟩|⟨v,rfl,ak,ai⟩
 · simp only at ak hw ai
   subst ak
   rw[fH hf ae ag hle r he hw];exact ai
 · simp only at ak ai
   subst ak
   rw[P1 hf ae ag hle r];exact ai
end
def cx(B:Nat)(h:ab)(v:I)(x:a7):Prop:=∃ao,x=.ret v ao/\Ext B h ao
theorem cx.mk{B:Nat}{h ao:ab}{v:I}(e:Ext B h ao):cx B h v (.ret v ao):=⟨ao,rfl,e⟩
theorem cx.of{B:Nat}{h ao:ab}{v w:I}(aD:v=w)(e:Ext B h ao):cx B h v (.ret w ao):=⟨ao,by rw[aD],e⟩
theorem g9{a b:Bool}(h:a=b):I.bool a=I.bool b:=by rw[h]
theorem lr{B b i:Nat}{h x:ab}(e:Ext B h x)(ae:b<B){v:I}(ar:aB h b i=some v):aB x b i=some v:=by
 unfold aB at ar⊢
 rw[e.get b ae];exact ar
theorem mb{h:ab}{b i:Nat}{cs:List I}{e aY up:Nat}{k:hz}{v:I}(aj:h.get b=some (.cells cs e k aY up))(aH:cs[i]? =some v):aB h b i=some v:=by
 have key:∀(l:List I) (j:Nat),nth j l=l[j]? :=by
  intro l
  induction l with
  |nil=>intro j;cases j<;>rfl
  |cons a l a3=>intro j;cases j with
   |zero=>rfl
   |succ j=>exact a3 j
 exact a_ aj (by rw[key];exact aH)
theorem Qi{h ao:ab}{b off:Nat}{xs:List I}(e:a8.storeCells h b off xs=some ao){d:Nat}(ak:d≠b):ao.get d=h.get d:=by
 unfold a8.storeCells at e
 repeat' split at e
 all_goals first
  |(cases e;done)
  |(cases e;rw[ab.cD,if_neg ak])
  |(simp at e;done)
theorem Qj{h ao:ab}{e bytes size need fz:Nat}{z v:I}{cs:List I}(aj:ji h e bytes size need z cs fz=some (v,ao)){d:Nat}(ak:d<h.n):ao.get d=h.get d:=by
 unfold ji at aj
 split at aj
 · cases aj;rw[ab.fA,if_neg (by omega)]
 · cases aj
theorem Qk{P:Program}{h ao:ab}{sT:TypeId}{xT:Option TypeId}{s x v:I}(e:eh P h sT xT s x=some (v,ao)){d:Nat}(ak:d<h.n)(hs:∀o l c,s≠ .slice d o l c):ao.get d=h.get d:=by
 have ke:∀(h0:ab) (e b s n:Nat) (z:I) (cs:List I) (fz:Nat) (v:I) (aa:ab),ji h0 e b s n z cs fz=some (v,aa)->∀d,d<h0.n->aa.get d=h0.get d:=λh0 e b s n z cs fz v aa aj d ak=>Qj aj ak
 unfold eh at e
 generalize ji=G at e ke
 repeat' split at e
 all_goals first
  |exact ke _ _ _ _ _ _ _ _ _ _ e d ak
  |(refine(ke _ _ _ _ _ _ _ _ _ _ e d (by simpa using ak)).trans ?_;rw[ab.cD,if_neg (λae=>hs _ _ _ (by rw[ae]))])
  |(cases e;done)
  |(cases e;rfl)
  |(cases e;rename_i bY;exact Qi bY (λae=>hs _ _ _ (by rw[ae])))
  |(simp at e;done)
def ia(e:Nat)(o:Option cX):Prop:=∀cs aY up,o≠some (.cells cs e .aS aY up)
structure lu(e b B:Nat)(h ao:ab):Prop where
 x:jP b B h ao
 k:∀d,d<h.n->d≠b->ia e (h.get d)->ao.get d=h.get d
theorem lu.refl(e b B:Nat)(h:ab):lu e b B h h:=⟨jP.refl _ _ _,λ_ _ _ _=>rfl⟩
theorem lu.trans{e b B:Nat}{h aa ad:ab}(w:lu e b B h aa)(w':lu e b B aa ad):lu e b B h ad:=
 ⟨w.x.trans (Nat.le_refl _) w'.x,λd ak ae aH=>(w'.k d (Nat.lt_of_lt_of_le ak w.x.n) ae (by rw[w.k d ak ae aH];exact aH)).trans (w.k d ak ae aH)⟩
theorem lu.ext{e b B:Nat}{h aa:ab}(x:Ext h.n h aa)(c3:B<=h.n):lu e b B h aa:=⟨(x.le c3).Qc b,λd ak _ _=>x.get d ak⟩
end a8
