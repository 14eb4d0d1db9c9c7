/-
  PROVED HERE: contracts of functions (Sxb). No condition beside each statement's own.
-/
import Derived.Test.YtjkomfonmcmgdaaGreatDoorSxa
set_option linter.unusedVariables false
set_option linter.unusedSimpArgs false
namespace aP
open Go
section
variable {D:Type}
def dR(enc:D->List I)(ds:List D):List I:=ds.flatMap enc
theorem EH{enc:D->List I}{w:Nat}(hw:∀d,(enc d).length=w):∀ds:List D,(dR enc ds).length=ds.length*w
 |[]=>by simp[dR]
 |d::ds=>by
  have:=EH hw ds
  unfold dR at this⊢
  rw[List.flatMap_cons,List.length_append,hw,this,List.length_cons,Nat.add_mul];omega
theorem Tg(enc:D->List I)(l m:List D):dR enc (l++m)=dR enc l++dR enc m:=by simp[dR]
theorem Th(enc:D->List I)(d:D)(m:List D):dR enc (d::m)=enc d++dR enc m:=rfl
section
variable {enc:D->List I} {w:Nat}
theorem yq(ag:∀d,(enc d).all I.cT=true):∀ds:List D,(dR enc ds).all I.cT=true
 |[]=>rfl
 |d::ds=>by rw[Th,List.all_append,ag,yq ag ds];rfl
end
end
end aP
namespace aP
open Go
structure k7{D:Type}(P:Program)(enc:D->List I)(w:Nat)(el sT:TypeId):Prop where
 hu:P.underlying sT=some (.slice el)
 fD:o4 P (some sT)=true
 info:∃i,P.info? el=some i/\i.size=w/\i.bytes<=1000
 zero:∃z,ei P el=some z/\z.cells.length=w
 size:dn P el=some w
 len:∀d,(enc d).length=w
 cell:∀d,(enc d).all I.cT=true
 pos:0<w
section
variable {D:Type} {P:Program} {enc:D->List I} {w:Nat} {el sT:TypeId}
def cC(enc:D->List I)(w:Nat)(el:TypeId)(B:Nat)(h:J)(v:I)(ds:List D):Prop:=
 (v=.a0/\ds=[])\/∃p,v=.slice p 0 ds.length (.a1 w)/\0<ds.length/\h.get p=some (.cells (dR enc ds) el .a1 0 0)/\B<=p/\p<h.n
theorem cC.le{B l6:Nat}{h:J}{v:I}{ds:List D}(cM:B<=l6):cC enc w el l6 h v ds->cC enc w el B h v ds
 |.inl h=>.inl h
 |.inr ⟨p,ab,ad,ar,aG,bJ⟩=>.inr ⟨p,ab,ad,ar,Nat.le_trans cM aG,bJ⟩
theorem cC.mono{B l6:Nat}{h an:J}{v:I}{ds:List D}(a4:cC enc w el B h v ds)(e:Ext l6 h an)(cM:h.n<=l6):cC enc w el B an v ds:=by
 rcases a4 with a4|⟨p,ab,ad,ar,aG,bJ⟩
 · exact .inl a4
 · exact .inr ⟨p,ab,ad,(e.get p (by omega)).trans ar,aG,Nat.lt_of_lt_of_le bJ e.n⟩
theorem cC.b8{B:Nat}{h an:J}{v:I}{ds:List D}(a4:cC enc w el B h v ds)(aN:h.n<=an.n)(aq:∀p,v=.slice p 0 ds.length (.a1 w)->p<h.n->an.get p=h.get p):cC enc w el B an v ds:=by
 rcases a4 with a4|⟨q,rfl,ad,ar,aG,bJ⟩
 · exact .inl a4
 · exact .inr ⟨q,rfl,ad,(aq q rfl bJ).trans ar,aG,by omega⟩
theorem cC.r3{B:Nat}{h:J}{v:I}{ds:List D}(a4:cC enc w el B h v ds){c:Nat}{cs:List I}{pt:Nat}{o:Option df}(ag:h.get c=some (.cells cs pt .own 0 0)):cC enc w el B (h.set c o) v ds:=by
 rcases a4 with a4|⟨p,ab,ad,ar,aG,bJ⟩
 · exact .inl a4
 · exact .inr ⟨p,ab,ad,dM (λe=>by subst e;rw[ag] at ar;cases ar) ar,aG,by simpa using bJ⟩
theorem cC.sound{B:Nat}{h:J}{v:I}{ds:List D}(a4:cC enc w el B h v ds):I.sound v=true:=by
 rcases a4 with⟨rfl,_⟩|⟨p,rfl,_⟩<;>rfl
theorem cC.src(T:k7 P enc w el sT){B:Nat}{h:J}{v:I}{ds:List D}(a4:cC enc w el B h v ds):fV h w v=some (ds.length,dR enc ds):=by
 rcases a4 with⟨rfl,rfl⟩|⟨p,rfl,ad,ar,aG,bJ⟩
 · rfl
 · have:=ED (h:=h) (xs:=dR enc ds) (rest:=[]) (by rw[List.append_nil];exact ar)
   rw[EH T.len] at this
   simp only[fV,this]
theorem Ti(T:k7 P enc w el sT){h:J}{src:I}(hs:fV h w src=some (0,[])):dt P h sT (some sT) .a0 src=some (.a0,h):=by
 obtain⟨i,af,bx,_⟩:=T.info
 obtain⟨z,a2,_⟩:=T.zero
 simp only[dt,T.hu,T.fD,af,a2,bx,hs]
theorem Kq(T:k7 P enc w el sT){h:J}{src:I}{es:List D}(hs:fV h w src=some (es.length,dR enc es))(h0:0<es.length)(aw:es.length<=1000000):dt P h sT (some sT) .a0 src=some (.slice h.n 0 es.length (.a1 w),h.push (.cells (dR enc es) el .a1 0 0)):=by
 obtain⟨i,af,bx,nF⟩:=T.info
 obtain⟨z,a2,ik⟩:=T.zero
 obtain⟨k,aq⟩:∃k,es.length=k+1:=⟨es.length-1,by omega⟩
 have hi:kW (k+1) i.bytes=true:=by
  unfold kW
  have ab:(4*(k+1)+2048)*(i.bytes+1)<=5000000*1001:=Nat.mul_le_mul (by omega) (by omega)
  simp;omega
 have iY:ku h el i.bytes w (k+1) z (dR enc es) 0=some (.slice h.n 0 (k+1) (.a1 w),h.push (.cells (dR enc es) el .a1 0 0)):=
  vE hi (by rw[ik];simp) (yq T.cell es)
 rw[aq] at hs⊢
 simp only[dt,T.hu,T.fD,af,a2,bx,hs,iY]
theorem Kr(T:k7 P enc w el sT){h:J}{src:I}{p:Nat}{ds es:List D}(al:h.get p=some (.cells (dR enc ds) el .a1 0 0))(hs:fV h w src=some (es.length,dR enc es))(h0:0<es.length)(aw:ds.length+es.length<=1000000):
  dt P h sT (some sT) (.slice p 0 ds.length (.a1 w)) src=some (.slice h.n 0 (ds.length+es.length) (.a1 w),(h.set p none).push (.cells (dR enc (ds++es)) el .a1 0 0)):=by
 obtain⟨i,af,bx,nF⟩:=T.info
 obtain⟨z,a2,ik⟩:=T.zero
 obtain⟨k,aq⟩:∃k,es.length=k+1:=⟨es.length-1,by omega⟩
 have hi:kW (ds.length+(k+1)) i.bytes=true:=by
  unfold kW
  have ab:(4*(ds.length+(k+1))+2048)*(i.bytes+1)<=5000000*1001:=Nat.mul_le_mul (by omega) (by omega)
  simp;omega
 have iY:ku (h.set p none) el i.bytes w (ds.length+(k+1)) z (dR enc ds++dR enc es) (0-0)=some (.slice (h.set p none).n 0 (ds.length+(k+1)) (.a1 w),(h.set p none).push (.cells (dR enc ds++dR enc es) el .a1 0 0)):=
  vE hi (by rw[ik];simp) (by rw[List.all_append,yq T.cell,yq T.cell];rfl)
 have iW:(Nat.beq w w&&Nat.blt 0 w)=true:=by
  have:=T.pos
  simp[Nat.blt_eq];omega
 have hlen:=EH T.len ds
 have oD:Nat.ble (0+(ds.length+(k+1))*w) (dR enc ds).length=false:=by
  cases aa:Nat.ble (0+(ds.length+(k+1))*w) (dR enc ds).length with
  |false=>rfl
  |true=>
   have:=Nat.le_of_ble_eq_true aa
   rw[hlen,Nat.add_mul,Nat.add_mul] at this
   have:=T.pos
   omega
 have kx:(Nat.ble 0 (0+ds.length*w)&&Nat.beq el el)=true:=by simp
 have fp:aP.loadCells h p 0 (ds.length*w)=some (dR enc ds):=by
  have:=ED (h:=h) (xs:=dR enc ds) (rest:=[]) (by rw[List.append_nil];exact al)
  rwa [hlen] at this
 rw[aq] at hs⊢
 rw[Tg]
 simp only[dt,T.hu,T.fD,af,a2,bx,hs,iW,al,oD,kx,fp,iY]
 rfl
theorem vG(T:k7 P enc w el sT){B:Nat}{h:J}{v src:I}{ds es:List D}(a4:cC enc w el B h v ds)(cM:B<=h.n)(hs:fV h w src=some (es.length,dR enc es))(aw:ds.length+es.length<=1000000):
  ∃v' an,dt P h sT (some sT) v src=some (v',an)/\cC enc w el B an v' (ds++es)/\Ext B h an/\h.n<=an.n/\∀c,c<h.n->(∀n cp,v≠ .slice c 0 n cp)->an.get c=h.get c:=by
 by_cases h0:es.length=0
 · have he:es=[]:=List.eq_nil_of_length_eq_zero h0
   subst he
   refine⟨v,h,?_,by rw[List.append_nil];exact a4,Ext.refl _ _,Nat.le_refl _,λ_ _ _=>rfl⟩
   rcases a4 with⟨rfl,_⟩|⟨p,rfl,ad,ar,aG,bJ⟩
   · exact Ti T hs
   · obtain⟨i,af,bx,nF⟩:=T.info
     obtain⟨z,a2,ik⟩:=T.zero
     have iW:(Nat.beq w w&&Nat.blt 0 w)=true:=by
      have:=T.pos
      simp[Nat.blt_eq];omega
     have dv:fV h w src=some (0,dR enc []):=hs
     simp only[dt,T.hu,T.fD,af,a2,bx,dv,iW]
 · rcases a4 with⟨rfl,rfl⟩|⟨p,rfl,ad,ar,aG,bJ⟩
   · rw[List.nil_append]
     exact⟨_,_,Kq T hs (by omega) (by simp at aw;omega),.inr ⟨h.n,rfl,by omega,fo rfl,cM,by simp⟩,Ext.kG cM (Ext.refl _ _),by simp,λc ag _=>l7 ag rfl⟩
   · refine⟨_,_,Kr T ar hs (by omega) aw,.inr ⟨h.n,by rw[List.length_append],by rw[List.length_append];omega,by exact fo (by simp),cM,by simp⟩,?_,by simp,λc ag hw=>?_⟩
     · exact Ext.kG (by simp;omega) (Ext.iX aG (Ext.refl _ _))
     · exact l7 (by simpa using ag) (dM (λe=>hw _ _ (by rw[e])) rfl)
theorem yr(T:k7 P enc w el sT)(g:J)(t:TypeId)(d:D):fV (g.push (.cells (enc d) t .own 0 0)) w (.slice g.n 0 1 (.exact 1))=some ([d].length,dR enc [d]):=by
 have e:takeN (1*w) (jD 0 (enc d))=some (enc d):=by
  rw[Nat.one_mul]
  have:=Km (enc d) [] w (T.len d)
  rw[List.append_nil] at this
  exact this
 have:aP.loadCells (g.push (.cells (enc d) t .own 0 0)) g.n 0 (1*w)=some (enc d):=pF (fo rfl) e
 simp only[fV,this]
 simp[dR]
end
end aP
namespace aP
open Go
section
variable {P:Program}
end
section
variable {P:Program} {rd:Option Nat} {call:aI->List I->J->av} {fn:Func}
end
end aP
namespace aP
open Go
section
variable {P:Program} {intr:Nat->List I->J->Option (I×J)}
end
end aP
namespace aP
open Go
section
variable {P:Program} {fn:Func} {call:aI->List I->J->av}
def a3(P:Program)(fn:Func)(call:aI->List I->J->av)(p:List Nat)(st:ah)(Q:bn->ah->Prop):Prop:=∃e b2,aL P fn none call p st e b2/\Q e b2
def dV(A:ah->Prop)(Q:bn->ah->Prop):bn->ah->Prop
 |.nrm,s=>A s
 |e,s=>Q e s
theorem a3.of{p:List Nat}{st b2:ah}{e:bn}{Q:bn->ah->Prop}(h:aL P fn none call p st e b2)(q:Q e b2):a3 P fn call p st Q:=⟨e,b2,h,q⟩
theorem a3.mono{p:List Nat}{st:ah}{Q Ks:bn->ah->Prop}(h:a3 P fn call p st Q)(aM:∀e s,Q e s->Ks e s):a3 P fn call p st Ks:=by
 obtain⟨e,s,r,q⟩:=h;exact⟨e,s,r,aM e s q⟩
theorem a3.seq{p:List Nat}{st:ah}{Q:bn->ah->Prop}(hs:tI (sub (e9 fn) p)=true)(h:a3 P fn call (p++[0]) st (dV (λs=>a3 P fn call (p++[1]) s Q) Q)):a3 P fn call p st Q:=by
 obtain⟨e,s,r,q⟩:=h
 cases e with
 |nrm=>obtain⟨ay,s2,r2,a6⟩:=q;exact⟨ay,s2,aL.seq hs r r2,a6⟩
 |exit j=>exact⟨_,s,aL.iM hs r (by simp),q⟩
 |ret=>exact⟨_,s,aL.iM hs r (by simp),q⟩
 |b6 v=>exact⟨_,s,aL.iM hs r (by simp),q⟩
 |_=>exact⟨_,s,aL.iM hs r (by simp),q⟩
theorem a3.pre{p:List Nat}{st st1:ah}{Q:bn->ah->Prop}(h:a3 P fn call p st Q)(hs:b_ st.Γ st1.Γ)(ao:st1.d=st.d)(aM:st1.q=st.q)(ak:st1.h=st.h):a3 P fn call p st1 Q:=by
 obtain⟨e,s,r,q⟩:=h;exact⟨e,s,c5.pre r hs ao aM ak,q⟩
theorem fx.more{p:List Nat}{n m:Nat}{st b2:ah}{e:bn}(jI:n<=m)(h:fx P fn none call p n st e b2):fx P fn none call p m st e b2:=by
 intro r aj
 obtain⟨r1,aA,aZ⟩:=h r aj
 exact⟨r1,EB jI aA,aZ⟩
theorem a3.loop{p:List Nat}{Q:bn->ah->Prop}(hs:yn (sub (e9 fn) p)=true)(c4:Nat->ah->Prop)(step:∀k st,c4 k st->a3 P fn call (p++[0]) st (dV (λs=>∃j,j<k/\c4 j s) Q)):∀(k:Nat) (st:ah),k<99999->c4 k st->a3 P fn call p st Q:=by
 have key:∀(k:Nat) (st:ah),c4 k st->∃e b2,fx P fn none call p (k+1) st e b2/\Q e b2:=by
  intro k
  induction k using Nat.strongRecOn with
  |_ k a7=>
   intro st af
   obtain⟨e,s,r,q⟩:=step k st af
   have out:∀{e:bn},aL P fn none call (p++[0]) st e s->e≠ .nrm->Q e s->∃e b2,fx P fn none call p (k+1) st e b2/\Q e b2:=λr he q=>⟨_,s,.exit r he,q⟩
   cases e with
   |nrm=>
    obtain⟨j,aJ,rU⟩:=q
    obtain⟨ay,s2,r2,a6⟩:=a7 j aJ s rU
    refine⟨ay,s2,?_,a6⟩
    have:fx P fn none call p (j+1+1) st ay s2:=.step r r2
    exact fx.more (by omega) this
   |exit j=>exact out r (by simp) q
   |ret=>exact out r (by simp) q
   |b6 v=>exact out r (by simp) q
   |_=>exact out r (by simp) q
 intro k st aq af
 obtain⟨e,s,r,q⟩:=key k st af
 exact⟨e,s,fx.run hs r (by omega),q⟩
variable {intr:Nat->List I->J->Option (I×J)}
theorem EI{f n:Nat}{args:List I}{h:J}{R:av->Prop}(hf:P.funcs[f]? =some fn)(ae:fn.body.isSome=true)(af:intr f args h=none)(hle:Nat.ble args.length fn.ntmps=true)
  {Q:bn->ah->Prop}(al:a3 P fn (fa P intr n) [] ⟨nJ 0 args,[],.none,h⟩ Q)
  (EJ:∀e s,Q e s->((e=.ret\/e=.nrm)/\s.d=[]/\∃w,r0 P (dL fn) fn s.Γ s.h=some w/\R (.ret w s.h))\/∃v,e=.b6 v/\s.d=[]/\R (.b6 v s.h)):R (fa P intr (n+1) (.fn f) args h):=by
 obtain⟨e,s,r,q⟩:=al
 obtain⟨Γ,d,adu,an⟩:=s
 rcases EJ e _ q with⟨he,ao,w,hw,aj⟩|⟨v,rfl,ao,aj⟩
 · simp only at ao hw aj
   subst ao
   rw[eR hf ae af hle r he hw];exact aj
 · simp only at ao aj
   subst ao
   rw[S3 hf ae af hle r];exact aj
end
end aP
namespace aP
set_option maxRecDepth 100000
open Go
def cP(B:Nat)(h:J)(v:I)(x:av):Prop:=∃an,x=.ret v an/\Ext B h an
theorem cP.mk{B:Nat}{h an:J}{v:I}(e:Ext B h an):cP B h v (.ret v an):=⟨an,rfl,e⟩
theorem cP.of{B:Nat}{h an:J}{v w:I}(aC:v=w)(e:Ext B h an):cP B h v (.ret w an):=⟨an,by rw[aC],e⟩
theorem ia{a b:Bool}(h:a=b):I.bool a=I.bool b:=by rw[h]
theorem iZ{B b i:Nat}{h x:J}(e:Ext B h x)(ae:b<B){v:I}(aw:au h b i=some v):au x b i=some v:=by
 unfold au at aw⊢
 rw[e.get b ae];exact aw
theorem l8{h:J}{b i:Nat}{cs:List I}{e aO up:Nat}{k:gM}{v:I}(al:h.get b=some (.cells cs e k aO up))(aN:cs[i]? =some v):au h b i=some v:=by
 have key:∀(l:List I) (j:Nat),nth j l=l[j]? :=by
  intro l
  induction l with
  |nil=>intro j;cases j<;>rfl
  |cons a l a7=>intro j;cases j with
   |zero=>rfl
   |succ j=>exact a7 j
 exact aV al (by rw[key];exact aN)
theorem Tj{h an:J}{b off:Nat}{xs:List I}(e:aP.storeCells h b off xs=some an){d:Nat}(ao:d≠b):an.get d=h.get d:=by
 unfold aP.storeCells at e
 repeat' split at e
 all_goals first
  |(cases e;done)
  |(cases e;rw[J.cV,if_neg ao])
  |(simp at e;done)
theorem Tk{h an:J}{e bytes size need fz:Nat}{z v:I}{cs:List I}(al:ku h e bytes size need z cs fz=some (v,an)){d:Nat}(ao:d<h.n):an.get d=h.get d:=by
 unfold ku at al
 split at al
 · cases al;rw[J.gp,if_neg (by omega)]
 · cases al
theorem Tl{P:Program}{h an:J}{sT:TypeId}{xT:Option TypeId}{s x v:I}(e:dt P h sT xT s x=some (v,an)){d:Nat}(ao:d<h.n)(hs:∀o l c,s≠ .slice d o l c):an.get d=h.get d:=by
 have iY:∀(h0:J) (e b s n:Nat) (z:I) (cs:List I) (fz:Nat) (v:I) (ab:J),ku h0 e b s n z cs fz=some (v,ab)->∀d,d<h0.n->ab.get d=h0.get d:=λh0 e b s n z cs fz v ab al d ao=>Tk al ao
 unfold dt at e
 generalize ku=G at e iY
 repeat' split at e
 all_goals first
  |exact iY _ _ _ _ _ _ _ _ _ _ e d ao
  |(refine(iY _ _ _ _ _ _ _ _ _ _ e d (by simpa using ao)).trans ?_;rw[J.cV,if_neg (λae=>hs _ _ _ (by rw[ae]))])
  |(cases e;done)
  |(cases e;rfl)
  |(cases e;rename_i ct;exact Tj ct (λae=>hs _ _ _ (by rw[ae])))
  |(simp at e;done)
def jx(e:Nat)(o:Option df):Prop:=∀cs aO up,o≠some (.cells cs e .a1 aO up)
structure mV(e b B:Nat)(h an:J):Prop where
 x:k6 b B h an
 k:∀d,d<h.n->d≠b->jx e (h.get d)->an.get d=h.get d
theorem mV.refl(e b B:Nat)(h:J):mV e b B h h:=⟨k6.refl _ _ _,λ_ _ _ _=>rfl⟩
theorem mV.trans{e b B:Nat}{h ab ad:J}(w:mV e b B h ab)(w':mV e b B ab ad):mV e b B h ad:=
 ⟨w.x.trans (Nat.le_refl _) w'.x,λd ao ae aN=>(w'.k d (Nat.lt_of_lt_of_le ao w.x.n) ae (by rw[w.k d ao ae aN];exact aN)).trans (w.k d ao ae aN)⟩
theorem mV.ext{e b B:Nat}{h ab:J}(x:Ext h.n h ab)(cM:B<=h.n):mV e b B h ab:=⟨(x.le cM).Td b,λd ao _ _=>x.get d ao⟩
end aP
