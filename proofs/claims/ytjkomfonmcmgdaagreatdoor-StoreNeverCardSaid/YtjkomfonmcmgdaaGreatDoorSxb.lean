/-
  PROVED HERE: contracts of functions (Sxb). No condition beside each statement's own.
-/
import Derived.Test.YtjkomfonmcmgdaaGreatDoorSxa
set_option linter.unusedVariables false
set_option linter.unusedSimpArgs false
namespace aM
open Go
section
variable {D:Type}
def dN(enc:D->List I)(ds:List D):List I:=ds.flatMap enc
theorem Eg{enc:D->List I}{w:Nat}(hw:∀d,(enc d).length=w):∀ds:List D,(dN enc ds).length=ds.length*w
 |[]=>by simp[dN]
 |d::ds=>by
  have:=Eg hw ds
  unfold dN at this⊢
  rw[List.flatMap_cons,List.length_append,hw,this,List.length_cons,Nat.add_mul];omega
theorem Sy(enc:D->List I)(l m:List D):dN enc (l++m)=dN enc l++dN enc m:=by simp[dN]
theorem Sz(enc:D->List I)(d:D)(m:List D):dN enc (d::m)=enc d++dN enc m:=rfl
section
variable {enc:D->List I} {w:Nat}
theorem x2(ag:∀d,(enc d).all I.cQ=true):∀ds:List D,(dN enc ds).all I.cQ=true
 |[]=>rfl
 |d::ds=>by rw[Sz,List.all_append,ag,x2 ag ds];rfl
end
end
end aM
namespace aM
open Go
structure kU{D:Type}(P:Program)(enc:D->List I)(w:Nat)(el sT:TypeId):Prop where
 hu:P.underlying sT=some (.slice el)
 fy:oG P (some sT)=true
 info:∃i,P.info? el=some i/\i.size=w/\i.bytes<=1000
 zero:∃z,d_ P el=some z/\z.cells.length=w
 size:dh P el=some w
 len:∀d,(enc d).length=w
 cell:∀d,(enc d).all I.cQ=true
 pos:0<w
section
variable {D:Type} {P:Program} {enc:D->List I} {w:Nat} {el sT:TypeId}
def cD(enc:D->List I)(w:Nat)(el:TypeId)(B:Nat)(h:J)(v:I)(ds:List D):Prop:=
 (v=.a0/\ds=[])\/∃p,v=.slice p 0 ds.length (.a1 w)/\0<ds.length/\h.get p=some (.cells (dN enc ds) el .a1 0 0)/\B<=p/\p<h.n
theorem cD.le{B lS:Nat}{h:J}{v:I}{ds:List D}(cM:B<=lS):cD enc w el lS h v ds->cD enc w el B h v ds
 |.inl h=>.inl h
 |.inr ⟨p,ab,ad,ar,aJ,bO⟩=>.inr ⟨p,ab,ad,ar,Nat.le_trans cM aJ,bO⟩
theorem cD.mono{B lS:Nat}{h an:J}{v:I}{ds:List D}(a2:cD enc w el B h v ds)(e:Ext lS h an)(cM:h.n<=lS):cD enc w el B an v ds:=by
 rcases a2 with a2|⟨p,ab,ad,ar,aJ,bO⟩
 · exact .inl a2
 · exact .inr ⟨p,ab,ad,(e.get p (by omega)).trans ar,aJ,Nat.lt_of_lt_of_le bO e.n⟩
theorem cD.ck{B:Nat}{h an:J}{v:I}{ds:List D}(a2:cD enc w el B h v ds)(aK:h.n<=an.n)(aq:∀p,v=.slice p 0 ds.length (.a1 w)->p<h.n->an.get p=h.get p):cD enc w el B an v ds:=by
 rcases a2 with a2|⟨q,rfl,ad,ar,aJ,bO⟩
 · exact .inl a2
 · exact .inr ⟨q,rfl,ad,(aq q rfl bO).trans ar,aJ,by omega⟩
theorem cD.rD{B:Nat}{h:J}{v:I}{ds:List D}(a2:cD enc w el B h v ds){c:Nat}{cs:List I}{o1:Nat}{o:Option da}(ag:h.get c=some (.cells cs o1 .own 0 0)):cD enc w el B (h.set c o) v ds:=by
 rcases a2 with a2|⟨p,ab,ad,ar,aJ,bO⟩
 · exact .inl a2
 · exact .inr ⟨p,ab,ad,dH (λe=>by subst e;rw[ag] at ar;cases ar) ar,aJ,by simpa using bO⟩
theorem cD.sound{B:Nat}{h:J}{v:I}{ds:List D}(a2:cD enc w el B h v ds):I.sound v=true:=by
 rcases a2 with⟨rfl,_⟩|⟨p,rfl,_⟩<;>rfl
theorem cD.src(T:kU P enc w el sT){B:Nat}{h:J}{v:I}{ds:List D}(a2:cD enc w el B h v ds):fP h w v=some (ds.length,dN enc ds):=by
 rcases a2 with⟨rfl,rfl⟩|⟨p,rfl,ad,ar,aJ,bO⟩
 · rfl
 · have:=Ec (h:=h) (xs:=dN enc ds) (rest:=[]) (by rw[List.append_nil];exact ar)
   rw[Eg T.len] at this
   simp only[fP,this]
theorem SA(T:kU P enc w el sT){h:J}{src:I}(hs:fP h w src=some (0,[])):dy P h sT (some sT) .a0 src=some (.a0,h):=by
 obtain⟨i,af,bw,_⟩:=T.info
 obtain⟨z,aZ,_⟩:=T.zero
 simp only[dy,T.hu,T.fy,af,aZ,bw,hs]
theorem JQ(T:kU P enc w el sT){h:J}{src:I}{es:List D}(hs:fP h w src=some (es.length,dN enc es))(h0:0<es.length)(aw:es.length<=1000000):dy P h sT (some sT) .a0 src=some (.slice h.n 0 es.length (.a1 w),h.push (.cells (dN enc es) el .a1 0 0)):=by
 obtain⟨i,af,bw,nj⟩:=T.info
 obtain⟨z,aZ,ia⟩:=T.zero
 obtain⟨k,aq⟩:∃k,es.length=k+1:=⟨es.length-1,by omega⟩
 have g_:kI (k+1) i.bytes=true:=by
  unfold kI
  have ab:(4*(k+1)+2048)*(i.bytes+1)<=5000000*1001:=Nat.mul_le_mul (by omega) (by omega)
  simp;omega
 have iR:kh h el i.bytes w (k+1) z (dN enc es) 0=some (.slice h.n 0 (k+1) (.a1 w),h.push (.cells (dN enc es) el .a1 0 0)):=
  va g_ (by rw[ia];simp) (x2 T.cell es)
 rw[aq] at hs⊢
 simp only[dy,T.hu,T.fy,af,aZ,bw,hs,iR]
theorem JR(T:kU P enc w el sT){h:J}{src:I}{p:Nat}{ds es:List D}(al:h.get p=some (.cells (dN enc ds) el .a1 0 0))(hs:fP h w src=some (es.length,dN enc es))(h0:0<es.length)(aw:ds.length+es.length<=1000000):
  dy P h sT (some sT) (.slice p 0 ds.length (.a1 w)) src=some (.slice h.n 0 (ds.length+es.length) (.a1 w),(h.set p none).push (.cells (dN enc (ds++es)) el .a1 0 0)):=by
 obtain⟨i,af,bw,nj⟩:=T.info
 obtain⟨z,aZ,ia⟩:=T.zero
 obtain⟨k,aq⟩:∃k,es.length=k+1:=⟨es.length-1,by omega⟩
 have g_:kI (ds.length+(k+1)) i.bytes=true:=by
  unfold kI
  have ab:(4*(ds.length+(k+1))+2048)*(i.bytes+1)<=5000000*1001:=Nat.mul_le_mul (by omega) (by omega)
  simp;omega
 have iR:kh (h.set p none) el i.bytes w (ds.length+(k+1)) z (dN enc ds++dN enc es) (0-0)=some (.slice (h.set p none).n 0 (ds.length+(k+1)) (.a1 w),(h.set p none).push (.cells (dN enc ds++dN enc es) el .a1 0 0)):=
  va g_ (by rw[ia];simp) (by rw[List.all_append,x2 T.cell,x2 T.cell];rfl)
 have iP:(Nat.beq w w&&Nat.blt 0 w)=true:=by
  have:=T.pos
  simp[Nat.blt_eq];omega
 have hlen:=Eg T.len ds
 have oc:Nat.ble (0+(ds.length+(k+1))*w) (dN enc ds).length=false:=by
  cases aa:Nat.ble (0+(ds.length+(k+1))*w) (dN enc ds).length with
  |false=>rfl
  |true=>
   have:=Nat.le_of_ble_eq_true aa
   rw[hlen,Nat.add_mul,Nat.add_mul] at this
   have:=T.pos
   omega
 have ki:(Nat.ble 0 (0+ds.length*w)&&Nat.beq el el)=true:=by simp
 have fU:aM.loadCells h p 0 (ds.length*w)=some (dN enc ds):=by
  have:=Ec (h:=h) (xs:=dN enc ds) (rest:=[]) (by rw[List.append_nil];exact al)
  rwa [hlen] at this
 rw[aq] at hs⊢
 rw[Sy]
 simp only[dy,T.hu,T.fy,af,aZ,bw,hs,iP,al,oc,ki,fU,iR]
 rfl
theorem vc(T:kU P enc w el sT){B:Nat}{h:J}{v src:I}{ds es:List D}(a2:cD enc w el B h v ds)(cM:B<=h.n)(hs:fP h w src=some (es.length,dN enc es))(aw:ds.length+es.length<=1000000):
  ∃v' an,dy P h sT (some sT) v src=some (v',an)/\cD enc w el B an v' (ds++es)/\Ext B h an/\h.n<=an.n/\∀c,c<h.n->(∀n cp,v≠ .slice c 0 n cp)->an.get c=h.get c:=by
 by_cases h0:es.length=0
 · have he:es=[]:=List.eq_nil_of_length_eq_zero h0
   subst he
   refine⟨v,h,?_,by rw[List.append_nil];exact a2,Ext.refl _ _,Nat.le_refl _,λ_ _ _=>rfl⟩
   rcases a2 with⟨rfl,_⟩|⟨p,rfl,ad,ar,aJ,bO⟩
   · exact SA T hs
   · obtain⟨i,af,bw,nj⟩:=T.info
     obtain⟨z,aZ,ia⟩:=T.zero
     have iP:(Nat.beq w w&&Nat.blt 0 w)=true:=by
      have:=T.pos
      simp[Nat.blt_eq];omega
     have dp:fP h w src=some (0,dN enc []):=hs
     simp only[dy,T.hu,T.fy,af,aZ,bw,dp,iP]
 · rcases a2 with⟨rfl,rfl⟩|⟨p,rfl,ad,ar,aJ,bO⟩
   · rw[List.nil_append]
     exact⟨_,_,JQ T hs (by omega) (by simp at aw;omega),.inr ⟨h.n,rfl,by omega,fj rfl,cM,by simp⟩,Ext.ks cM (Ext.refl _ _),by simp,λc ag _=>mC ag rfl⟩
   · refine⟨_,_,JR T ar hs (by omega) aw,.inr ⟨h.n,by rw[List.length_append],by rw[List.length_append];omega,by exact fj (by simp),cM,by simp⟩,?_,by simp,λc ag hw=>?_⟩
     · exact Ext.ks (by simp;omega) (Ext.iQ aJ (Ext.refl _ _))
     · exact mC (by simpa using ag) (dH (λe=>hw _ _ (by rw[e])) rfl)
theorem AV(T:kU P enc w el sT)(g:J)(t:TypeId)(d:D):fP (g.push (.cells (enc d) t .own 0 0)) w (.slice g.n 0 1 (.exact 1))=some ([d].length,dN enc [d]):=by
 have e:takeN (1*w) (jn 0 (enc d))=some (enc d):=by
  rw[Nat.one_mul]
  have:=JM (enc d) [] w (T.len d)
  rw[List.append_nil] at this
  exact this
 have:aM.loadCells (g.push (.cells (enc d) t .own 0 0)) g.n 0 (1*w)=some (enc d):=pb (fj rfl) e
 simp only[fP,this]
 simp[dN]
end
end aM
namespace aM
open Go
section
variable {P:Program}
end
section
variable {P:Program} {rd:Option Nat} {call:aI->List I->J->av} {fn:Func}
end
end aM
namespace aM
open Go
section
variable {P:Program} {intr:Nat->List I->J->Option (I×J)}
end
end aM
namespace aM
open Go
section
variable {P:Program} {fn:Func} {call:aI->List I->J->av}
def a4(P:Program)(fn:Func)(call:aI->List I->J->av)(p:List Nat)(st:ah)(Q:bn->ah->Prop):Prop:=∃e bZ,aH P fn none call p st e bZ/\Q e bZ
def dQ(A:ah->Prop)(Q:bn->ah->Prop):bn->ah->Prop
 |.nrm,s=>A s
 |e,s=>Q e s
theorem a4.of{p:List Nat}{st bZ:ah}{e:bn}{Q:bn->ah->Prop}(h:aH P fn none call p st e bZ)(q:Q e bZ):a4 P fn call p st Q:=⟨e,bZ,h,q⟩
theorem a4.mono{p:List Nat}{st:ah}{Q JS:bn->ah->Prop}(h:a4 P fn call p st Q)(aT:∀e s,Q e s->JS e s):a4 P fn call p st JS:=by
 obtain⟨e,s,r,q⟩:=h;exact⟨e,s,r,aT e s q⟩
theorem a4.seq{p:List Nat}{st:ah}{Q:bn->ah->Prop}(hs:td (sub (e3 fn) p)=true)(h:a4 P fn call (p++[0]) st (dQ (λs=>a4 P fn call (p++[1]) s Q) Q)):a4 P fn call p st Q:=by
 obtain⟨e,s,r,q⟩:=h
 cases e with
 |nrm=>obtain⟨ay,s2,r2,a7⟩:=q;exact⟨ay,s2,aH.seq hs r r2,a7⟩
 |exit j=>exact⟨_,s,aH.iD hs r (by simp),q⟩
 |ret=>exact⟨_,s,aH.iD hs r (by simp),q⟩
 |b4 v=>exact⟨_,s,aH.iD hs r (by simp),q⟩
 |_=>exact⟨_,s,aH.iD hs r (by simp),q⟩
theorem a4.pre{p:List Nat}{st st1:ah}{Q:bn->ah->Prop}(h:a4 P fn call p st Q)(hs:cl st.Γ st1.Γ)(ao:st1.d=st.d)(aT:st1.q=st.q)(ai:st1.h=st.h):a4 P fn call p st1 Q:=by
 obtain⟨e,s,r,q⟩:=h;exact⟨e,s,cZ.pre r hs ao aT ai,q⟩
theorem ft.more{p:List Nat}{n m:Nat}{st bZ:ah}{e:bn}(jt:n<=m)(h:ft P fn none call p n st e bZ):ft P fn none call p m st e bZ:=by
 intro r ak
 obtain⟨r1,aA,a3⟩:=h r ak
 exact⟨r1,Ea jt aA,a3⟩
theorem a4.loop{p:List Nat}{Q:bn->ah->Prop}(hs:xZ (sub (e3 fn) p)=true)(eG:Nat->ah->Prop)(step:∀k st,eG k st->a4 P fn call (p++[0]) st (dQ (λs=>∃j,j<k/\eG j s) Q)):∀(k:Nat) (st:ah),k<99999->eG k st->a4 P fn call p st Q:=by
 have key:∀(k:Nat) (st:ah),eG k st->∃e bZ,ft P fn none call p (k+1) st e bZ/\Q e bZ:=by
  intro k
  induction k using Nat.strongRecOn with
  |_ k a6=>
   intro st af
   obtain⟨e,s,r,q⟩:=step k st af
   have out:∀{e:bn},aH P fn none call (p++[0]) st e s->e≠ .nrm->Q e s->∃e bZ,ft P fn none call p (k+1) st e bZ/\Q e bZ:=λr he q=>⟨_,s,.exit r he,q⟩
   cases e with
   |nrm=>
    obtain⟨j,aL,ru⟩:=q
    obtain⟨ay,s2,r2,a7⟩:=a6 j aL s ru
    refine⟨ay,s2,?_,a7⟩
    have:ft P fn none call p (j+1+1) st ay s2:=.step r r2
    exact ft.more (by omega) this
   |exit j=>exact out r (by simp) q
   |ret=>exact out r (by simp) q
   |b4 v=>exact out r (by simp) q
   |_=>exact out r (by simp) q
 intro k st aq af
 obtain⟨e,s,r,q⟩:=key k st af
 exact⟨e,s,ft.run hs r (by omega),q⟩
variable {intr:Nat->List I->J->Option (I×J)}
theorem Eh{f n:Nat}{args:List I}{h:J}{R:av->Prop}(hf:P.funcs[f]? =some fn)(ae:fn.body.isSome=true)(af:intr f args h=none)(hle:Nat.ble args.length fn.ntmps=true)
  {Q:bn->ah->Prop}(al:a4 P fn (e6 P intr n) [] ⟨nq 0 args,[],.none,h⟩ Q)
  (Ei:∀e s,Q e s->((e=.ret\/e=.nrm)/\s.d=[]/\∃w,rC P (dG fn) fn s.Γ s.h=some w/\R (.ret w s.h))\/∃v,e=.b4 v/\s.d=[]/\R (.b4 v s.h)):R (e6 P intr (n+1) (.fn f) args h):=by
 obtain⟨e,s,r,q⟩:=al
 obtain⟨Γ,d,acy,an⟩:=s
 rcases Ei e _ q with⟨he,ao,w,hw,ak⟩|⟨v,rfl,ao,ak⟩
 · simp only at ao hw ak
   subst ao
   rw[eK hf ae af hle r he hw];exact ak
 · simp only at ao ak
   subst ao
   rw[Sk hf ae af hle r];exact ak
end
end aM
namespace aM
set_option maxRecDepth 100000
open Go
def cN(B:Nat)(h:J)(v:I)(x:av):Prop:=∃an,x=.ret v an/\Ext B h an
theorem cN.mk{B:Nat}{h an:J}{v:I}(e:Ext B h an):cN B h v (.ret v an):=⟨an,rfl,e⟩
theorem cN.of{B:Nat}{h an:J}{v w:I}(aB:v=w)(e:Ext B h an):cN B h v (.ret w an):=⟨an,by rw[aB],e⟩
theorem h4{a b:Bool}(h:a=b):I.bool a=I.bool b:=by rw[h]
theorem iS{B b i:Nat}{h x:J}(e:Ext B h x)(ae:b<B){v:I}(aw:au h b i=some v):au x b i=some v:=by
 unfold au at aw⊢
 rw[e.get b ae];exact aw
theorem nu{h:J}{b i:Nat}{cs:List I}{e aN up:Nat}{k:gE}{v:I}(al:h.get b=some (.cells cs e k aN up))(aK:cs[i]? =some v):au h b i=some v:=by
 have key:∀(l:List I) (j:Nat),nth j l=l[j]? :=by
  intro l
  induction l with
  |nil=>intro j;cases j<;>rfl
  |cons a l a6=>intro j;cases j with
   |zero=>rfl
   |succ j=>exact a6 j
 exact aU al (by rw[key];exact aK)
theorem SB{h an:J}{b off:Nat}{xs:List I}(e:aM.storeCells h b off xs=some an){d:Nat}(ao:d≠b):an.get d=h.get d:=by
 unfold aM.storeCells at e
 repeat' split at e
 all_goals first
  |(cases e;done)
  |(cases e;rw[J.cR,if_neg ao])
  |(simp at e;done)
theorem SC{h an:J}{e bytes size need fz:Nat}{z v:I}{cs:List I}(al:kh h e bytes size need z cs fz=some (v,an)){d:Nat}(ao:d<h.n):an.get d=h.get d:=by
 unfold kh at al
 split at al
 · cases al;rw[J.gk,if_neg (by omega)]
 · cases al
theorem SD{P:Program}{h an:J}{sT:TypeId}{xT:Option TypeId}{s x v:I}(e:dy P h sT xT s x=some (v,an)){d:Nat}(ao:d<h.n)(hs:∀o l c,s≠ .slice d o l c):an.get d=h.get d:=by
 have iR:∀(h0:J) (e b s n:Nat) (z:I) (cs:List I) (fz:Nat) (v:I) (ab:J),kh h0 e b s n z cs fz=some (v,ab)->∀d,d<h0.n->ab.get d=h0.get d:=λh0 e b s n z cs fz v ab al d ao=>SC al ao
 unfold dy at e
 generalize kh=G at e iR
 repeat' split at e
 all_goals first
  |exact iR _ _ _ _ _ _ _ _ _ _ e d ao
  |(refine(iR _ _ _ _ _ _ _ _ _ _ e d (by simpa using ao)).trans ?_;rw[J.cR,if_neg (λae=>hs _ _ _ (by rw[ae]))])
  |(cases e;done)
  |(cases e;rfl)
  |(cases e;rename_i ch;exact SB ch (λae=>hs _ _ _ (by rw[ae])))
  |(simp at e;done)
def jj(e:Nat)(o:Option da):Prop:=∀cs aN up,o≠some (.cells cs e .a1 aN up)
structure mD(e b B:Nat)(h an:J):Prop where
 x:kT b B h an
 k:∀d,d<h.n->d≠b->jj e (h.get d)->an.get d=h.get d
theorem mD.refl(e b B:Nat)(h:J):mD e b B h h:=⟨kT.refl _ _ _,λ_ _ _ _=>rfl⟩
theorem mD.trans{e b B:Nat}{h ab ad:J}(w:mD e b B h ab)(w':mD e b B ab ad):mD e b B h ad:=
 ⟨w.x.trans (Nat.le_refl _) w'.x,λd ao ae aK=>(w'.k d (Nat.lt_of_lt_of_le ao w.x.n) ae (by rw[w.k d ao ae aK];exact aK)).trans (w.k d ao ae aK)⟩
theorem mD.ext{e b B:Nat}{h ab:J}(x:Ext h.n h ab)(cM:B<=h.n):mD e b B h ab:=⟨(x.le cM).Sv b,λd ao _ _=>x.get d ao⟩
end aM
