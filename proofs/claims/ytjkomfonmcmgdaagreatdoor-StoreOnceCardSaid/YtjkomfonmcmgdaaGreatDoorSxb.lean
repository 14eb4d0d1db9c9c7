/-
  PROVED HERE: contracts of functions (Sxb). No condition beside each statement's own.
-/
import Derived.Test.YtjkomfonmcmgdaaGreatDoorSxa
set_option linter.unusedVariables false
set_option linter.unusedSimpArgs false
set_option maxRecDepth 100000
namespace bt
open Go
section
variable {D:Type}
def cV(enc:D->List I)(ds:List D):List I:=ds.flatMap enc
theorem zk{enc:D->List I}{w:Nat}(hw:∀d,(enc d).length=w):∀ds:List D,(cV enc ds).length=ds.length*w
 |[]=>by simp[cV]
 |d::ds=>by
  have:=zk hw ds
  unfold cV at this⊢
  rw[List.flatMap_cons,List.length_append,hw,this,List.length_cons,Nat.add_mul];omega
theorem FW(enc:D->List I)(l m:List D):cV enc (l++m)=cV enc l++cV enc m:=by simp[cV]
theorem US(enc:D->List I)(d:D)(m:List D):cV enc (d::m)=enc d++cV enc m:=rfl
section
variable {enc:D->List I} {w:Nat}
theorem uB(ag:∀d,(enc d).all I.cO=true):∀ds:List D,(cV enc ds).all I.cO=true
 |[]=>rfl
 |d::ds=>by rw[US,List.all_append,ag,uB ag ds];rfl
end
end
structure jy{D:Type}(P:Program)(enc:D->List I)(w:Nat)(el sT:TypeId):Prop where
 hu:P.underlying sT=some (.slice el)
 fj:pH P (some sT)=true
 info:∃i,P.info? el=some i/\i.size=w/\i.bytes<=1000
 zero:∃z,ev P el=some z/\z.cells.length=w
 size:dx P el=some w
 len:∀d,(enc d).length=w
 cell:∀d,(enc d).all I.cO=true
 pos:0<w
section
variable {D:Type} {P:Program} {enc:D->List I} {w:Nat} {el sT:TypeId}
def cu(enc:D->List I)(w:Nat)(el:TypeId)(B:Nat)(h:J)(v:I)(ds:List D):Prop:=
 (v=.aS/\ds=[])\/∃p,v=.slice p 0 ds.length (.aR w)/\0<ds.length/\h.get p=some (.cells (cV enc ds) el .aR 0 0)/\B<=p/\p<h.n
theorem cu.le{B mN:Nat}{h:J}{v:I}{ds:List D}(cC:B<=mN):cu enc w el mN h v ds->cu enc w el B h v ds
 |.inl h=>.inl h
 |.inr ⟨p,aa,ad,av,aG,bI⟩=>.inr ⟨p,aa,ad,av,Nat.le_trans cC aG,bI⟩
theorem cu.mono{B mN:Nat}{h an:J}{v:I}{ds:List D}(aY:cu enc w el B h v ds)(e:Ext mN h an)(cC:h.n<=mN):cu enc w el B an v ds:=by
 rcases aY with aY|⟨p,aa,ad,av,aG,bI⟩
 · exact .inl aY
 · exact .inr ⟨p,aa,ad,(e.get p (by omega)).trans av,aG,Nat.lt_of_lt_of_le bI e.n⟩
theorem cu.bO{B:Nat}{h an:J}{v:I}{ds:List D}(aY:cu enc w el B h v ds)(aN:h.n<=an.n)(aq:∀p,v=.slice p 0 ds.length (.aR w)->p<h.n->an.get p=h.get p):cu enc w el B an v ds:=by
 rcases aY with aY|⟨q,rfl,ad,av,aG,bI⟩
 · exact .inl aY
 · exact .inr ⟨q,rfl,ad,(aq q rfl bI).trans av,aG,by omega⟩
theorem cu.sM{B:Nat}{h:J}{v:I}{ds:List D}(aY:cu enc w el B h v ds){c:Nat}{cs:List I}{p4:Nat}{o:Option dr}(ag:h.get c=some (.cells cs p4 .own 0 0)):cu enc w el B (h.set c o) v ds:=by
 rcases aY with aY|⟨p,aa,ad,av,aG,bI⟩
 · exact .inl aY
 · exact .inr ⟨p,aa,ad,dB (λe=>by subst e;rw[ag] at av;cases av) av,aG,by simpa using bI⟩
theorem cu.sound{B:Nat}{h:J}{v:I}{ds:List D}(aY:cu enc w el B h v ds):I.sound v=true:=by
 rcases aY with⟨rfl,_⟩|⟨p,rfl,_⟩<;>rfl
theorem cu.src(T:jy P enc w el sT){B:Nat}{h:J}{v:I}{ds:List D}(aY:cu enc w el B h v ds):fg h w v=some (ds.length,cV enc ds):=by
 rcases aY with⟨rfl,rfl⟩|⟨p,rfl,ad,av,aG,bI⟩
 · rfl
 · have:=Ch (h:=h) (xs:=cV enc ds) (rest:=[]) (by rw[List.append_nil];exact av)
   rw[zk T.len] at this
   simp only[fg,this]
theorem UT(T:jy P enc w el sT){h:J}{src:I}(hs:fg h w src=some (0,[])):db P h sT (some sT) .aS src=some (.aS,h):=by
 obtain⟨i,af,bA,_⟩:=T.info
 obtain⟨z,aW,_⟩:=T.zero
 simp only[db,T.hu,T.fj,af,aW,bA,hs]
theorem Ly(T:jy P enc w el sT){h:J}{src:I}{es:List D}(hs:fg h w src=some (es.length,cV enc es))(h0:0<es.length)(aw:es.length<=1000000):db P h sT (some sT) .aS src=some (.slice h.n 0 es.length (.aR w),h.push (.cells (cV enc es) el .aR 0 0)):=by
 obtain⟨i,af,bA,mI⟩:=T.info
 obtain⟨z,aW,hS⟩:=T.zero
 obtain⟨k,aq⟩:∃k,es.length=k+1:=⟨es.length-1,by omega⟩
 have gi:kA (k+1) i.bytes=true:=by
  unfold kA
  have aa:(4*(k+1)+2048)*(i.bytes+1)<=5000000*1001:=Nat.mul_le_mul (by omega) (by omega)
  simp;omega
 have iL:kB h el i.bytes w (k+1) z (cV enc es) 0=some (.slice h.n 0 (k+1) (.aR w),h.push (.cells (cV enc es) el .aR 0 0)):=
  uz gi (by rw[hS];simp) (uB T.cell es)
 rw[aq] at hs⊢
 simp only[db,T.hu,T.fj,af,aW,bA,hs,iL]
theorem Lz(T:jy P enc w el sT){h:J}{src:I}{p:Nat}{ds es:List D}(al:h.get p=some (.cells (cV enc ds) el .aR 0 0))(hs:fg h w src=some (es.length,cV enc es))(h0:0<es.length)(aw:ds.length+es.length<=1000000):
  db P h sT (some sT) (.slice p 0 ds.length (.aR w)) src=some (.slice h.n 0 (ds.length+es.length) (.aR w),(h.set p none).push (.cells (cV enc (ds++es)) el .aR 0 0)):=by
 obtain⟨i,af,bA,mI⟩:=T.info
 obtain⟨z,aW,hS⟩:=T.zero
 obtain⟨k,aq⟩:∃k,es.length=k+1:=⟨es.length-1,by omega⟩
 have gi:kA (ds.length+(k+1)) i.bytes=true:=by
  unfold kA
  have aa:(4*(ds.length+(k+1))+2048)*(i.bytes+1)<=5000000*1001:=Nat.mul_le_mul (by omega) (by omega)
  simp;omega
 have iL:kB (h.set p none) el i.bytes w (ds.length+(k+1)) z (cV enc ds++cV enc es) (0-0)=some (.slice (h.set p none).n 0 (ds.length+(k+1)) (.aR w),(h.set p none).push (.cells (cV enc ds++cV enc es) el .aR 0 0)):=
  uz gi (by rw[hS];simp) (by rw[List.all_append,uB T.cell,uB T.cell];rfl)
 have hb:(Nat.beq w w&&Nat.blt 0 w)=true:=by
  have:=T.pos
  simp[Nat.blt_eq];omega
 have hlen:=zk T.len ds
 have l6:Nat.ble (0+(ds.length+(k+1))*w) (cV enc ds).length=false:=by
  cases ab:Nat.ble (0+(ds.length+(k+1))*w) (cV enc ds).length with
  |false=>rfl
  |true=>
   have:=Nat.le_of_ble_eq_true ab
   rw[hlen,Nat.add_mul,Nat.add_mul] at this
   have:=T.pos
   omega
 have kT:(Nat.ble 0 (0+ds.length*w)&&Nat.beq el el)=true:=by simp
 have fB:bt.loadCells h p 0 (ds.length*w)=some (cV enc ds):=by
  have:=Ch (h:=h) (xs:=cV enc ds) (rest:=[]) (by rw[List.append_nil];exact al)
  rwa [hlen] at this
 rw[aq] at hs⊢
 rw[FW]
 simp only[db,T.hu,T.fj,af,aW,bA,hs,hb,al,l6,kT,fB,iL]
 rfl
theorem wz(T:jy P enc w el sT){B:Nat}{h:J}{v src:I}{ds es:List D}(aY:cu enc w el B h v ds)(cC:B<=h.n)(hs:fg h w src=some (es.length,cV enc es))(aw:ds.length+es.length<=1000000):
  ∃v' an,db P h sT (some sT) v src=some (v',an)/\cu enc w el B an v' (ds++es)/\Ext B h an/\h.n<=an.n/\∀c,c<h.n->(∀n cp,v≠ .slice c 0 n cp)->an.get c=h.get c:=by
 by_cases h0:es.length=0
 · have he:es=[]:=List.eq_nil_of_length_eq_zero h0
   subst he
   refine⟨v,h,?_,by rw[List.append_nil];exact aY,Ext.refl _ _,Nat.le_refl _,λ_ _ _=>rfl⟩
   rcases aY with⟨rfl,_⟩|⟨p,rfl,ad,av,aG,bI⟩
   · exact UT T hs
   · obtain⟨i,af,bA,mI⟩:=T.info
     obtain⟨z,aW,hS⟩:=T.zero
     have hb:(Nat.beq w w&&Nat.blt 0 w)=true:=by
      have:=T.pos
      simp[Nat.blt_eq];omega
     have dw:fg h w src=some (0,cV enc []):=hs
     simp only[db,T.hu,T.fj,af,aW,bA,dw,hb]
 · rcases aY with⟨rfl,rfl⟩|⟨p,rfl,ad,av,aG,bI⟩
   · rw[List.nil_append]
     exact⟨_,_,Ly T hs (by omega) (by simp at aw;omega),.inr ⟨h.n,rfl,by omega,fl rfl,cC,by simp⟩,Ext.k2 cC (Ext.refl _ _),by simp,λc ag _=>lA ag rfl⟩
   · refine⟨_,_,Lz T av hs (by omega) aw,.inr ⟨h.n,by rw[List.length_append],by rw[List.length_append];omega,by exact fl (by simp),cC,by simp⟩,?_,by simp,λc ag hw=>?_⟩
     · exact Ext.k2 (by simp;omega) (Ext.iB aG (Ext.refl _ _))
     · exact lA (by simpa using ag) (dB (λe=>hw _ _ (by rw[e])) rfl)
theorem uC(T:jy P enc w el sT)(g:J)(t:TypeId)(d:D):fg (g.push (.cells (enc d) t .own 0 0)) w (.slice g.n 0 1 (.exact 1))=some ([d].length,cV enc [d]):=by
 have e:takeN (1*w) (jH 0 (enc d))=some (enc d):=by
  rw[Nat.one_mul]
  have:=Lu (enc d) [] w (T.len d)
  rw[List.append_nil] at this
  exact this
 have:bt.loadCells (g.push (.cells (enc d) t .own 0 0)) g.n 0 (1*w)=some (enc d):=pa (fl rfl) e
 simp only[fg,this]
 simp[cV]
end
section
variable {P:Program}
end
section
variable {P:Program} {rd:Option Nat} {call:aP} {fn:Func}
end
section
variable {P:Program} {intr:Nat->List I->J->Option (I×J)}
end
section
variable {P:Program} {fn:Func} {call:aP}
def a4(P:Program)(fn:Func)(call:aP)(p:List Nat)(st:ah)(Q:bu->ah->Prop):Prop:=∃e b5,aB P fn none call p st e b5/\Q e b5
def d_(A:ah->Prop)(Q:bu->ah->Prop):bu->ah->Prop
 |.nrm,s=>A s
 |e,s=>Q e s
theorem a4.of{p:List Nat}{st b5:ah}{e:bu}{Q:bu->ah->Prop}(h:aB P fn none call p st e b5)(q:Q e b5):a4 P fn call p st Q:=⟨e,b5,h,q⟩
theorem a4.mono{p:List Nat}{st:ah}{Q LA:bu->ah->Prop}(h:a4 P fn call p st Q)(aJ:∀e s,Q e s->LA e s):a4 P fn call p st LA:=by
 obtain⟨e,s,r,q⟩:=h;exact⟨e,s,r,aJ e s q⟩
theorem a4.seq{p:List Nat}{st:ah}{Q:bu->ah->Prop}(hs:uy (sub (fk fn) p)=true)(h:a4 P fn call (p++[0]) st (d_ (λs=>a4 P fn call (p++[1]) s Q) Q)):a4 P fn call p st Q:=by
 obtain⟨e,s,r,q⟩:=h
 cases e with
 |nrm=>obtain⟨ax,s2,r2,a1⟩:=q;exact⟨ax,s2,aB.seq hs r r2,a1⟩
 |exit j=>exact⟨_,s,aB.gy hs r (by simp),q⟩
 |ret=>exact⟨_,s,aB.gy hs r (by simp),q⟩
 |ca v=>exact⟨_,s,aB.gy hs r (by simp),q⟩
 |_=>exact⟨_,s,aB.gy hs r (by simp),q⟩
theorem a4.pre{p:List Nat}{st st1:ah}{Q:bu->ah->Prop}(h:a4 P fn call p st Q)(hs:cd st.Γ st1.Γ)(ao:st1.d=st.d)(aJ:st1.q=st.q)(ak:st1.h=st.h):a4 P fn call p st1 Q:=by
 obtain⟨e,s,r,q⟩:=h;exact⟨e,s,cQ.pre r hs ao aJ ak,q⟩
theorem eL.more{p:List Nat}{n m:Nat}{st b5:ah}{e:bu}(jc:n<=m)(h:eL P fn none call p n st e b5):eL P fn none call p m st e b5:=by
 intro r aj
 obtain⟨r1,aA,a5⟩:=h r aj
 exact⟨r1,FP jc aA,a5⟩
theorem a4.loop{p:List Nat}{Q:bu->ah->Prop}(hs:zg (sub (fk fn) p)=true)(bM:Nat->ah->Prop)(step:∀k st,bM k st->a4 P fn call (p++[0]) st (d_ (λs=>∃j,j<k/\bM j s) Q)):∀(k:Nat) (st:ah),k<99999->bM k st->a4 P fn call p st Q:=by
 have key:∀(k:Nat) (st:ah),bM k st->∃e b5,eL P fn none call p (k+1) st e b5/\Q e b5:=by
  intro k
  induction k using Nat.strongRecOn with
  |_ k bb=>
   intro st af
   obtain⟨e,s,r,q⟩:=step k st af
   have out:∀{e:bu},aB P fn none call (p++[0]) st e s->e≠ .nrm->Q e s->∃e b5,eL P fn none call p (k+1) st e b5/\Q e b5:=λr he q=>⟨_,s,.exit r he,q⟩
   cases e with
   |nrm=>
    obtain⟨j,aK,sF⟩:=q
    obtain⟨ax,s2,r2,a1⟩:=bb j aK s sF
    refine⟨ax,s2,?_,a1⟩
    have:eL P fn none call p (j+1+1) st ax s2:=.step r r2
    exact eL.more (by omega) this
   |exit j=>exact out r (by simp) q
   |ret=>exact out r (by simp) q
   |ca v=>exact out r (by simp) q
   |_=>exact out r (by simp) q
 intro k st aq af
 obtain⟨e,s,r,q⟩:=key k st af
 exact⟨e,s,eL.run hs r (by omega),q⟩
variable {intr:Nat->List I->J->Option (I×J)}
theorem FX{f n:Nat}{args:List I}{h:J}{R:a9->Prop}(hf:P.funcs[f]? =some fn)(ae:fn.body.isSome=true)(af:intr f args h=none)(hle:Nat.ble args.length fn.ntmps=true)
  {Q:bu->ah->Prop}(al:a4 P fn (fp P intr n) [] ⟨ou 0 args,[],.none,h⟩ Q)
  (zl:∀e s,Q e s->((e=.ret\/e=.nrm)/\s.d=[]/\∃w,sL P (dR fn) fn s.Γ s.h=some w/\R (.ret w s.h))\/∃v,e=.ca v/\s.d=[]/\R (.ca v s.h)):R (fp P intr (n+1) (.fn f) args h):=by
 obtain⟨e,s,r,q⟩:=al
 obtain⟨Γ,d,afP,an⟩:=s
 rcases zl e _ q with⟨he,ao,w,hw,aj⟩|⟨v,rfl,ao,aj⟩
 · simp only at ao hw aj
   subst ao
   rw[eA hf ae af hle r he hw];exact aj
 · simp only at ao aj
   subst ao
   rw[UF hf ae af hle r];exact aj
end
def cZ(B:Nat)(h:J)(v:I)(x:a9):Prop:=∃an,x=.ret v an/\Ext B h an
theorem cZ.mk{B:Nat}{h an:J}{v:I}(e:Ext B h an):cZ B h v (.ret v an):=⟨an,rfl,e⟩
theorem cZ.of{B:Nat}{h an:J}{v w:I}(aD:v=w)(e:Ext B h an):cZ B h v (.ret w an):=⟨an,by rw[aD],e⟩
theorem iC{a b:Bool}(h:a=b):I.bool a=I.bool b:=by rw[h]
theorem jh{B b i:Nat}{h x:J}(e:Ext B h x)(ae:b<B){v:I}(aw:ar h b i=some v):ar x b i=some v:=by
 unfold ar at aw⊢
 rw[e.get b ae];exact aw
theorem lB{h:J}{b i:Nat}{cs:List I}{e aI up:Nat}{k:gS}{v:I}(al:h.get b=some (.cells cs e k aI up))(aN:cs[i]? =some v):ar h b i=some v:=by
 have key:∀(l:List I) (j:Nat),nth j l=l[j]? :=by
  intro l
  induction l with
  |nil=>intro j;cases j<;>rfl
  |cons a l bb=>intro j;cases j with
   |zero=>rfl
   |succ j=>exact bb j
 exact aT al (by rw[key];exact aN)
theorem UU{h an:J}{b off:Nat}{xs:List I}(e:bt.storeCells h b off xs=some an){d:Nat}(ao:d≠b):an.get d=h.get d:=by
 unfold bt.storeCells at e
 repeat' split at e
 all_goals first
  |(cases e;done)
  |(cases e;rw[J.c7,if_neg ao])
  |(simp at e;done)
theorem UW{h an:J}{e bytes size need fz:Nat}{z v:I}{cs:List I}(al:kB h e bytes size need z cs fz=some (v,an)){d:Nat}(ao:d<h.n):an.get d=h.get d:=by
 unfold kB at al
 split at al
 · cases al;rw[J.gD,if_neg (by omega)]
 · cases al
theorem UX{P:Program}{h an:J}{sT:TypeId}{xT:Option TypeId}{s x v:I}(e:db P h sT xT s x=some (v,an)){d:Nat}(ao:d<h.n)(hs:∀o l c,s≠ .slice d o l c):an.get d=h.get d:=by
 have iL:∀(h0:J) (e b s n:Nat) (z:I) (cs:List I) (fz:Nat) (v:I) (aa:J),kB h0 e b s n z cs fz=some (v,aa)->∀d,d<h0.n->aa.get d=h0.get d:=λh0 e b s n z cs fz v aa al d ao=>UW al ao
 unfold db at e
 generalize kB=G at e iL
 repeat' split at e
 all_goals first
  |exact iL _ _ _ _ _ _ _ _ _ _ e d ao
  |(refine(iL _ _ _ _ _ _ _ _ _ _ e d (by simpa using ao)).trans ?_;rw[J.c7,if_neg (λae=>hs _ _ _ (by rw[ae]))])
  |(cases e;done)
  |(cases e;rfl)
  |(cases e;rename_i cA;exact UU cA (λae=>hs _ _ _ (by rw[ae])))
  |(simp at e;done)
def jT(e:Nat)(o:Option dr):Prop:=∀cs aI up,o≠some (.cells cs e .aR aI up)
structure nB(e b B:Nat)(h an:J):Prop where
 x:lz b B h an
 k:∀d,d<h.n->d≠b->jT e (h.get d)->an.get d=h.get d
theorem nB.refl(e b B:Nat)(h:J):nB e b B h h:=⟨lz.refl _ _ _,λ_ _ _ _=>rfl⟩
theorem nB.trans{e b B:Nat}{h aa ad:J}(w:nB e b B h aa)(w':nB e b B aa ad):nB e b B h ad:=
 ⟨w.x.trans (Nat.le_refl _) w'.x,λd ao ae aN=>(w'.k d (Nat.lt_of_lt_of_le ao w.x.n) ae (by rw[w.k d ao ae aN];exact aN)).trans (w.k d ao ae aN)⟩
theorem nB.ext{e b B:Nat}{h aa:J}(x:Ext h.n h aa)(cC:B<=h.n):nB e b B h aa:=⟨(x.le cC).UP b,λd ao _ _=>x.get d ao⟩
end bt
