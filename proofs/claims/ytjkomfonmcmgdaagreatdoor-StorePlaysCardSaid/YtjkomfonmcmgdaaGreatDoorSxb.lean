/-
  PROVED HERE: contracts of functions (Sxb). No condition beside each statement's own.
-/
import Derived.Test.YtjkomfonmcmgdaaGreatDoorSxa
set_option linter.unusedVariables false
set_option linter.unusedSimpArgs false
set_option maxRecDepth 100000
namespace bg
open Go
section
variable {D:Type}
def dp(enc:D->List ad)(ds:List D):List ad:=ds.flatMap enc
theorem Ex{A:Type}{enc:D->List A}{w:Nat}(hw:∀d,(enc d).length=w):∀(ds:List D) (j:Nat),(ds.flatMap enc)[j]? =if j<ds.length*w then(ds[j/w]?).bind (λd=>(enc d)[j %w]?) else none
 |[],j=>by simp
 |d::ds,j=>by
  rw[List.flatMap_cons,List.getElem?_append,hw]
  by_cases h:j<w
  · have I:j/w=0:=Nat.div_eq_of_lt h
    have ae:j %w=j:=Nat.mod_eq_of_lt h
    rw[if_pos h,if_pos (by rw[List.length_cons,Nat.add_mul];omega),I,ae];rfl
  · have XG:0<w\/w=0:=by omega
    rcases XG with h0|h0
    · obtain⟨k,rfl⟩:∃k,j=k+w:=⟨j-w,by omega⟩
      rw[if_neg h,Nat.add_sub_cancel,Ex hw ds k,Nat.add_div_right k h0,Nat.add_mod_right]
      have:(k<ds.length*w)=(k+w<(d::ds).length*w):=by rw[List.length_cons,Nat.add_mul];apply propext;omega
      simp only[this];rfl
    · subst h0
      rw[if_neg h,Ex hw ds (j-0)]
      simp
theorem s4{enc:D->List ad}{w:Nat}(hw:∀d,(enc d).length=w):∀ds:List D,(dp enc ds).length=ds.length*w
 |[]=>by simp[dp]
 |d::ds=>by
  have:=s4 hw ds
  unfold dp at this⊢
  rw[List.flatMap_cons,List.length_append,hw,this,List.length_cons,Nat.add_mul];omega
theorem Ey(enc:D->List ad)(l m:List D):dp enc (l++m)=dp enc l++dp enc m:=by simp[dp]
theorem yy(enc:D->List ad)(d:D)(m:List D):dp enc (d::m)=enc d++dp enc m:=rfl
theorem XH{ds:List D}{i:Nat}(hi:i<ds.length):ds=ds.take i++ds[i]::ds.drop (i+1):=by
 rw[<-List.drop_eq_getElem_cons hi,List.take_append_drop]
section
variable {enc:D->List ad} {w:Nat}
theorem XI(hw:∀d,(enc d).length=w){h:ab}{b el lo up off:Nat}{k:hb}{ds:List D}{rest:List ad}(ar:h.get b=some (.cells (dp enc ds++rest) el k lo up)){i:Nat}(hi:i<ds.length)(bc:off=i*w):
  bg.loadCells h b off w=some (enc ds[i]):=by
 have e:dp enc ds++rest=dp enc (ds.take i)++(enc ds[i]++(dp enc (ds.drop (i+1))++rest)):=by
  conv=>lhs;rw[XH hi]
  simp only[Ey,yy,List.append_assoc,List.cons_append]
 have aA:(dp enc (ds.take i)).length=off:=by rw[s4 hw,List.length_take,bc,Nat.min_eq_left (by omega)]
 simp only[bg.loadCells,ar,e]
 rw[<-aA,H6]
 exact H5 _ _ _ (hw _)
theorem Bd(ah:∀d,(enc d).all ad.de=true):∀ds:List D,(dp enc ds).all ad.de=true
 |[]=>rfl
 |d::ds=>by rw[yy,List.all_append,ah,Bd ah ds];rfl
end
end
structure lW{D:Type}(P:Program)(enc:D->List ad)(w:Nat)(el sT:TypeId):Prop where
 hu:P.underlying sT=some (.slice el)
 fG:rf P (some sT)=true
 info:∃i,P.info? el=some i/\i.size=w/\i.bytes<=1000
 zero:∃z,eT P el=some z/\z.cells.length=w
 size:ef P el=some w
 len:∀d,(enc d).length=w
 cell:∀d,(enc d).all ad.de=true
 pos:0<w
section
variable {D:Type} {P:Program} {enc:D->List ad} {w:Nat} {el sT:TypeId}
def bT(enc:D->List ad)(w:Nat)(el:TypeId)(B:Nat)(h:ab)(v:ad)(ds:List D):Prop:=
 (v=.aP/\ds=[])\/∃p,v=.slice p 0 ds.length (.aL w)/\0<ds.length/\h.get p=some (.cells (dp enc ds) el .aL 0 0)/\B<=p/\p<h.n
theorem bT.le{B n7:Nat}{h:ab}{v:ad}{ds:List D}(dd:B<=n7):bT enc w el n7 h v ds->bT enc w el B h v ds
 |.inl h=>.inl h
 |.inr ⟨p,I,ae,ax,aN,bS⟩=>.inr ⟨p,I,ae,ax,Nat.le_trans dd aN,bS⟩
theorem bT.mono{B n7:Nat}{h aw:ab}{v:ad}{ds:List D}(bc:bT enc w el B h v ds)(e:Ext n7 h aw)(dd:h.n<=n7):bT enc w el B aw v ds:=by
 rcases bc with bc|⟨p,I,ae,ax,aN,bS⟩
 · exact .inl bc
 · exact .inr ⟨p,I,ae,(e.get p (by omega)).trans ax,aN,Nat.lt_of_lt_of_le bS e.n⟩
theorem bT.bB{B:Nat}{h aw:ab}{v:ad}{ds:List D}(bc:bT enc w el B h v ds)(aH:h.n<=aw.n)(ay:∀p,v=.slice p 0 ds.length (.aL w)->p<h.n->aw.get p=h.get p):bT enc w el B aw v ds:=by
 rcases bc with bc|⟨q,rfl,ae,ax,aN,bS⟩
 · exact .inl bc
 · exact .inr ⟨q,rfl,ae,(ay q rfl bS).trans ax,aN,by omega⟩
theorem bT.uH{B:Nat}{h:ab}{v:ad}{ds:List D}(bc:bT enc w el B h v ds){c:Nat}{cs:List ad}{qv:Nat}{o:Option dQ}(ah:h.get c=some (.cells cs qv .own 0 0)):bT enc w el B (h.set c o) v ds:=by
 rcases bc with bc|⟨p,I,ae,ax,aN,bS⟩
 · exact .inl bc
 · exact .inr ⟨p,I,ae,cX (λe=>by subst e;rw[ah] at ax;cases ax) ax,aN,by simpa using bS⟩
theorem bT.sound{B:Nat}{h:ab}{v:ad}{ds:List D}(bc:bT enc w el B h v ds):ad.sound v=true:=by
 rcases bc with⟨rfl,_⟩|⟨p,rfl,_⟩<;>rfl
theorem bT.src(T:lW P enc w el sT){B:Nat}{h:ab}{v:ad}{ds:List D}(bc:bT enc w el B h v ds):fu h w v=some (ds.length,dp enc ds):=by
 rcases bc with⟨rfl,rfl⟩|⟨p,rfl,ae,ax,aN,bS⟩
 · rfl
 · have:=Ep (h:=h) (xs:=dp enc ds) (rest:=[]) (by rw[List.append_nil];exact ax)
   rw[s4 T.len] at this
   simp only[fu,this]
theorem XJ(T:lW P enc w el sT){h:ab}{src:ad}(al:fu h w src=some (0,[])):dJ P h sT (some sT) .aP src=some (.aP,h):=by
 obtain⟨i,hi,bJ,_⟩:=T.info
 obtain⟨z,a7,_⟩:=T.zero
 simp only[dJ,T.hu,T.fG,hi,a7,bJ,al]
theorem OB(T:lW P enc w el sT){h:ab}{src:ad}{es:List D}(al:fu h w src=some (es.length,dp enc es))(h0:0<es.length)(aA:es.length<=1000000):dJ P h sT (some sT) .aP src=some (.slice h.n 0 es.length (.aL w),h.push (.cells (dp enc es) el .aL 0 0)):=by
 obtain⟨i,hi,bJ,n0⟩:=T.info
 obtain⟨z,a7,jc⟩:=T.zero
 obtain⟨k,ay⟩:∃k,es.length=k+1:=⟨es.length-1,by omega⟩
 have gn:mG (k+1) i.bytes=true:=by
  unfold mG
  have I:(4*(k+1)+2048)*(i.bytes+1)<=5000000*1001:=Nat.mul_le_mul (by omega) (by omega)
  simp;omega
 have ky:l_ h el i.bytes w (k+1) z (dp enc es) 0=some (.slice h.n 0 (k+1) (.aL w),h.push (.cells (dp enc es) el .aL 0 0)):=
  yu gn (by rw[jc];simp) (Bd T.cell es)
 rw[ay] at al⊢
 simp only[dJ,T.hu,T.fG,hi,a7,bJ,al,ky]
theorem OC(T:lW P enc w el sT){h:ab}{src:ad}{p:Nat}{ds es:List D}(ar:h.get p=some (.cells (dp enc ds) el .aL 0 0))(al:fu h w src=some (es.length,dp enc es))(h0:0<es.length)(aA:ds.length+es.length<=1000000):
  dJ P h sT (some sT) (.slice p 0 ds.length (.aL w)) src=some (.slice h.n 0 (ds.length+es.length) (.aL w),(h.set p none).push (.cells (dp enc (ds++es)) el .aL 0 0)):=by
 obtain⟨i,hi,bJ,n0⟩:=T.info
 obtain⟨z,a7,jc⟩:=T.zero
 obtain⟨k,ay⟩:∃k,es.length=k+1:=⟨es.length-1,by omega⟩
 have gn:mG (ds.length+(k+1)) i.bytes=true:=by
  unfold mG
  have I:(4*(ds.length+(k+1))+2048)*(i.bytes+1)<=5000000*1001:=Nat.mul_le_mul (by omega) (by omega)
  simp;omega
 have ky:l_ (h.set p none) el i.bytes w (ds.length+(k+1)) z (dp enc ds++dp enc es) (0-0)=some (.slice (h.set p none).n 0 (ds.length+(k+1)) (.aL w),(h.set p none).push (.cells (dp enc ds++dp enc es) el .aL 0 0)):=
  yu gn (by rw[jc];simp) (by rw[List.all_append,Bd T.cell,Bd T.cell];rfl)
 have g2:(Nat.beq w w&&Nat.blt 0 w)=true:=by
  have:=T.pos
  simp[Nat.blt_eq];omega
 have hlen:=s4 T.len ds
 have qJ:Nat.ble (0+(ds.length+(k+1))*w) (dp enc ds).length=false:=by
  cases aa:Nat.ble (0+(ds.length+(k+1))*w) (dp enc ds).length with
  |false=>rfl
  |true=>
   have:=Nat.le_of_ble_eq_true aa
   rw[hlen,Nat.add_mul,Nat.add_mul] at this
   have:=T.pos
   omega
 have ma:(Nat.ble 0 (0+ds.length*w)&&Nat.beq el el)=true:=by simp
 have gf:bg.loadCells h p 0 (ds.length*w)=some (dp enc ds):=by
  have:=Ep (h:=h) (xs:=dp enc ds) (rest:=[]) (by rw[List.append_nil];exact ar)
  rwa [hlen] at this
 rw[ay] at al⊢
 rw[Ey]
 simp only[dJ,T.hu,T.fG,hi,a7,bJ,al,g2,ar,qJ,ma,gf,ky]
 rfl
theorem qK(T:lW P enc w el sT){B:Nat}{h:ab}{v src:ad}{ds es:List D}(bc:bT enc w el B h v ds)(dd:B<=h.n)(al:fu h w src=some (es.length,dp enc es))(aA:ds.length+es.length<=1000000):
  ∃v' aw,dJ P h sT (some sT) v src=some (v',aw)/\bT enc w el B aw v' (ds++es)/\Ext B h aw/\h.n<=aw.n/\∀c,c<h.n->(∀n cp,v≠ .slice c 0 n cp)->aw.get c=h.get c:=by
 by_cases h0:es.length=0
 · have he:es=[]:=List.eq_nil_of_length_eq_zero h0
   subst he
   refine⟨v,h,?_,by rw[List.append_nil];exact bc,Ext.refl _ _,Nat.le_refl _,λ_ _ _=>rfl⟩
   rcases bc with⟨rfl,_⟩|⟨p,rfl,ae,ax,aN,bS⟩
   · exact XJ T al
   · obtain⟨i,hi,bJ,n0⟩:=T.info
     obtain⟨z,a7,jc⟩:=T.zero
     have g2:(Nat.beq w w&&Nat.blt 0 w)=true:=by
      have:=T.pos
      simp[Nat.blt_eq];omega
     have en:fu h w src=some (0,dp enc []):=al
     simp only[dJ,T.hu,T.fG,hi,a7,bJ,en,g2]
 · rcases bc with⟨rfl,rfl⟩|⟨p,rfl,ae,ax,aN,bS⟩
   · rw[List.nil_append]
     exact⟨_,_,OB T al (by omega) (by simp at aA;omega),.inr ⟨h.n,rfl,by omega,e7 rfl,dd,by simp⟩,Ext.lV dd (Ext.refl _ _),by simp,λc ah _=>nn ah rfl⟩
   · refine⟨_,_,OC T ax al (by omega) aA,.inr ⟨h.n,by rw[List.length_append],by rw[List.length_append];omega,by exact e7 (by simp),dd,by simp⟩,?_,by simp,λc ah hw=>?_⟩
     · exact Ext.lV (by simp;omega) (Ext.hQ aN (Ext.refl _ _))
     · exact nn (by simpa using ah) (cX (λe=>hw _ _ (by rw[e])) rfl)
theorem yz(T:lW P enc w el sT)(g:ab)(t:TypeId)(d:D):fu (g.push (.cells (enc d) t .own 0 0)) w (.slice g.n 0 1 (.exact 1))=some ([d].length,dp enc [d]):=by
 have e:takeN (1*w) (j4 0 (enc d))=some (enc d):=by
  rw[Nat.one_mul]
  have:=H5 (enc d) [] w (T.len d)
  rw[List.append_nil] at this
  exact this
 have:bg.loadCells (g.push (.cells (enc d) t .own 0 0)) g.n 0 (1*w)=some (enc d):=lU (e7 rfl) e
 simp only[fu,this]
 simp[dp]
end
section
variable {P:Program}
end
section
variable {P:Program} {rd:Option Nat} {call:aW} {fn:Func}
end
section
variable {P:Program} {intr:Nat->List ad->ab->Option (ad×ab)}
end
section
variable {P:Program} {fn:Func} {call:aW}
def bp(P:Program)(fn:Func)(call:aW)(p:List Nat)(st:bL)(Q:bW->bL->Prop):Prop:=∃e cg,a5 P fn none call p st e cg/\Q e cg
def er(A:bL->Prop)(Q:bW->bL->Prop):bW->bL->Prop
 |.nrm,s=>A s
 |e,s=>Q e s
theorem bp.of{p:List Nat}{st cg:bL}{e:bW}{Q:bW->bL->Prop}(h:a5 P fn none call p st e cg)(q:Q e cg):bp P fn call p st Q:=⟨e,cg,h,q⟩
theorem bp.mono{p:List Nat}{st:bL}{Q OD:bW->bL->Prop}(h:bp P fn call p st Q)(aK:∀e s,Q e s->OD e s):bp P fn call p st OD:=by
 obtain⟨e,s,r,q⟩:=h;exact⟨e,s,r,aK e s q⟩
theorem bp.seq{p:List Nat}{st:bL}{Q:bW->bL->Prop}(al:rO (sub (fD fn) p)=true)(h:bp P fn call (p++[0]) st (er (λs=>bp P fn call (p++[1]) s Q) Q)):bp P fn call p st Q:=by
 obtain⟨e,s,r,q⟩:=h
 cases e with
 |nrm=>obtain⟨aE,s2,r2,a2⟩:=q;exact⟨aE,s2,a5.seq al r r2,a2⟩
 |exit j=>exact⟨_,s,a5.wx al r (by simp),q⟩
 |ret=>exact⟨_,s,a5.wx al r (by simp),q⟩
 |cw v=>exact⟨_,s,a5.wx al r (by simp),q⟩
 |_=>exact⟨_,s,a5.wx al r (by simp),q⟩
theorem bp.pre{p:List Nat}{st st1:bL}{Q:bW->bL->Prop}(h:bp P fn call p st Q)(al:bY st.Γ st1.Γ)(ai:st1.d=st.d)(aK:st1.q=st.q)(au:st1.h=st.h):bp P fn call p st1 Q:=by
 obtain⟨e,s,r,q⟩:=h;exact⟨e,s,dA.pre r al ai aK au,q⟩
theorem fX.more{p:List Nat}{n m:Nat}{st cg:bL}{e:bW}(iN:n<=m)(h:fX P fn none call p n st e cg):fX P fn none call p m st e cg:=by
 intro r ao
 obtain⟨r1,aG,a3⟩:=h r ao
 exact⟨r1,HZ iN aG,a3⟩
theorem bp.loop{p:List Nat}{Q:bW->bL->Prop}(al:yr (sub (fD fn) p)=true)(aT:Nat->bL->Prop)(step:∀k st,aT k st->bp P fn call (p++[0]) st (er (λs=>∃j,j<k/\aT j s) Q)):∀(k:Nat) (st:bL),k<99999->aT k st->bp P fn call p st Q:=by
 have key:∀(k:Nat) (st:bL),aT k st->∃e cg,fX P fn none call p (k+1) st e cg/\Q e cg:=by
  intro k
  induction k using Nat.strongRecOn with
  |_ k bl=>
   intro st hi
   obtain⟨e,s,r,q⟩:=step k st hi
   have out:∀{e:bW},a5 P fn none call (p++[0]) st e s->e≠ .nrm->Q e s->∃e cg,fX P fn none call p (k+1) st e cg/\Q e cg:=λr he q=>⟨_,s,.exit r he,q⟩
   cases e with
   |nrm=>
    obtain⟨j,aO,uy⟩:=q
    obtain⟨aE,s2,r2,a2⟩:=bl j aO s uy
    refine⟨aE,s2,?_,a2⟩
    have:fX P fn none call p (j+1+1) st aE s2:=.step r r2
    exact fX.more (by omega) this
   |exit j=>exact out r (by simp) q
   |ret=>exact out r (by simp) q
   |cw v=>exact out r (by simp) q
   |_=>exact out r (by simp) q
 intro k st ay hi
 obtain⟨e,s,r,q⟩:=key k st hi
 exact⟨e,s,fX.run al r (by omega),q⟩
variable {intr:Nat->List ad->ab->Option (ad×ab)}
theorem wz{f n:Nat}{args:List ad}{h:ab}{R:bE->Prop}(hf:P.funcs[f]? =some fn)(ag:fn.body.isSome=true)(hi:intr f args h=none)(hle:Nat.ble args.length fn.ntmps=true)
  {Q:bW->bL->Prop}(ar:bp P fn (fF P intr n) [] ⟨n6 0 args,[],.none,h⟩ Q)
  (uI:∀e s,Q e s->((e=.ret\/e=.nrm)/\s.d=[]/\∃w,qI P (ej fn) fn s.Γ s.h=some w/\R (.ret w s.h))\/∃v,e=.cw v/\s.d=[]/\R (.cw v s.h)):R (fF P intr (n+1) (.fn f) args h):=by
 obtain⟨e,s,r,q⟩:=ar
 obtain⟨Γ,d,ajF,aw⟩:=s
 rcases uI e _ q with⟨he,ai,w,hw,ao⟩|⟨v,rfl,ai,ao⟩
 · simp only at ai hw ao
   subst ai
   rw[nk hf ag hi hle r he hw];exact ao
 · simp only at ai ao
   subst ai
   rw[Xs hf ag hi hle r];exact ao
end
def dq(B:Nat)(h:ab)(v:ad)(x:bE):Prop:=∃aw,x=.ret v aw/\Ext B h aw
theorem dq.mk{B:Nat}{h aw:ab}{v:ad}(e:Ext B h aw):dq B h v (.ret v aw):=⟨aw,rfl,e⟩
theorem dq.of{B:Nat}{h aw:ab}{v w:ad}(aI:v=w)(e:Ext B h aw):dq B h v (.ret w aw):=⟨aw,by rw[aI],e⟩
theorem jz{a b:Bool}(h:a=b):ad.bool a=ad.bool b:=by rw[h]
theorem iD{B b i:Nat}{h x:ab}(e:Ext B h x)(ag:b<B){v:ad}(aA:aq h b i=some v):aq x b i=some v:=by
 unfold aq at aA⊢
 rw[e.get b ag];exact aA
theorem lb{h:ab}{b i:Nat}{cs:List ad}{e lo up:Nat}{k:hb}{v:ad}(ar:h.get b=some (.cells cs e k lo up))(aH:cs[i]? =some v):aq h b i=some v:=by
 have key:∀(l:List ad) (j:Nat),nth j l=l[j]? :=by
  intro l
  induction l with
  |nil=>intro j;cases j<;>rfl
  |cons a l bl=>intro j;cases j with
   |zero=>rfl
   |succ j=>exact bl j
 exact aF ar (by rw[key];exact aH)
theorem XK{h aw:ab}{b off:Nat}{xs:List ad}(e:bg.storeCells h b off xs=some aw){d:Nat}(ai:d≠b):aw.get d=h.get d:=by
 unfold bg.storeCells at e
 repeat' split at e
 all_goals first
  |(cases e;done)
  |(cases e;rw[ab.dx,if_neg ai])
  |(simp at e;done)
theorem XL{h aw:ab}{e bytes size need fz:Nat}{z v:ad}{cs:List ad}(ar:l_ h e bytes size need z cs fz=some (v,aw)){d:Nat}(ai:d<h.n):aw.get d=h.get d:=by
 unfold l_ at ar
 split at ar
 · cases ar;rw[ab.hr,if_neg (by omega)]
 · cases ar
theorem XM{P:Program}{h aw:ab}{sT:TypeId}{xT:Option TypeId}{s x v:ad}(e:dJ P h sT xT s x=some (v,aw)){d:Nat}(ai:d<h.n)(al:∀o l c,s≠ .slice d o l c):aw.get d=h.get d:=by
 have ky:∀(h0:ab) (e b s n:Nat) (z:ad) (cs:List ad) (fz:Nat) (v:ad) (I:ab),l_ h0 e b s n z cs fz=some (v,I)->∀d,d<h0.n->I.get d=h0.get d:=λh0 e b s n z cs fz v I ar d ai=>XL ar ai
 unfold dJ at e
 generalize l_=G at e ky
 repeat' split at e
 all_goals first
  |exact ky _ _ _ _ _ _ _ _ _ _ e d ai
  |(refine(ky _ _ _ _ _ _ _ _ _ _ e d (by simpa using ai)).trans ?_;rw[ab.dx,if_neg (λag=>al _ _ _ (by rw[ag]))])
  |(cases e;done)
  |(cases e;rfl)
  |(cases e;rename_i cL;exact XK cL (λag=>al _ _ _ (by rw[ag])))
  |(simp at e;done)
def kT(e:Nat)(o:Option dQ):Prop:=∀cs lo up,o≠some (.cells cs e .aL lo up)
structure o3(e b B:Nat)(h aw:ab):Prop where
 x:mV b B h aw
 k:∀d,d<h.n->d≠b->kT e (h.get d)->aw.get d=h.get d
theorem o3.refl(e b B:Nat)(h:ab):o3 e b B h h:=⟨mV.refl _ _ _,λ_ _ _ _=>rfl⟩
theorem o3.trans{e b B:Nat}{h I ae:ab}(w:o3 e b B h I)(w':o3 e b B I ae):o3 e b B h ae:=
 ⟨w.x.trans (Nat.le_refl _) w'.x,λd ai ag aH=>(w'.k d (Nat.lt_of_lt_of_le ai w.x.n) ag (by rw[w.k d ai ag aH];exact aH)).trans (w.k d ai ag aH)⟩
theorem o3.ext{e b B:Nat}{h I:ab}(x:Ext h.n h I)(dd:B<=h.n):o3 e b B h I:=⟨(x.le dd).XD b,λd ai _ _=>x.get d ai⟩
end bg
namespace bg
open Go
variable {P:Program} {call:aW} {rd:Option Nat}
def cv:Nat->Nat->List Hint->List Hint
 |0,_,l=>l
 |n+1,x,l=>.b (Nat.testBit x n)::cv n x l
def H7:List Prop->Nat->Prop
 |[],_=>True
 |p::_,0=>p
 |_::l,n+1=>H7 l n
theorem OE:∀{ps:List Prop} (n:Nat),dM ps->H7 ps n
 |[],_,_=>trivial
 |_::_,0,h=>h.1
 |_::_,n+1,h=>OE n h.2
def XN(ps:List Prop):Nat->Prop
 |0=>true=true
 |1=>false=false
 |d+2=>H7 ps d
def H8(ps:List Prop)(B:Nat):Nat->Nat->List Prop
 |0,_=>[]
 |n+1,x=>XN ps (x/B^n %B)::H8 ps B n x
theorem OF{ps:List Prop}(h:dM ps)(B:Nat):∀n x,dM (H8 ps B n x)
 |0,_=>trivial
 |n+1,x=>⟨by
  cases x/B^n %B with
  |zero=>exact(rfl:true=true)
  |succ d=>cases d with
   |zero=>exact(rfl:false=false)
   |succ d=>exact OE d h,OF h B n x⟩
theorem ca(x:ad)(h:ad.sound x=true:=by kernel_rfl):ad.sound x=true:=h
theorem dN(x:ad):x=x:=rfl
theorem hR{p:Prop}{l:List Prop}(h:p)(t:dM l):dM (p::l):=⟨h,t⟩
theorem bM:dM []:=trivial
theorem ji{cT dv:Prop}{l:List Prop}(I:cT)(ae:dv)(t:dM l):dM (cT::dv::l):=⟨I,ae,t⟩
theorem kd{cT dv eY:Prop}{l:List Prop}(I:cT)(ae:dv)(ax:eY)(t:dM l):dM (cT::dv::eY::l):=⟨I,ae,ax,t⟩
theorem mW{cT dv eY gq:Prop}{l:List Prop}(I:cT)(ae:dv)(ax:eY)(aN:gq)(t:dM l):dM (cT::dv::eY::gq::l):=⟨I,ae,ax,aN,t⟩
theorem mX{cT dv eY gq il:Prop}{l:List Prop}(I:cT)(ae:dv)(ax:eY)(aN:gq)(bS:il)(t:dM l):dM (cT::dv::eY::gq::il::l):=⟨I,ae,ax,aN,bS,t⟩
theorem wA{cT dv eY gq il lX:Prop}{l:List Prop}(I:cT)(ae:dv)(ax:eY)(aN:gq)(bS:il)(cz:lX)(t:dM l):dM (cT::dv::eY::gq::il::lX::l):=⟨I,ae,ax,aN,bS,cz,t⟩
theorem s5{cT dv eY gq il lX np:Prop}{l:List Prop}(I:cT)(ae:dv)(ax:eY)(aN:gq)(bS:il)(cz:lX)(dw:np)(t:dM l):dM (cT::dv::eY::gq::il::lX::np::l):=⟨I,ae,ax,aN,bS,cz,dw,t⟩
theorem Be{cT dv eY gq il lX np Bf:Prop}{l:List Prop}(I:cT)(ae:dv)(ax:eY)(aN:gq)(bS:il)(cz:lX)(dw:np)(gF:Bf)(t:dM l):dM (cT::dv::eY::gq::il::lX::np::Bf::l):=⟨I,ae,ax,aN,bS,cz,dw,gF,t⟩
theorem fJ{cT dv eY gq il lX np Bf OG:Prop}{l:List Prop}(I:cT)(ae:dv)(ax:eY)(aN:gq)(bS:il)(cz:lX)(dw:np)(gF:Bf)(hz:OG)(t:dM l):dM (cT::dv::eY::gq::il::lX::np::Bf::OG::l):=⟨I,ae,ax,aN,bS,cz,dw,gF,hz,t⟩
theorem bN{fn:Func}{path:List Nat}{st:bL}{e:bW}{cg:bL}{ps:List Prop}(bB:List Nat)(al:List Hint)(B n x:Nat)(ah:dM ps)(aa:El bB (Oq P fn rd call path st al)=some ⟨(e,cg),H8 ps B n x,[]⟩:=by kernel_rfl):a5 P fn rd call path st e cg:=Xr bB aa (OF ah B n x)
theorem dG{fn:Func}(p:List Nat){st st1 k9:bL}{e:bW}(I:a5 P fn rd call (p++[0]) st .nrm st1)(ae:a5 P fn rd call (p++[1]) st1 e k9)(al:rO (sub (fD fn) p)=true:=by kernel_rfl):a5 P fn rd call p st e k9:=a5.seq al I ae
theorem jR{fn:Func}(p:List Nat){st st1:bL}{e:bW}(I:a5 P fn rd call (p++[0]) st e st1)(he:e≠ .nrm)(al:rO (sub (fD fn) p)=true:=by kernel_rfl):a5 P fn rd call p st e st1:=a5.wx al I he
theorem ke{fn:Func}(p:List Nat){st:bL}{Q:bW->bL->Prop}(h:bp P fn call (p++[0]) st (er (λs=>bp P fn call (p++[1]) s Q) Q))(al:rO (sub (fD fn) p)=true:=by kernel_rfl):bp P fn call p st Q:=bp.seq al h
theorem e8{fn:Func}{p:List Nat}{Q:bW->bL->Prop}(aT:Nat->bL->Prop)(step:∀k st,aT k st->bp P fn call (p++[0]) st (er (λs=>∃j,j<k/\aT j s) Q))(k:Nat)(st:bL)(ay:k<99999)(hi:aT k st)(al:yr (sub (fD fn) p)=true:=by kernel_rfl):bp P fn call p st Q:=bp.loop al aT step k st ay hi
theorem ei{fn:Func}{p:List Nat}{st st1:bL}{Q:bW->bL->Prop}(h:bp P fn call p st Q)(al:bY st.Γ st1.Γ)(ai:st1.d=st.d:=by rfl)(aK:st1.q=st.q:=by rfl)(au:st1.h=st.h:=by rfl):bp P fn call p st1 Q:=bp.pre h al ai aK au
theorem gR{fn:Func}{intr:Nat->List ad->ab->Option (ad×ab)}{f n:Nat}{args:List ad}{h:ab}(hf:P.funcs[f]? =some fn){e:bW}{Γ:Env}{q:bU}{aw:ab}(fB:a5 P fn none (fF P intr n) [] ⟨n6 0 args,[],.none,h⟩ e ⟨Γ,[],q,aw⟩)(he:e=.ret\/e=.nrm){v:ad}(jL:qI P (ej fn) fn Γ aw=some v)(ag:fn.body.isSome=true:=by kernel_rfl)(hi:intr f args h=none:=by rfl)(hle:Nat.ble args.length fn.ntmps=true:=by kernel_rfl):fF P intr (n+1) (.fn f) args h=.ret v aw:=nk hf ag hi hle fB he jL
end bg
