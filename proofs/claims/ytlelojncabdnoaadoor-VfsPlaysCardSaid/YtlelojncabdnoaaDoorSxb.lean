/-
  PROVED HERE: contracts of functions (Sxb). No condition beside each statement's own.
-/
import Derived.Test.YtlelojncabdnoaaDoorSxa
set_option linter.unusedVariables false
set_option linter.unusedSimpArgs false
set_option maxRecDepth 100000
namespace aS
open Go
section
variable {D:Type}
def cc(enc:D->List I)(ds:List D):List I:=ds.flatMap enc
theorem o9{A:Type}{enc:D->List A}{w:Nat}(hw:∀d,(enc d).length=w):∀(ds:List D) (j:Nat),(ds.flatMap enc)[j]? =if j<ds.length*w then(ds[j/w]?).bind (λd=>(enc d)[j %w]?) else none
 |[],j=>by simp
 |d::ds,j=>by
  rw[List.flatMap_cons,List.getElem?_append,hw]
  by_cases h:j<w
  · have h1:j/w=0:=Nat.div_eq_of_lt h
    have aa:j %w=j:=Nat.mod_eq_of_lt h
    rw[if_pos h,if_pos (by rw[List.length_cons,Nat.add_mul];omega),h1,aa];rfl
  · have y8:0<w\/w=0:=by omega
    rcases y8 with aA|aA
    · obtain⟨k,rfl⟩:∃k,j=k+w:=⟨j-w,by omega⟩
      rw[if_neg h,Nat.add_sub_cancel,o9 hw ds k,Nat.add_div_right k aA,Nat.add_mod_right]
      have:(k<ds.length*w)=(k+w<(d::ds).length*w):=by rw[List.length_cons,Nat.add_mul];apply propext;omega
      simp only[this];rfl
    · subst aA
      rw[if_neg h,o9 hw ds (j-0)]
      simp
theorem oh{enc:D->List I}{w:Nat}(hw:∀d,(enc d).length=w):∀ds:List D,(cc enc ds).length=ds.length*w
 |[]=>by simp[cc]
 |d::ds=>by
  have:=oh hw ds
  unfold cc at this⊢
  rw[List.flatMap_cons,List.length_append,hw,this,List.length_cons,Nat.add_mul];omega
theorem G6{enc:D->List I}{w:Nat}(hw:∀d,(enc d).length=w)(ag:∀d d',enc d=enc d'->d=d'):∀(ds iZ:List D) (r r':List I),ds.length=iZ.length->cc enc ds++r=cc enc iZ++r'->ds=iZ/\r=r'
 |[],[],r,r',_,h=>⟨rfl,by simpa[cc] using h⟩
 |[],_::_,_,_,h,_=>by simp at h
 |_::_,[],_,_,h,_=>by simp at h
 |d::ds,d'::iZ,r,r',ar,h=>by
  simp only[cc,List.flatMap_cons,List.append_assoc] at h
  obtain⟨h1,aa⟩:=List.append_inj h (by rw[hw,hw])
  obtain⟨ao,aI⟩:=G6 hw ag ds iZ r r' (by simpa using ar) aa
  exact⟨by rw[ag _ _ h1,ao],aI⟩
theorem G7(enc:D->List I)(l m:List D):cc enc (l++m)=cc enc l++cc enc m:=by simp[cc]
theorem o_(enc:D->List I)(d:D)(m:List D):cc enc (d::m)=enc d++cc enc m:=rfl
theorem OO{ds:List D}{i:Nat}(ag:i<ds.length):ds=ds.take i++ds[i]::ds.drop (i+1):=by
 rw[<-List.drop_eq_getElem_cons ag,List.take_append_drop]
section
variable {enc:D->List I} {w:Nat}
theorem G8(hw:∀d,(enc d).length=w){h:J}{b el bB up off:Nat}{k:e3}{ds:List D}{rest:List I}(an:h.get b=some (.cells (cc enc ds++rest) el k bB up)){i:Nat}(ag:i<ds.length)(aQ:off=i*w):
  aS.loadCells h b off w=some (enc ds[i]):=by
 have e:cc enc ds++rest=cc enc (ds.take i)++(enc ds[i]++(cc enc (ds.drop (i+1))++rest)):=by
  conv=>lhs;rw[OO ag]
  simp only[G7,o_,List.append_assoc,List.cons_append]
 have ar:(cc enc (ds.take i)).length=off:=by rw[oh hw,List.length_take,aQ,Nat.min_eq_left (by omega)]
 simp only[aS.loadCells,an,e]
 rw[<-ar,G3]
 exact Cg _ _ _ (hw _)
theorem y9(ab:∀d,(enc d).all I.ca=true):∀ds:List D,(cc enc ds).all I.ca=true
 |[]=>rfl
 |d::ds=>by rw[o_,List.all_append,ab,y9 ab ds];rfl
end
end
structure pa{D:Type}(P:Program)(enc:D->List I)(w:Nat)(el sT:TypeId):Prop where
 hu:P.underlying sT=some (.slice el)
 gn:nV P (some sT)=true
 info:∃i,P.info? el=some i/\i.size=w/\i.bytes<=1000
 zero:∃z,ek P el=some z/\z.cells.length=w
 size:cQ P el=some w
 len:∀d,(enc d).length=w
 cell:∀d,(enc d).all I.ca=true
 pos:0<w
section
variable {D:Type} {P:Program} {enc:D->List I} {w:Nat} {el sT:TypeId}
def fU(enc:D->List I)(w:Nat)(el:TypeId)(B:Nat)(h:J)(v:I)(ds:List D):Prop:=
 (v=.bn/\ds=[])\/∃p,v=.slice p 0 ds.length (.aH w)/\0<ds.length/\h.get p=some (.cells (cc enc ds) el .aH 0 0)/\B<=p/\p<h.n
theorem fU.le{B lj:Nat}{h:J}{v:I}{ds:List D}(dX:B<=lj):fU enc w el lj h v ds->fU enc w el B h v ds
 |.inl h=>.inl h
 |.inr ⟨p,h1,aa,ao,aI,bl⟩=>.inr ⟨p,h1,aa,ao,Nat.le_trans dX aI,bl⟩
theorem fU.mono{B lj:Nat}{h ah:J}{v:I}{ds:List D}(aQ:fU enc w el B h v ds)(e:Ext lj h ah)(dX:h.n<=lj):fU enc w el B ah v ds:=by
 rcases aQ with aQ|⟨p,h1,aa,ao,aI,bl⟩
 · exact .inl aQ
 · exact .inr ⟨p,h1,aa,(e.get p (by omega)).trans ao,aI,Nat.lt_of_lt_of_le bl e.n⟩
theorem fU.ne{B:Nat}{h:J}{v:I}{ds:List D}(aQ:fU enc w el B h v ds){c:Nat}{cs:List I}{oT bB up:Nat}{k:e3}(an:h.get c=some (.cells cs oT k bB up))(hk:k≠ .aH\/oT≠el):∀n cp,v≠ .slice c 0 n cp:=by
 intro n cp e
 rcases aQ with⟨rfl,_⟩|⟨p,rfl,aa,ao,aI,bl⟩
 · cases e
 · cases e
   rw[an] at ao
   cases ao
   rcases hk with h|h<;>exact h rfl
theorem fU.eM{B:Nat}{h ah:J}{v:I}{ds:List D}(aQ:fU enc w el B h v ds)(aC:h.n<=ah.n)(hk:∀p,v=.slice p 0 ds.length (.aH w)->p<h.n->ah.get p=h.get p):fU enc w el B ah v ds:=by
 rcases aQ with aQ|⟨q,rfl,aa,ao,aI,bl⟩
 · exact .inl aQ
 · exact .inr ⟨q,rfl,aa,(hk q rfl bl).trans ao,aI,by omega⟩
theorem fU.r9{B:Nat}{h:J}{v:I}{ds:List D}(aQ:fU enc w el B h v ds){c:Nat}{cs:List I}{oT:Nat}{o:Option b8}(ab:h.get c=some (.cells cs oT .own 0 0)):fU enc w el B (h.set c o) v ds:=by
 rcases aQ with aQ|⟨p,h1,aa,ao,aI,bl⟩
 · exact .inl aQ
 · exact .inr ⟨p,h1,aa,c9 (λe=>by subst e;rw[ab] at ao;cases ao) ao,aI,by simpa using bl⟩
theorem fU.sound{B:Nat}{h:J}{v:I}{ds:List D}(aQ:fU enc w el B h v ds):I.sound v=true:=by
 rcases aQ with⟨rfl,_⟩|⟨p,rfl,_⟩<;>rfl
theorem fU.src(T:pa P enc w el sT){B:Nat}{h:J}{v:I}{ds:List D}(aQ:fU enc w el B h v ds):h7 h w v=some (ds.length,cc enc ds):=by
 rcases aQ with⟨rfl,rfl⟩|⟨p,rfl,aa,ao,aI,bl⟩
 · rfl
 · have:=y2 (h:=h) (xs:=cc enc ds) (rest:=[]) (by rw[List.append_nil];exact ao)
   rw[oh T.len] at this
   simp only[h7,this]
theorem G9(T:pa P enc w el sT){h:J}{src:I}(ad:h7 h w src=some (0,[])):en P h sT (some sT) .bn src=some (.bn,h):=by
 obtain⟨i,ag,bp,_⟩:=T.info
 obtain⟨z,aW,_⟩:=T.zero
 simp only[en,T.hu,T.gn,ag,aW,bp,ad]
theorem Ch(T:pa P enc w el sT){h:J}{src:I}{es:List D}(ad:h7 h w src=some (es.length,cc enc es))(aA:0<es.length)(ar:es.length<=1000000):en P h sT (some sT) .bn src=some (.slice h.n 0 es.length (.aH w),h.push (.cells (cc enc es) el .aH 0 0)):=by
 obtain⟨i,ag,bp,kB⟩:=T.info
 obtain⟨z,aW,mu⟩:=T.zero
 obtain⟨k,hk⟩:∃k,es.length=k+1:=⟨es.length-1,by omega⟩
 have gO:jY (k+1) i.bytes=true:=by
  unfold jY
  have h1:(4*(k+1)+2048)*(i.bytes+1)<=5000000*1001:=Nat.mul_le_mul (by omega) (by omega)
  simp;omega
 have tH:mU h el i.bytes w (k+1) z (cc enc es) 0=some (.slice h.n 0 (k+1) (.aH w),h.push (.cells (cc enc es) el .aH 0 0)):=
  tU gO (by rw[mu];simp) (y9 T.cell es)
 rw[hk] at ad⊢
 simp only[en,T.hu,T.gn,ag,aW,bp,ad,tH]
theorem G_(T:pa P enc w el sT){h:J}{src:I}{p:Nat}{ds es:List D}(an:h.get p=some (.cells (cc enc ds) el .aH 0 0))(ad:h7 h w src=some (es.length,cc enc es))(aA:0<es.length)(ar:ds.length+es.length<=1000000):
  en P h sT (some sT) (.slice p 0 ds.length (.aH w)) src=some (.slice h.n 0 (ds.length+es.length) (.aH w),(h.set p none).push (.cells (cc enc (ds++es)) el .aH 0 0)):=by
 obtain⟨i,ag,bp,kB⟩:=T.info
 obtain⟨z,aW,mu⟩:=T.zero
 obtain⟨k,hk⟩:∃k,es.length=k+1:=⟨es.length-1,by omega⟩
 have gO:jY (ds.length+(k+1)) i.bytes=true:=by
  unfold jY
  have h1:(4*(ds.length+(k+1))+2048)*(i.bytes+1)<=5000000*1001:=Nat.mul_le_mul (by omega) (by omega)
  simp;omega
 have tH:mU (h.set p none) el i.bytes w (ds.length+(k+1)) z (cc enc ds++cc enc es) (0-0)=some (.slice (h.set p none).n 0 (ds.length+(k+1)) (.aH w),(h.set p none).push (.cells (cc enc ds++cc enc es) el .aH 0 0)):=
  tU gO (by rw[mu];simp) (by rw[List.all_append,y9 T.cell,y9 T.cell];rfl)
 have jO:(Nat.beq w w&&Nat.blt 0 w)=true:=by
  have:=T.pos
  simp[Nat.blt_eq];omega
 have hlen:=oh T.len ds
 have nE:Nat.ble (0+(ds.length+(k+1))*w) (cc enc ds).length=false:=by
  cases U:Nat.ble (0+(ds.length+(k+1))*w) (cc enc ds).length with
  |false=>rfl
  |true=>
   have:=Nat.le_of_ble_eq_true U
   rw[hlen,Nat.add_mul,Nat.add_mul] at this
   have:=T.pos
   omega
 have jI:(Nat.ble 0 (0+ds.length*w)&&Nat.beq el el)=true:=by simp
 have l4:aS.loadCells h p 0 (ds.length*w)=some (cc enc ds):=by
  have:=y2 (h:=h) (xs:=cc enc ds) (rest:=[]) (by rw[List.append_nil];exact an)
  rwa [hlen] at this
 rw[hk] at ad⊢
 rw[G7]
 simp only[en,T.hu,T.gn,ag,aW,bp,ad,jO,an,nE,jI,l4,tH]
 rfl
theorem Ha(T:pa P enc w el sT){B:Nat}{h:J}{v src:I}{ds es:List D}(aQ:fU enc w el B h v ds)(dX:B<=h.n)(ad:h7 h w src=some (es.length,cc enc es))(ar:ds.length+es.length<=1000000):
  ∃v' ah,en P h sT (some sT) v src=some (v',ah)/\fU enc w el B ah v' (ds++es)/\Ext B h ah/\h.n<=ah.n/\∀c,c<h.n->(∀n cp,v≠ .slice c 0 n cp)->ah.get c=h.get c:=by
 by_cases aA:es.length=0
 · have he:es=[]:=List.eq_nil_of_length_eq_zero aA
   subst he
   refine⟨v,h,?_,by rw[List.append_nil];exact aQ,Ext.refl _ _,Nat.le_refl _,λ_ _ _=>rfl⟩
   rcases aQ with⟨rfl,_⟩|⟨p,rfl,aa,ao,aI,bl⟩
   · exact G9 T ad
   · obtain⟨i,ag,bp,kB⟩:=T.info
     obtain⟨z,aW,mu⟩:=T.zero
     have jO:(Nat.beq w w&&Nat.blt 0 w)=true:=by
      have:=T.pos
      simp[Nat.blt_eq];omega
     have dg:h7 h w src=some (0,cc enc []):=ad
     simp only[en,T.hu,T.gn,ag,aW,bp,dg,jO]
 · rcases aQ with⟨rfl,rfl⟩|⟨p,rfl,aa,ao,aI,bl⟩
   · rw[List.nil_append]
     exact⟨_,_,Ch T ad (by omega) (by simp at ar;omega),.inr ⟨h.n,rfl,by omega,c8 rfl,dX,by simp⟩,Ext.qt dX (Ext.refl _ _),by simp,λc ab _=>ch ab rfl⟩
   · refine⟨_,_,G_ T ao ad (by omega) ar,.inr ⟨h.n,by rw[List.length_append],by rw[List.length_append];omega,by exact c8 (by simp),dX,by simp⟩,?_,by simp,λc ab hw=>?_⟩
     · exact Ext.qt (by simp;omega) (Ext.l3 aI (Ext.refl _ _))
     · exact ch (by simpa using ab) (c9 (λe=>hw _ _ (by rw[e])) rfl)
theorem Ci(T:pa P enc w el sT)(g:J)(t:TypeId)(d:D):h7 (g.push (.cells (enc d) t .own 0 0)) w (.slice g.n 0 1 (.exact 1))=some ([d].length,cc enc [d]):=by
 have e:takeN (1*w) (hQ 0 (enc d))=some (enc d):=by
  rw[Nat.one_mul]
  have:=Cg (enc d) [] w (T.len d)
  rw[List.append_nil] at this
  exact this
 have:aS.loadCells (g.push (.cells (enc d) t .own 0 0)) g.n 0 (1*w)=some (enc d):=ih (c8 rfl) e
 simp only[h7,this]
 simp[cc]
end
section
variable {P:Program}
end
section
variable {P:Program} {rd:Option Nat} {call:cJ} {fn:Func}
end
section
variable {P:Program} {intr:Nat->List I->J->Option (I×J)}
end
section
variable {P:Program} {fn:Func} {call:cJ}
def bU(P:Program)(fn:Func)(call:cJ)(p:List Nat)(st:aB)(Q:aU->aB->Prop):Prop:=∃e bq,aZ P fn none call p st e bq/\Q e bq
def nx(A:aB->Prop)(Q:aU->aB->Prop):aU->aB->Prop
 |.nrm,s=>A s
 |e,s=>Q e s
def pb(id:Nat)(Q:aU->aB->Prop):aU->aB->Prop
 |.exit j,s=>if j=id then Q .nrm s else Q (.exit j) s
 |e,s=>Q e s
theorem bU.seq{p:List Nat}{st:aB}{Q:aU->aB->Prop}(ad:oe (sub (c5 fn) p)=true)(h:bU P fn call (p++[0]) st (nx (λs=>bU P fn call (p++[1]) s Q) Q)):bU P fn call p st Q:=by
 obtain⟨e,s,r,q⟩:=h
 cases e with
 |nrm=>obtain⟨au,s2,bH,bb⟩:=q;exact⟨au,s2,aZ.seq ad r bH,bb⟩
 |exit j=>exact⟨_,s,aZ.r2 ad r (by simp),q⟩
 |ret=>exact⟨_,s,aZ.r2 ad r (by simp),q⟩
 |bu v=>exact⟨_,s,aZ.r2 ad r (by simp),q⟩
 |_=>exact⟨_,s,aZ.r2 ad r (by simp),q⟩
theorem bU.block{p:List Nat}{id:Nat}{st:aB}{Q:aU->aB->Prop}(ad:r0 id (sub (c5 fn) p)=true)(h:bU P fn call (p++[0]) st (pb id Q)):bU P fn call p st Q:=by
 obtain⟨e,s,r,q⟩:=h
 cases e with
 |exit j=>
  by_cases aG:j=id
  · subst aG
    exact⟨.nrm,s,aZ.block ad r,by simpa[pb] using q⟩
  · exact⟨.exit j,s,aZ.lh ad r (by simpa using aG),by simpa[pb,aG] using q⟩
 |nrm=>exact⟨_,s,aZ.lh ad r (by simp),q⟩
 |ret=>exact⟨_,s,aZ.lh ad r (by simp),q⟩
 |bu v=>exact⟨_,s,aZ.lh ad r (by simp),q⟩
 |_=>exact⟨_,s,aZ.lh ad r (by simp),q⟩
theorem bU.pre{p:List Nat}{st st1:aB}{Q:aU->aB->Prop}(h:bU P fn call p st Q)(ad:eI st.Γ st1.Γ)(ak:st1.d=st.d)(bj:st1.q=st.q)(af:st1.h=st.h):bU P fn call p st1 Q:=by
 obtain⟨e,s,r,q⟩:=h;exact⟨e,s,dy.pre r ad ak bj af,q⟩
theorem eY.more{p:List Nat}{n m:Nat}{st bq:aB}{e:aU}(xX:n<=m)(h:eY P fn none call p n st e bq):eY P fn none call p m st e bq:=by
 intro r aj
 obtain⟨ba,av,m1⟩:=h r aj
 exact⟨ba,B8 xX av,m1⟩
theorem bU.loop{p:List Nat}{Q:aU->aB->Prop}(ad:r1 (sub (c5 fn) p)=true)(b3:Nat->aB->Prop)(step:∀k st,b3 k st->bU P fn call (p++[0]) st (nx (λs=>∃j,j<k/\b3 j s) Q)):∀(k:Nat) (st:aB),k<99999->b3 k st->bU P fn call p st Q:=by
 have key:∀(k:Nat) (st:aB),b3 k st->∃e bq,eY P fn none call p (k+1) st e bq/\Q e bq:=by
  intro k
  induction k using Nat.strongRecOn with
  |_ k bc=>
   intro st ag
   obtain⟨e,s,r,q⟩:=step k st ag
   have out:∀{e:aU},aZ P fn none call (p++[0]) st e s->e≠ .nrm->Q e s->∃e bq,eY P fn none call p (k+1) st e bq/\Q e bq:=λr he q=>⟨_,s,.exit r he,q⟩
   cases e with
   |nrm=>
    obtain⟨j,aG,nA⟩:=q
    obtain⟨au,s2,bH,bb⟩:=bc j aG s nA
    refine⟨au,s2,?_,bb⟩
    have:eY P fn none call p (j+1+1) st au s2:=.step r bH
    exact eY.more (by omega) this
   |exit j=>exact out r (by simp) q
   |ret=>exact out r (by simp) q
   |bu v=>exact out r (by simp) q
   |_=>exact out r (by simp) q
 intro k st hk ag
 obtain⟨e,s,r,q⟩:=key k st ag
 exact⟨e,s,eY.run ad r (by omega),q⟩
variable {intr:Nat->List I->J->Option (I×J)}
theorem tW{f n:Nat}{args:List I}{h:J}{R:bM->Prop}(hf:P.funcs[f]? =some fn)(ae:fn.body.isSome=true)(ag:intr f args h=none)(hle:Nat.ble args.length fn.ntmps=true)
  {Q:aU->aB->Prop}(an:bU P fn (cF P intr n) [] ⟨ie 0 args,[],.none,h⟩ Q)
  (Cj:∀e s,Q e s->((e=.ret\/e=.nrm)/\s.d=[]/\∃w,hL P (bG fn) fn s.Γ s.h=some w/\R (.ret w s.h))\/∃v,e=.bu v/\s.d=[]/\R (.bu v s.h)):R (cF P intr (n+1) (.fn f) args h):=by
 obtain⟨e,s,r,q⟩:=an
 obtain⟨Γ,d,XF,ah⟩:=s
 rcases Cj e _ q with⟨he,ak,w,hw,aj⟩|⟨v,rfl,ak,aj⟩
 · simp only at ak hw aj
   subst ak
   rw[GS hf ae ag hle r he hw];exact aj
 · simp only at ak aj
   subst ak
   rw[B9 hf ae ag hle r];exact aj
end
theorem OP{B b i:Nat}{h x:J}(e:Ext B h x)(ae:b<B){v:I}(ar:aO h b i=some v):aO x b i=some v:=by
 unfold aO at ar⊢
 rw[e.get b ae];exact ar
theorem OQ{h:J}{b i:Nat}{cs:List I}{e bB up:Nat}{k:e3}{v:I}(an:h.get b=some (.cells cs e k bB up))(aC:cs[i]? =some v):aO h b i=some v:=by
 have key:∀(l:List I) (j:Nat),nth j l=l[j]? :=by
  intro l
  induction l with
  |nil=>intro j;cases j<;>rfl
  |cons a l bc=>intro j;cases j with
   |zero=>rfl
   |succ j=>exact bc j
 exact ld1 an (by rw[key];exact aC)
end aS
namespace aS
open Go
variable {P:Program} {call:cJ} {rd:Option Nat}
def dR:Nat->Nat->List Hint->List Hint
 |0,_,l=>l
 |n+1,x,l=>.b (Nat.testBit x n)::dR n x l
def Ck:List Prop->Nat->Prop
 |[],_=>True
 |p::_,0=>p
 |_::l,n+1=>Ck l n
theorem Hb:∀{ps:List Prop} (n:Nat),cS ps->Ck ps n
 |[],_,_=>trivial
 |_::_,0,h=>h.1
 |_::_,n+1,h=>Hb n h.2
def OR(ps:List Prop):Nat->Prop
 |0=>true=true
 |1=>false=false
 |d+2=>Ck ps d
def Cl(ps:List Prop)(B:Nat):Nat->Nat->List Prop
 |0,_=>[]
 |n+1,x=>OR ps (x/B^n %B)::Cl ps B n x
theorem Hc{ps:List Prop}(h:cS ps)(B:Nat):∀n x,cS (Cl ps B n x)
 |0,_=>trivial
 |n+1,x=>⟨by
  cases x/B^n %B with
  |zero=>exact(rfl:true=true)
  |succ d=>cases d with
   |zero=>exact(rfl:false=false)
   |succ d=>exact Hb d h,Hc h B n x⟩
theorem mG(x:I)(h:I.sound x=true:=by kernel_rfl):I.sound x=true:=h
theorem tX(x:I):x=x:=rfl
theorem hc{p:Prop}{l:List Prop}(h:p)(t:cS l):cS (p::l):=⟨h,t⟩
theorem bJ:cS []:=trivial
theorem lk{dH ea:Prop}{l:List Prop}(h1:dH)(aa:ea)(t:cS l):cS (dH::ea::l):=⟨h1,aa,t⟩
theorem r_{dH ea g_:Prop}{l:List Prop}(h1:dH)(aa:ea)(ao:g_)(t:cS l):cS (dH::ea::g_::l):=⟨h1,aa,ao,t⟩
theorem ll{dH ea g_ hU:Prop}{l:List Prop}(h1:dH)(aa:ea)(ao:g_)(aI:hU)(t:cS l):cS (dH::ea::g_::hU::l):=⟨h1,aa,ao,aI,t⟩
theorem qu{dH ea g_ hU ln:Prop}{l:List Prop}(h1:dH)(aa:ea)(ao:g_)(aI:hU)(bl:ln)(t:cS l):cS (dH::ea::g_::hU::ln::l):=⟨h1,aa,ao,aI,bl,t⟩
theorem sa{dH ea g_ hU ln nF:Prop}{l:List Prop}(h1:dH)(aa:ea)(ao:g_)(aI:hU)(bl:ln)(cg:nF)(t:cS l):cS (dH::ea::g_::hU::ln::nF::l):=⟨h1,aa,ao,aI,bl,cg,t⟩
theorem wv{dH ea g_ hU ln nF qv:Prop}{l:List Prop}(h1:dH)(aa:ea)(ao:g_)(aI:hU)(bl:ln)(cg:nF)(da:qv)(t:cS l):cS (dH::ea::g_::hU::ln::nF::qv::l):=⟨h1,aa,ao,aI,bl,cg,da,t⟩
theorem pc{dH ea g_ hU ln nF qv wx:Prop}{l:List Prop}(h1:dH)(aa:ea)(ao:g_)(aI:hU)(bl:ln)(cg:nF)(da:qv)(cZ:wx)(t:cS l):cS (dH::ea::g_::hU::ln::nF::qv::wx::l):=⟨h1,aa,ao,aI,bl,cg,da,cZ,t⟩
theorem tY{dH ea g_ hU ln nF qv wx Hd:Prop}{l:List Prop}(h1:dH)(aa:ea)(ao:g_)(aI:hU)(bl:ln)(cg:nF)(da:qv)(cZ:wx)(oR:Hd)(t:cS l):cS (dH::ea::g_::hU::ln::nF::qv::wx::Hd::l):=⟨h1,aa,ao,aI,bl,cg,da,cZ,oR,t⟩
theorem bK{fn:Func}{path:List Nat}{st:aB}{e:aU}{bq:aB}{ps:List Prop}(eM:List Nat)(ad:List Hint)(B n x:Nat)(ab:cS ps)(U:yY eM (GP P fn rd call path st ad)=some ⟨(e,bq),Cl ps B n x,[]⟩:=by kernel_rfl):aZ P fn rd call path st e bq:=Ov eM U (Hc ab B n x)
theorem eZ{fn:Func}(p:List Nat){st st1 st2:aB}{e:aU}(h1:aZ P fn rd call (p++[0]) st .nrm st1)(aa:aZ P fn rd call (p++[1]) st1 e st2)(ad:oe (sub (c5 fn) p)=true:=by kernel_rfl):aZ P fn rd call p st e st2:=aZ.seq ad h1 aa
theorem nG{fn:Func}(p:List Nat){st st1:aB}{e:aU}(h1:aZ P fn rd call (p++[0]) st e st1)(he:e≠ .nrm)(ad:oe (sub (c5 fn) p)=true:=by kernel_rfl):aZ P fn rd call p st e st1:=aZ.r2 ad h1 he
theorem fZ{fn:Func}(p:List Nat){st:aB}{Q:aU->aB->Prop}(h:bU P fn call (p++[0]) st (nx (λs=>bU P fn call (p++[1]) s Q) Q))(ad:oe (sub (c5 fn) p)=true:=by kernel_rfl):bU P fn call p st Q:=bU.seq ad h
theorem mH{fn:Func}{p:List Nat}{Q:aU->aB->Prop}(b3:Nat->aB->Prop)(step:∀k st,b3 k st->bU P fn call (p++[0]) st (nx (λs=>∃j,j<k/\b3 j s) Q))(k:Nat)(st:aB)(hk:k<99999)(ag:b3 k st)(ad:r1 (sub (c5 fn) p)=true:=by kernel_rfl):bU P fn call p st Q:=bU.loop ad b3 step k st hk ag
theorem ij{fn:Func}{p:List Nat}{st st1:aB}{Q:aU->aB->Prop}(h:bU P fn call p st Q)(ad:eI st.Γ st1.Γ)(ak:st1.d=st.d:=by rfl)(bj:st1.q=st.q:=by rfl)(af:st1.h=st.h:=by rfl):bU P fn call p st1 Q:=bU.pre h ad ak bj af
theorem hA{fn:Func}{intr:Nat->List I->J->Option (I×J)}{f n:Nat}{args:List I}{h:J}(hf:P.funcs[f]? =some fn){e:aU}{Γ:Env}{q:az}{ah:J}(de:aZ P fn none (cF P intr n) [] ⟨ie 0 args,[],.none,h⟩ e ⟨Γ,[],q,ah⟩)(he:e=.ret\/e=.nrm){v:I}(eQ:hL P (bG fn) fn Γ ah=some v)(ae:fn.body.isSome=true:=by kernel_rfl)(ag:intr f args h=none:=by rfl)(hle:Nat.ble args.length fn.ntmps=true:=by kernel_rfl):cF P intr (n+1) (.fn f) args h=.ret v ah:=GS hf ae ag hle de he eQ
end aS
