/-
  PROVED HERE: contracts of functions (Sxb). No condition beside each statement's own.
-/
import Derived.Test.YtlelojncabdnoaaDoorSxa
set_option linter.unusedVariables false
set_option linter.unusedSimpArgs false
set_option maxRecDepth 100000
namespace aU
open Go
section
variable {D:Type}
def cw(enc:D->List I)(ds:List D):List I:=ds.flatMap enc
theorem sS{A:Type}{enc:D->List A}{w:Nat}(hw:∀d,(enc d).length=w):∀(ds:List D) (j:Nat),(ds.flatMap enc)[j]? =if j<ds.length*w then(ds[j/w]?).bind (λd=>(enc d)[j %w]?) else none
 |[],j=>by simp
 |d::ds,j=>by
  rw[List.flatMap_cons,List.getElem?_append,hw]
  by_cases h:j<w
  · have h1:j/w=0:=Nat.div_eq_of_lt h
    have aa:j %w=j:=Nat.mod_eq_of_lt h
    rw[if_pos h,if_pos (by rw[List.length_cons,Nat.add_mul];omega),h1,aa];rfl
  · have yf:0<w\/w=0:=by omega
    rcases yf with ay|ay
    · obtain⟨k,rfl⟩:∃k,j=k+w:=⟨j-w,by omega⟩
      rw[if_neg h,Nat.add_sub_cancel,sS hw ds k,Nat.add_div_right k ay,Nat.add_mod_right]
      have:(k<ds.length*w)=(k+w<(d::ds).length*w):=by rw[List.length_cons,Nat.add_mul];apply propext;omega
      simp only[this];rfl
    · subst ay
      rw[if_neg h,sS hw ds (j-0)]
      simp
theorem q5{enc:D->List I}{w:Nat}(hw:∀d,(enc d).length=w):∀ds:List D,(cw enc ds).length=ds.length*w
 |[]=>by simp[cw]
 |d::ds=>by
  have:=q5 hw ds
  unfold cw at this⊢
  rw[List.flatMap_cons,List.length_append,hw,this,List.length_cons,Nat.add_mul];omega
theorem FW{enc:D->List I}{w:Nat}(hw:∀d,(enc d).length=w)(ag:∀d d',enc d=enc d'->d=d'):∀(ds ig:List D) (r r':List I),ds.length=ig.length->cw enc ds++r=cw enc ig++r'->ds=ig/\r=r'
 |[],[],r,r',_,h=>⟨rfl,by simpa[cw] using h⟩
 |[],_::_,_,_,h,_=>by simp at h
 |_::_,[],_,_,h,_=>by simp at h
 |d::ds,d'::ig,r,r',aq,h=>by
  simp only[cw,List.flatMap_cons,List.append_assoc] at h
  obtain⟨h1,aa⟩:=List.append_inj h (by rw[hw,hw])
  obtain⟨ao,aM⟩:=FW hw ag ds ig r r' (by simpa using aq) aa
  exact⟨by rw[ag _ _ h1,ao],aM⟩
theorem FX(enc:D->List I)(l m:List D):cw enc (l++m)=cw enc l++cw enc m:=by simp[cw]
theorem q6(enc:D->List I)(d:D)(m:List D):cw enc (d::m)=enc d++cw enc m:=rfl
theorem Nf{ds:List D}{i:Nat}(ag:i<ds.length):ds=ds.take i++ds[i]::ds.drop (i+1):=by
 rw[<-List.drop_eq_getElem_cons ag,List.take_append_drop]
section
variable {enc:D->List I} {w:Nat}
theorem FY(hw:∀d,(enc d).length=w){h:J}{b el bF up off:Nat}{k:e3}{ds:List D}{rest:List I}(aj:h.get b=some (.cells (cw enc ds++rest) el k bF up)){i:Nat}(ag:i<ds.length)(aN:off=i*w):
  aU.loadCells h b off w=some (enc ds[i]):=by
 have e:cw enc ds++rest=cw enc (ds.take i)++(enc ds[i]++(cw enc (ds.drop (i+1))++rest)):=by
  conv=>lhs;rw[Nf ag]
  simp only[FX,q6,List.append_assoc,List.cons_append]
 have aq:(cw enc (ds.take i)).length=off:=by rw[q5 hw,List.length_take,aN,Nat.min_eq_left (by omega)]
 simp only[aU.loadCells,aj,e]
 rw[<-aq,FU]
 exact ye _ _ _ (hw _)
theorem yg(ab:∀d,(enc d).all I.cL=true):∀ds:List D,(cw enc ds).all I.cL=true
 |[]=>rfl
 |d::ds=>by rw[q6,List.all_append,ab,yg ab ds];rfl
end
end
structure sU{D:Type}(P:Program)(enc:D->List I)(w:Nat)(el sT:TypeId):Prop where
 hu:P.underlying sT=some (.slice el)
 fs:l_ P (some sT)=true
 info:∃i,P.info? el=some i/\i.size=w/\i.bytes<=1000
 zero:∃z,dV P el=some z/\z.cells.length=w
 size:cG P el=some w
 len:∀d,(enc d).length=w
 cell:∀d,(enc d).all I.cL=true
 pos:0<w
section
variable {D:Type} {P:Program} {enc:D->List I} {w:Nat} {el sT:TypeId}
def mK(enc:D->List I)(w:Nat)(el:TypeId)(B:Nat)(h:J)(v:I)(ds:List D):Prop:=
 (v=.bK/\ds=[])\/∃p,v=.slice p 0 ds.length (.aE w)/\0<ds.length/\h.get p=some (.cells (cw enc ds) el .aE 0 0)/\B<=p/\p<h.n
theorem mK.mono{B mH:Nat}{h ai:J}{v:I}{ds:List D}(aN:mK enc w el B h v ds)(e:Ext mH h ai)(hY:h.n<=mH):mK enc w el B ai v ds:=by
 rcases aN with aN|⟨p,h1,aa,ao,aM,bA⟩
 · exact .inl aN
 · exact .inr ⟨p,h1,aa,(e.get p (by omega)).trans ao,aM,Nat.lt_of_lt_of_le bA e.n⟩
theorem Ng(T:sU P enc w el sT){h:J}{src:I}(ae:hz h w src=some (0,[])):eA P h sT (some sT) .bK src=some (.bK,h):=by
 obtain⟨i,ag,bg,_⟩:=T.info
 obtain⟨z,aL,_⟩:=T.zero
 simp only[eA,T.hu,T.fs,ag,aL,bg,ae]
theorem Nh(T:sU P enc w el sT){h:J}{src:I}{es:List D}(ae:hz h w src=some (es.length,cw enc es))(ay:0<es.length)(aq:es.length<=1000000):eA P h sT (some sT) .bK src=some (.slice h.n 0 es.length (.aE w),h.push (.cells (cw enc es) el .aE 0 0)):=by
 obtain⟨i,ag,bg,jR⟩:=T.info
 obtain⟨z,aL,lN⟩:=T.zero
 obtain⟨k,hk⟩:∃k,es.length=k+1:=⟨es.length-1,by omega⟩
 have gb:iD (k+1) i.bytes=true:=by
  unfold iD
  have h1:(4*(k+1)+2048)*(i.bytes+1)<=5000000*1001:=Nat.mul_le_mul (by omega) (by omega)
  simp;omega
 have sC:ma h el i.bytes w (k+1) z (cw enc es) 0=some (.slice h.n 0 (k+1) (.aE w),h.push (.cells (cw enc es) el .aE 0 0)):=
  q1 gb (by rw[lN];simp) (yg T.cell es)
 rw[hk] at ae⊢
 simp only[eA,T.hu,T.fs,ag,aL,bg,ae,sC]
theorem Ni(T:sU P enc w el sT){h:J}{src:I}{p:Nat}{ds es:List D}(aj:h.get p=some (.cells (cw enc ds) el .aE 0 0))(ae:hz h w src=some (es.length,cw enc es))(ay:0<es.length)(aq:ds.length+es.length<=1000000):
  eA P h sT (some sT) (.slice p 0 ds.length (.aE w)) src=some (.slice h.n 0 (ds.length+es.length) (.aE w),(h.set p none).push (.cells (cw enc (ds++es)) el .aE 0 0)):=by
 obtain⟨i,ag,bg,jR⟩:=T.info
 obtain⟨z,aL,lN⟩:=T.zero
 obtain⟨k,hk⟩:∃k,es.length=k+1:=⟨es.length-1,by omega⟩
 have gb:iD (ds.length+(k+1)) i.bytes=true:=by
  unfold iD
  have h1:(4*(ds.length+(k+1))+2048)*(i.bytes+1)<=5000000*1001:=Nat.mul_le_mul (by omega) (by omega)
  simp;omega
 have sC:ma (h.set p none) el i.bytes w (ds.length+(k+1)) z (cw enc ds++cw enc es) (0-0)=some (.slice (h.set p none).n 0 (ds.length+(k+1)) (.aE w),(h.set p none).push (.cells (cw enc ds++cw enc es) el .aE 0 0)):=
  q1 gb (by rw[lN];simp) (by rw[List.all_append,yg T.cell,yg T.cell];rfl)
 have ju:(Nat.beq w w&&Nat.blt 0 w)=true:=by
  have:=T.pos
  simp[Nat.blt_eq];omega
 have hlen:=q5 T.len ds
 have mI:Nat.ble (0+(ds.length+(k+1))*w) (cw enc ds).length=false:=by
  cases U:Nat.ble (0+(ds.length+(k+1))*w) (cw enc ds).length with
  |false=>rfl
  |true=>
   have:=Nat.le_of_ble_eq_true U
   rw[hlen,Nat.add_mul,Nat.add_mul] at this
   have:=T.pos
   omega
 have iZ:(Nat.ble 0 (0+ds.length*w)&&Nat.beq el el)=true:=by simp
 have jX:aU.loadCells h p 0 (ds.length*w)=some (cw enc ds):=by
  have:=A_ (h:=h) (xs:=cw enc ds) (rest:=[]) (by rw[List.append_nil];exact aj)
  rwa [hlen] at this
 rw[hk] at ae⊢
 rw[FX]
 simp only[eA,T.hu,T.fs,ag,aL,bg,ae,ju,aj,mI,iZ,jX,sC]
 rfl
theorem Nj(T:sU P enc w el sT){B:Nat}{h:J}{v src:I}{ds es:List D}(aN:mK enc w el B h v ds)(hY:B<=h.n)(ae:hz h w src=some (es.length,cw enc es))(aq:ds.length+es.length<=1000000):
  ∃v' ai,eA P h sT (some sT) v src=some (v',ai)/\mK enc w el B ai v' (ds++es)/\Ext B h ai/\h.n<=ai.n/\∀c,c<h.n->(∀n cp,v≠ .slice c 0 n cp)->ai.get c=h.get c:=by
 by_cases ay:es.length=0
 · have he:es=[]:=List.eq_nil_of_length_eq_zero ay
   subst he
   refine⟨v,h,?_,by rw[List.append_nil];exact aN,Ext.refl _ _,Nat.le_refl _,λ_ _ _=>rfl⟩
   rcases aN with⟨rfl,_⟩|⟨p,rfl,aa,ao,aM,bA⟩
   · exact Ng T ae
   · obtain⟨i,ag,bg,jR⟩:=T.info
     obtain⟨z,aL,lN⟩:=T.zero
     have ju:(Nat.beq w w&&Nat.blt 0 w)=true:=by
      have:=T.pos
      simp[Nat.blt_eq];omega
     have cZ:hz h w src=some (0,cw enc []):=ae
     simp only[eA,T.hu,T.fs,ag,aL,bg,cZ,ju]
 · rcases aN with⟨rfl,rfl⟩|⟨p,rfl,aa,ao,aM,bA⟩
   · rw[List.nil_append]
     exact⟨_,_,Nh T ae (by omega) (by simp at aq;omega),.inr ⟨h.n,rfl,by omega,cT rfl,hY,by simp⟩,Ext.pt hY (Ext.refl _ _),by simp,λc ab _=>b8 ab rfl⟩
   · refine⟨_,_,Ni T ao ae (by omega) aq,.inr ⟨h.n,by rw[List.length_append],by rw[List.length_append];omega,by exact cT (by simp),hY,by simp⟩,?_,by simp,λc ab hw=>?_⟩
     · exact Ext.pt (by simp;omega) (Ext.nn aM (Ext.refl _ _))
     · exact b8 (by simpa using ab) (dt (λe=>hw _ _ (by rw[e])) rfl)
theorem Nk(T:sU P enc w el sT)(g:J)(t:TypeId)(d:D):hz (g.push (.cells (enc d) t .own 0 0)) w (.slice g.n 0 1 (.exact 1))=some ([d].length,cw enc [d]):=by
 have e:takeN (1*w) (hc 0 (enc d))=some (enc d):=by
  rw[Nat.one_mul]
  have:=ye (enc d) [] w (T.len d)
  rw[List.append_nil] at this
  exact this
 have:aU.loadCells (g.push (.cells (enc d) t .own 0 0)) g.n 0 (1*w)=some (enc d):=mJ (cT rfl) e
 simp only[hz,this]
 simp[cw]
end
section
variable {P:Program}
end
section
variable {P:Program} {rd:Option Nat} {call:cJ} {fn:Func}
end
section
variable {P:Program} {intr:Nat->List I->J->Option (I×J)}
end
section
variable {P:Program} {fn:Func} {call:cJ}
def cc(P:Program)(fn:Func)(call:cJ)(p:List Nat)(st:aQ)(Q:bh->aQ->Prop):Prop:=∃e bp,br P fn none call p st e bp/\Q e bp
def nx(A:aQ->Prop)(Q:bh->aQ->Prop):bh->aQ->Prop
 |.nrm,s=>A s
 |e,s=>Q e s
def vk(id:Nat)(Q:bh->aQ->Prop):bh->aQ->Prop
 |.exit j,s=>if j=id then Q .nrm s else Q (.exit j) s
 |e,s=>Q e s
theorem cc.seq{p:List Nat}{st:aQ}{Q:bh->aQ->Prop}(ae:nj (sub (cS fn) p)=true)(h:cc P fn call (p++[0]) st (nx (λs=>cc P fn call (p++[1]) s Q) Q)):cc P fn call p st Q:=by
 obtain⟨e,s,r,q⟩:=h
 cases e with
 |nrm=>obtain⟨ar,s2,bx,a_⟩:=q;exact⟨ar,s2,br.seq ae r bx,a_⟩
 |exit j=>exact⟨_,s,br.qZ ae r (by simp),q⟩
 |ret=>exact⟨_,s,br.qZ ae r (by simp),q⟩
 |bm v=>exact⟨_,s,br.qZ ae r (by simp),q⟩
 |_=>exact⟨_,s,br.qZ ae r (by simp),q⟩
theorem cc.block{p:List Nat}{id:Nat}{st:aQ}{Q:bh->aQ->Prop}(ae:qY id (sub (cS fn) p)=true)(h:cc P fn call (p++[0]) st (vk id Q)):cc P fn call p st Q:=by
 obtain⟨e,s,r,q⟩:=h
 cases e with
 |exit j=>
  by_cases aG:j=id
  · subst aG
    exact⟨.nrm,s,br.block ae r,by simpa[vk] using q⟩
  · exact⟨.exit j,s,br.nk ae r (by simpa using aG),by simpa[vk,aG] using q⟩
 |nrm=>exact⟨_,s,br.nk ae r (by simp),q⟩
 |ret=>exact⟨_,s,br.nk ae r (by simp),q⟩
 |bm v=>exact⟨_,s,br.nk ae r (by simp),q⟩
 |_=>exact⟨_,s,br.nk ae r (by simp),q⟩
theorem cc.pre{p:List Nat}{st st1:aQ}{Q:bh->aQ->Prop}(h:cc P fn call p st Q)(ae:eu st.Γ st1.Γ)(al:st1.d=st.d)(bj:st1.q=st.q)(af:st1.h=st.h):cc P fn call p st1 Q:=by
 obtain⟨e,s,r,q⟩:=h;exact⟨e,s,dO.pre r ae al bj af,q⟩
theorem gP.more{p:List Nat}{n m:Nat}{st bp:aQ}{e:bh}(w0:n<=m)(h:gP P fn none call p n st e bp):gP P fn none call p m st e bp:=by
 intro r ah
 obtain⟨aX,aw,m1⟩:=h r ah
 exact⟨aX,A7 w0 aw,m1⟩
theorem cc.loop{p:List Nat}{Q:bh->aQ->Prop}(ae:sO (sub (cS fn) p)=true)(cr:Nat->aQ->Prop)(step:∀k st,cr k st->cc P fn call (p++[0]) st (nx (λs=>∃j,j<k/\cr j s) Q)):∀(k:Nat) (st:aQ),k<99999->cr k st->cc P fn call p st Q:=by
 have key:∀(k:Nat) (st:aQ),cr k st->∃e bp,gP P fn none call p (k+1) st e bp/\Q e bp:=by
  intro k
  induction k using Nat.strongRecOn with
  |_ k a7=>
   intro st ag
   obtain⟨e,s,r,q⟩:=step k st ag
   have out:∀{e:bh},br P fn none call (p++[0]) st e s->e≠ .nrm->Q e s->∃e bp,gP P fn none call p (k+1) st e bp/\Q e bp:=λr he q=>⟨_,s,.exit r he,q⟩
   cases e with
   |nrm=>
    obtain⟨j,aG,mF⟩:=q
    obtain⟨ar,s2,bx,a_⟩:=a7 j aG s mF
    refine⟨ar,s2,?_,a_⟩
    have:gP P fn none call p (j+1+1) st ar s2:=.step r bx
    exact gP.more (by omega) this
   |exit j=>exact out r (by simp) q
   |ret=>exact out r (by simp) q
   |bm v=>exact out r (by simp) q
   |_=>exact out r (by simp) q
 intro k st hk ag
 obtain⟨e,s,r,q⟩:=key k st ag
 exact⟨e,s,gP.run ae r (by omega),q⟩
variable {intr:Nat->List I->J->Option (I×J)}
theorem FZ{f n:Nat}{args:List I}{h:J}{R:bL->Prop}(hf:P.funcs[f]? =some fn)(ad:fn.body.isSome=true)(ag:intr f args h=none)(hle:Nat.ble args.length fn.ntmps=true)
  {Q:bh->aQ->Prop}(aj:cc P fn (cu P intr n) [] ⟨jy 0 args,[],.none,h⟩ Q)
  (gQ:∀e s,Q e s->((e=.ret\/e=.nrm)/\s.d=[]/\∃w,jz P (bH fn) fn s.Γ s.h=some w/\R (.ret w s.h))\/∃v,e=.bm v/\s.d=[]/\R (.bm v s.h)):R (cu P intr (n+1) (.fn f) args h):=by
 obtain⟨e,s,r,q⟩:=aj
 obtain⟨Γ,d,Uf,ai⟩:=s
 rcases gQ e _ q with⟨he,al,w,hw,ah⟩|⟨v,rfl,al,ah⟩
 · simp only at al hw ah
   subst al
   rw[FJ hf ad ag hle r he hw];exact ah
 · simp only at al ah
   subst al
   rw[A8 hf ad ag hle r];exact ah
end
theorem Bh{B b i:Nat}{h x:J}(e:Ext B h x)(ad:b<B){v:I}(aq:aO h b i=some v):aO x b i=some v:=by
 unfold aO at aq⊢
 rw[e.get b ad];exact aq
theorem Nl{h:J}{b i:Nat}{cs:List I}{e bF up:Nat}{k:e3}{v:I}(aj:h.get b=some (.cells cs e k bF up))(aB:cs[i]? =some v):aO h b i=some v:=by
 have key:∀(l:List I) (j:Nat),nth j l=l[j]? :=by
  intro l
  induction l with
  |nil=>intro j;cases j<;>rfl
  |cons a l a7=>intro j;cases j with
   |zero=>rfl
   |succ j=>exact a7 j
 exact ld1 aj (by rw[key];exact aB)
end aU
namespace aU
open Go
variable {P:Program} {call:cJ} {rd:Option Nat}
def iv:Nat->Nat->List Hint->List Hint
 |0,_,l=>l
 |n+1,x,l=>.b (Nat.testBit x n)::iv n x l
def Bi:List Prop->Nat->Prop
 |[],_=>True
 |p::_,0=>p
 |_::l,n+1=>Bi l n
theorem F0:∀{ps:List Prop} (n:Nat),cH ps->Bi ps n
 |[],_,_=>trivial
 |_::_,0,h=>h.1
 |_::_,n+1,h=>F0 n h.2
def Nn(ps:List Prop):Nat->Prop
 |0=>true=true
 |1=>false=false
 |d+2=>Bi ps d
def Bj(ps:List Prop)(B:Nat):Nat->Nat->List Prop
 |0,_=>[]
 |n+1,x=>Nn ps (x/B^n %B)::Bj ps B n x
theorem F1{ps:List Prop}(h:cH ps)(B:Nat):∀n x,cH (Bj ps B n x)
 |0,_=>trivial
 |n+1,x=>⟨by
  cases x/B^n %B with
  |zero=>exact(rfl:true=true)
  |succ d=>cases d with
   |zero=>exact(rfl:false=false)
   |succ d=>exact F0 d h,F1 h B n x⟩
theorem lW(x:I)(h:I.sound x=true:=by kernel_rfl):I.sound x=true:=h
theorem sV(x:I):x=x:=rfl
theorem k8{p:Prop}{l:List Prop}(h:p)(t:cH l):cH (p::l):=⟨h,t⟩
theorem cN:cH []:=trivial
theorem q7{di dC:Prop}{l:List Prop}(h1:di)(aa:dC)(t:cH l):cH (di::dC::l):=⟨h1,aa,t⟩
theorem q8{di dC gf:Prop}{l:List Prop}(h1:di)(aa:dC)(ao:gf)(t:cH l):cH (di::dC::gf::l):=⟨h1,aa,ao,t⟩
theorem lX{di dC gf gK:Prop}{l:List Prop}(h1:di)(aa:dC)(ao:gf)(aM:gK)(t:cH l):cH (di::dC::gf::gK::l):=⟨h1,aa,ao,aM,t⟩
theorem sW{di dC gf gK jB:Prop}{l:List Prop}(h1:di)(aa:dC)(ao:gf)(aM:gK)(bA:jB)(t:cH l):cH (di::dC::gf::gK::jB::l):=⟨h1,aa,ao,aM,bA,t⟩
theorem No{di dC gf gK jB mL:Prop}{l:List Prop}(h1:di)(aa:dC)(ao:gf)(aM:gK)(bA:jB)(dB:mL)(t:cH l):cH (di::dC::gf::gK::jB::mL::l):=⟨h1,aa,ao,aM,bA,dB,t⟩
theorem Ug{di dC gf gK jB mL pv:Prop}{l:List Prop}(h1:di)(aa:dC)(ao:gf)(aM:gK)(bA:jB)(dB:mL)(eK:pv)(t:cH l):cH (di::dC::gf::gK::jB::mL::pv::l):=⟨h1,aa,ao,aM,bA,dB,eK,t⟩
theorem Bk{di dC gf gK jB mL pv vl:Prop}{l:List Prop}(h1:di)(aa:dC)(ao:gf)(aM:gK)(bA:jB)(dB:mL)(eK:pv)(lG:vl)(t:cH l):cH (di::dC::gf::gK::jB::mL::pv::vl::l):=⟨h1,aa,ao,aM,bA,dB,eK,lG,t⟩
theorem yh{di dC gf gK jB mL pv vl F2:Prop}{l:List Prop}(h1:di)(aa:dC)(ao:gf)(aM:gK)(bA:jB)(dB:mL)(eK:pv)(lG:vl)(qf:F2)(t:cH l):cH (di::dC::gf::gK::jB::mL::pv::vl::F2::l):=⟨h1,aa,ao,aM,bA,dB,eK,lG,qf,t⟩
theorem cO{fn:Func}{path:List Nat}{st:aQ}{e:bh}{bp:aQ}{ps:List Prop}(fm:List Nat)(ae:List Hint)(B n x:Nat)(ab:cH ps)(U:x6 fm (FG P fn rd call path st ae)=some ⟨(e,bp),Bj ps B n x,[]⟩:=by kernel_rfl):br P fn rd call path st e bp:=MR fm U (F1 ab B n x)
theorem ob{fn:Func}(p:List Nat){st st1 st2:aQ}{e:bh}(h1:br P fn rd call (p++[0]) st .nrm st1)(aa:br P fn rd call (p++[1]) st1 e st2)(ae:nj (sub (cS fn) p)=true:=by kernel_rfl):br P fn rd call p st e st2:=br.seq ae h1 aa
theorem Bl{fn:Func}(p:List Nat){st st1:aQ}{e:bh}(h1:br P fn rd call (p++[0]) st e st1)(he:e≠ .nrm)(ae:nj (sub (cS fn) p)=true:=by kernel_rfl):br P fn rd call p st e st1:=br.qZ ae h1 he
theorem mM{fn:Func}(p:List Nat){st:aQ}{Q:bh->aQ->Prop}(h:cc P fn call (p++[0]) st (nx (λs=>cc P fn call (p++[1]) s Q) Q))(ae:nj (sub (cS fn) p)=true:=by kernel_rfl):cc P fn call p st Q:=cc.seq ae h
theorem q9{fn:Func}{p:List Nat}{Q:bh->aQ->Prop}(cr:Nat->aQ->Prop)(step:∀k st,cr k st->cc P fn call (p++[0]) st (nx (λs=>∃j,j<k/\cr j s) Q))(k:Nat)(st:aQ)(hk:k<99999)(ag:cr k st)(ae:sO (sub (cS fn) p)=true:=by kernel_rfl):cc P fn call p st Q:=cc.loop ae cr step k st hk ag
theorem iN{fn:Func}{p:List Nat}{st st1:aQ}{Q:bh->aQ->Prop}(h:cc P fn call p st Q)(ae:eu st.Γ st1.Γ)(al:st1.d=st.d:=by rfl)(bj:st1.q=st.q:=by rfl)(af:st1.h=st.h:=by rfl):cc P fn call p st1 Q:=cc.pre h ae al bj af
theorem hZ{fn:Func}{intr:Nat->List I->J->Option (I×J)}{f n:Nat}{args:List I}{h:J}(hf:P.funcs[f]? =some fn){e:bh}{Γ:Env}{q:aJ}{ai:J}(dw:br P fn none (cu P intr n) [] ⟨jy 0 args,[],.none,h⟩ e ⟨Γ,[],q,ai⟩)(he:e=.ret\/e=.nrm){v:I}(eQ:jz P (bH fn) fn Γ ai=some v)(ad:fn.body.isSome=true:=by kernel_rfl)(ag:intr f args h=none:=by rfl)(hle:Nat.ble args.length fn.ntmps=true:=by kernel_rfl):cu P intr (n+1) (.fn f) args h=.ret v ai:=FJ hf ad ag hle dw he eQ
end aU
