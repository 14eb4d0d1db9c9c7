/-
  PROVED HERE: contracts of functions (Sxb). No condition beside each statement's own.
-/
import Derived.Test.YtfooahfebojldaaGreatDoorSxa
set_option linter.unusedVariables false
set_option linter.unusedSimpArgs false
namespace ay
open Go
section
variable {D:Type}
def fU(enc:D->List J)(aV:List D):List J:=aV.flatMap enc
theorem FC{A:Type}{enc:D->List A}{w:Nat}(hw:∀d,(enc d).length=w):∀(aV:List D) (j:Nat),(aV.flatMap enc)[j]? =if j<aV.length*w then(aV[j/w]?).bind (λd=>(enc d)[j %w]?) else none
 |[],j=>by simp
 |d::aV,j=>by
  rw[List.flatMap_cons,List.getElem?_append,hw]
  by_cases h:j<w
  · have ab:j/w=0:=Nat.div_eq_of_lt h
    have ae:j %w=j:=Nat.mod_eq_of_lt h
    rw[if_pos h,if_pos (by rw[List.length_cons,Nat.add_mul];omega),ab,ae];rfl
  · have UI:0<w\/w=0:=by omega
    rcases UI with h0|h0
    · obtain⟨k,rfl⟩:∃k,j=k+w:=⟨j-w,by omega⟩
      rw[if_neg h,Nat.add_sub_cancel,FC hw aV k,Nat.add_div_right k h0,Nat.add_mod_right]
      have:(k<aV.length*w)=(k+w<(d::aV).length*w):=by rw[List.length_cons,Nat.add_mul];apply propext;omega
      simp only[this];rfl
    · subst h0
      rw[if_neg h,FC hw aV (j-0)]
      simp
theorem FD{enc:D->List J}{w:Nat}(hw:∀d,(enc d).length=w):∀aV:List D,(fU enc aV).length=aV.length*w
 |[]=>by simp[fU]
 |d::aV=>by
  have:=FD hw aV
  unfold fU at this⊢
  rw[List.flatMap_cons,List.length_append,hw,this,List.length_cons,Nat.add_mul];omega
theorem Lr(enc:D->List J)(l m:List D):fU enc (l++m)=fU enc l++fU enc m:=by simp[fU]
theorem Ls(enc:D->List J)(d:D)(m:List D):fU enc (d::m)=enc d++fU enc m:=rfl
theorem UJ{aV:List D}{i:Nat}(af:i<aV.length):aV=aV.take i++aV[i]::aV.drop (i+1):=by
 rw[<-List.drop_eq_getElem_cons af,List.take_append_drop]
section
variable {enc:D->List J} {w:Nat}
theorem FE(hw:∀d,(enc d).length=w){h:aa}{b el aW up off:Nat}{k:eZ}{aV:List D}{rest:List J}(ao:h.get b=some (.cells (fU enc aV++rest) el k aW up)){i:Nat}(af:i<aV.length)(a8:off=i*w):
  ay.loadCells h b off w=some (enc aV[i]):=by
 have e:fU enc aV++rest=fU enc (aV.take i)++(enc aV[i]++(fU enc (aV.drop (i+1))++rest)):=by
  conv=>lhs;rw[UJ af]
  simp only[Lr,Ls,List.append_assoc,List.cons_append]
 have aw:(fU enc (aV.take i)).length=off:=by rw[FD hw,List.length_take,a8,Nat.min_eq_left (by omega)]
 simp only[ay.loadCells,ao,e]
 rw[<-aw,Fx]
 exact Lj _ _ _ (hw _)
theorem BV(ah:∀d,(enc d).all J.bF=true):∀aV:List D,(fU enc aV).all J.bF=true
 |[]=>rfl
 |d::aV=>by rw[Ls,List.all_append,ah,BV ah aV];rfl
end
end
end ay
namespace ay
open Go
structure sa{D:Type}(P:Program)(enc:D->List J)(w:Nat)(el sT:TypeId):Prop where
 hu:P.underlying sT=some (.slice el)
 gU:o6 P (some sT)=true
 info:∃i,P.info? el=some i/\i.size=w/\i.bytes<=1000
 zero:∃z,eG P el=some z/\z.cells.length=w
 size:dm P el=some w
 len:∀d,(enc d).length=w
 cell:∀d,(enc d).all J.bF=true
 pos:0<w
section
variable {D:Type} {P:Program} {enc:D->List J} {w:Nat} {el sT:TypeId}
def f_(enc:D->List J)(w:Nat)(el:TypeId)(B:Nat)(h:aa)(v:J)(aV:List D):Prop:=
 (v=.az/\aV=[])\/∃p,v=.slice p 0 aV.length (.aM w)/\0<aV.length/\h.get p=some (.cells (fU enc aV) el .aM 0 0)/\B<=p/\p<h.n
theorem f_.mono{B hT:Nat}{h an:aa}{v:J}{aV:List D}(a8:f_ enc w el B h v aV)(e:Ext hT h an)(bN:h.n<=hT):f_ enc w el B an v aV:=by
 rcases a8 with a8|⟨p,ab,ae,av,aK,bU⟩
 · exact .inl a8
 · exact .inr ⟨p,ab,ae,(e.get p (by omega)).trans av,aK,Nat.lt_of_lt_of_le bU e.n⟩
theorem f_.ne{B:Nat}{h:aa}{v:J}{aV:List D}(a8:f_ enc w el B h v aV){c:Nat}{cs:List J}{rK aW up:Nat}{k:eZ}(ao:h.get c=some (.cells cs rK k aW up))(au:k≠ .aM\/rK≠el):∀n aG,v≠ .slice c 0 n aG:=by
 intro n aG e
 rcases a8 with⟨rfl,_⟩|⟨p,rfl,ae,av,aK,bU⟩
 · cases e
 · cases e
   rw[ao] at av
   cases av
   rcases au with h|h<;>exact h rfl
theorem f_.sound{B:Nat}{h:aa}{v:J}{aV:List D}(a8:f_ enc w el B h v aV):J.sound v=true:=by
 rcases a8 with⟨rfl,_⟩|⟨p,rfl,_⟩<;>rfl
theorem f_.load(T:sa P enc w el sT){B p n:Nat}{c:cj}{h:aa}{aV:List D}(a8:f_ enc w el B h (.slice p 0 n c) aV):n=aV.length/\p<h.n/\∀i (af:i<aV.length),ay.loadCells h p (0+i*w) w=some (enc aV[i]):=by
 rcases a8 with⟨h,_⟩|⟨q,e,ae,av,aK,bU⟩
 · cases h
 · cases e
   exact⟨rfl,bU,λi af=>FE (off:=0+i*w) (rest:=[]) T.len (by rw[List.append_nil];exact av) af (by omega)⟩
theorem UK(T:sa P enc w el sT){h:aa}{src:J}{es:List D}(hs:hP h w src=some (es.length,fU enc es))(h0:0<es.length)(aw:es.length<=1000000):gl P h sT (some sT) .az src=some (.slice h.n 0 es.length (.aM w),h.push (.cells (fU enc es) el .aM 0 0)):=by
 obtain⟨i,af,bE,nz⟩:=T.info
 obtain⟨z,a0,jk⟩:=T.zero
 obtain⟨k,au⟩:∃k,es.length=k+1:=⟨es.length-1,by omega⟩
 have hA:lR (k+1) i.bytes=true:=by
  unfold lR
  have ab:(4*(k+1)+2048)*(i.bytes+1)<=5000000*1001:=Nat.mul_le_mul (by omega) (by omega)
  simp;omega
 have k6:kY h el i.bytes w (k+1) z (fU enc es) 0=some (.slice h.n 0 (k+1) (.aM w),h.push (.cells (fU enc es) el .aM 0 0)):=
  yD hA (by rw[jk];simp) (BV T.cell es)
 rw[au] at hs⊢
 simp only[gl,T.hu,T.gU,af,a0,bE,hs,k6]
theorem UL(T:sa P enc w el sT){h:aa}{src:J}{p:Nat}{aV es:List D}(ao:h.get p=some (.cells (fU enc aV) el .aM 0 0))(hs:hP h w src=some (es.length,fU enc es))(h0:0<es.length)(aw:aV.length+es.length<=1000000):
  gl P h sT (some sT) (.slice p 0 aV.length (.aM w)) src=some (.slice h.n 0 (aV.length+es.length) (.aM w),(h.set p none).push (.cells (fU enc (aV++es)) el .aM 0 0)):=by
 obtain⟨i,af,bE,nz⟩:=T.info
 obtain⟨z,a0,jk⟩:=T.zero
 obtain⟨k,au⟩:∃k,es.length=k+1:=⟨es.length-1,by omega⟩
 have hA:lR (aV.length+(k+1)) i.bytes=true:=by
  unfold lR
  have ab:(4*(aV.length+(k+1))+2048)*(i.bytes+1)<=5000000*1001:=Nat.mul_le_mul (by omega) (by omega)
  simp;omega
 have k6:kY (h.set p none) el i.bytes w (aV.length+(k+1)) z (fU enc aV++fU enc es) (0-0)=some (.slice (h.set p none).n 0 (aV.length+(k+1)) (.aM w),(h.set p none).push (.cells (fU enc aV++fU enc es) el .aM 0 0)):=
  yD hA (by rw[jk];simp) (by rw[List.all_append,BV T.cell,BV T.cell];rfl)
 have gh:(Nat.beq w w&&Nat.blt 0 w)=true:=by
  have:=T.pos
  simp[Nat.blt_eq];omega
 have hlen:=FD T.len aV
 have qH:Nat.ble (0+(aV.length+(k+1))*w) (fU enc aV).length=false:=by
  cases ad:Nat.ble (0+(aV.length+(k+1))*w) (fU enc aV).length with
  |false=>rfl
  |true=>
   have:=Nat.le_of_ble_eq_true ad
   rw[hlen,Nat.add_mul,Nat.add_mul] at this
   have:=T.pos
   omega
 have kF:(Nat.ble 0 (0+aV.length*w)&&Nat.beq el el)=true:=by simp
 have g3:ay.loadCells h p 0 (aV.length*w)=some (fU enc aV):=by
  have:=BP (h:=h) (xs:=fU enc aV) (rest:=[]) (by rw[List.append_nil];exact ao)
  rwa [hlen] at this
 rw[au] at hs⊢
 rw[Lr]
 simp only[gl,T.hu,T.gU,af,a0,bE,hs,gh,ao,qH,kF,g3,k6]
 rfl
end
end ay
namespace ay
open Go
section
variable {P:Program}
end
section
variable {P:Program} {rd:Option Nat} {call:aO->List J->aa->ax} {fn:Func}
end
end ay
namespace ay
open Go
section
variable {P:Program} {intr:Nat->List J->aa->Option (J×aa)}
def v8:bK->Option J
 |.bk v=>some v
 |_=>none
theorem Lt{f g n:Nat}{fn eW:Func}{args gargs:List J}{h ab ae:aa}(hf:P.funcs[f]? =some fn)(ag:fn.body.isSome=true)(af:intr f args h=none)(hle:Nat.ble args.length fn.ntmps=true)
  {e:bK}{Γ:Env}{q:bG}(eL:aN P fn none (e_ P intr n) [] ⟨mG 0 args,[],.none,h⟩ e ⟨Γ,[.call g gargs],q,ab⟩)(he:e=.ret\/e=.nrm\/∃v,e=.bk v)
  (ao:P.funcs[g]? =some eW)(x9:eW.body.isSome=true)(UM:Nat.ble gargs.length eW.ntmps=true)
  {aC:bK}{hG:Env}{aT:bG}(BW:aN P eW none (e_ P intr n) [] ⟨mG 0 gargs,[],qj (v8 e),ab⟩ aC ⟨hG,[],aT,ae⟩)(Bd:aC=.ret\/aC=.nrm){w:J}(UN:k5 P (dh eW) eW hG ae=some w)
  (a1:vo aT (v8 e)=none){v:J}(hD:k5 P (dh fn) fn Γ ae=some v):
  e_ P intr (n+1) (.fn f) args h=.ret v ae:=by
 obtain⟨c,ah⟩:=Option.isSome_iff_exists.1 ag
 obtain⟨c2,ow⟩:=Option.isSome_iff_exists.1 x9
 have qF:fv fn=c:=by simp[fv,ah]
 have UO:fv eW=c2:=by simp[fv,ow]
 unfold aN at eL BW
 rw[qF] at eL
 rw[UO] at BW
 simp only[sub] at eL BW
 obtain⟨ba,bz,cE⟩:=eL _ (tQ args)
 obtain⟨bt,bA,hB⟩:=BW _ (tQ gargs)
 have ai:=tR cE hD
 have rM:=tR hB UN
 have aq:AB P eW (v8 e) (kC P (e_ P intr n) eW gargs (qj (v8 e)) ab)=some (none,ae):=by
  have ie:kC P (e_ P intr n) eW gargs (qj (v8 e)) ab=.ok aC bt [] aT ae:=by
   simp only[kC,ow,UM];exact bA
  rw[ie]
  rcases Bd with rfl|rfl<;>simp only[AB,rM,a1]
 simp only[e_,af,qk,hf,ah,kC,hle,bz]
 rcases he with rfl|rfl|⟨v',rfl⟩<;>(simp only[v8] at aq;simp only[kd,jA,ao,aq,ai])
end
end ay
namespace ay
open Go
section
variable {P:Program} {fn:Func} {call:aO->List J->aa->ax}
def bB(P:Program)(fn:Func)(call:aO->List J->aa->ax)(p:List Nat)(st:ar)(Q:bK->ar->Prop):Prop:=∃e b2,aN P fn none call p st e b2/\Q e b2
def en(A:ar->Prop)(Q:bK->ar->Prop):bK->ar->Prop
 |.nrm,s=>A s
 |e,s=>Q e s
theorem bB.of{p:List Nat}{st b2:ar}{e:bK}{Q:bK->ar->Prop}(h:aN P fn none call p st e b2)(q:Q e b2):bB P fn call p st Q:=⟨e,b2,h,q⟩
theorem bB.mono{p:List Nat}{st:ar}{Q Lu:bK->ar->Prop}(h:bB P fn call p st Q)(a1:∀e s,Q e s->Lu e s):bB P fn call p st Lu:=by
 obtain⟨e,s,r,q⟩:=h;exact⟨e,s,r,a1 e s q⟩
theorem bB.pre{p:List Nat}{st st1:ar}{Q:bK->ar->Prop}(h:bB P fn call p st Q)(hs:cZ st.Γ st1.Γ)(aq:st1.d=st.d)(a1:st1.q=st.q)(aj:st1.h=st.h):bB P fn call p st1 Q:=by
 obtain⟨e,s,r,q⟩:=h;exact⟨e,s,c9.pre r hs aq a1 aj,q⟩
theorem fT.more{p:List Nat}{n m:Nat}{st b2:ar}{e:bK}(xN:n<=m)(h:fT P fn none call p n st e b2):fT P fn none call p m st e b2:=by
 intro r ai
 obtain⟨ba,aE,cE⟩:=h r ai
 exact⟨ba,Fs xN aE,cE⟩
theorem bB.loop{p:List Nat}{Q:bK->ar->Prop}(hs:BN (sub (fv fn) p)=true)(I:Nat->ar->Prop)(step:∀k st,I k st->bB P fn call (p++[0]) st (en (λs=>∃j,j<k/\I j s) Q)):∀(k:Nat) (st:ar),k<99999->I k st->bB P fn call p st Q:=by
 have key:∀(k:Nat) (st:ar),I k st->∃e b2,fT P fn none call p (k+1) st e b2/\Q e b2:=by
  intro k
  induction k using Nat.strongRecOn with
  |_ k bp=>
   intro st af
   obtain⟨e,s,r,q⟩:=step k st af
   have out:∀{e:bK},aN P fn none call (p++[0]) st e s->e≠ .nrm->Q e s->∃e b2,fT P fn none call p (k+1) st e b2/\Q e b2:=λr he q=>⟨_,s,.exit r he,q⟩
   cases e with
   |nrm=>
    obtain⟨j,aI,r3⟩:=q
    obtain⟨aC,s2,bt,aT⟩:=bp j aI s r3
    refine⟨aC,s2,?_,aT⟩
    have:fT P fn none call p (j+1+1) st aC s2:=.step r bt
    exact fT.more (by omega) this
   |exit j=>exact out r (by simp) q
   |ret=>exact out r (by simp) q
   |bk v=>exact out r (by simp) q
   |_=>exact out r (by simp) q
 intro k st au af
 obtain⟨e,s,r,q⟩:=key k st af
 exact⟨e,s,fT.run hs r (by omega),q⟩
variable {intr:Nat->List J->aa->Option (J×aa)}
theorem Lv{f n:Nat}{args:List J}{h:aa}{R:ax->Prop}(hf:P.funcs[f]? =some fn)(ag:fn.body.isSome=true)(af:intr f args h=none)(hle:Nat.ble args.length fn.ntmps=true)
  {Q:bK->ar->Prop}(ao:bB P fn (e_ P intr n) [] ⟨mG 0 args,[],.none,h⟩ Q)
  (FF:∀e s,Q e s->((e=.ret\/e=.nrm)/\s.d=[]/\∃w,k5 P (dh fn) fn s.Γ s.h=some w/\R (.ret w s.h))\/∃v,e=.bk v/\s.d=[]/\R (.bk v s.h)):R (e_ P intr (n+1) (.fn f) args h):=by
 obtain⟨e,s,r,q⟩:=ao
 obtain⟨Γ,d,adi,an⟩:=s
 rcases FF e _ q with⟨he,aq,w,hw,ai⟩|⟨v,rfl,aq,ai⟩
 · simp only at aq hw ai
   subst aq
   rw[eg hf ag af hle r he hw];exact ai
 · simp only at aq ai
   subst aq
   rw[Uv hf ag af hle r];exact ai
end
end ay
namespace ay
set_option maxRecDepth 100000
open Go
def ca(B:Nat)(h:aa)(v:J)(x:ax):Prop:=∃an,x=.ret v an/\Ext B h an
theorem ca.mk{B:Nat}{h an:aa}{v:J}(e:Ext B h an):ca B h v (.ret v an):=⟨an,rfl,e⟩
theorem ca.of{B:Nat}{h an:aa}{v w:J}(aH:v=w)(e:Ext B h an):ca B h v (.ret w an):=⟨an,by rw[aH],e⟩
theorem fb{a b:Bool}(h:a=b):J.bool a=J.bool b:=by rw[h]
theorem hJ{B b i:Nat}{h x:aa}(e:Ext B h x)(ag:b<B){v:J}(aw:aA h b i=some v):aA x b i=some v:=by
 unfold aA at aw⊢
 rw[e.get b ag];exact aw
theorem BX{h:aa}{b i:Nat}{cs:List J}{e aW up:Nat}{k:eZ}{v:J}(ao:h.get b=some (.cells cs e k aW up))(aJ:cs[i]? =some v):aA h b i=some v:=by
 have key:∀(l:List J) (j:Nat),nth j l=l[j]? :=by
  intro l
  induction l with
  |nil=>intro j;cases j<;>rfl
  |cons a l bp=>intro j;cases j with
   |zero=>rfl
   |succ j=>exact bp j
 exact aB ao (by rw[key];exact aJ)
theorem UP{h an:aa}{b off:Nat}{xs:List J}(e:ay.storeCells h b off xs=some an){d:Nat}(aq:d≠b):an.get d=h.get d:=by
 unfold ay.storeCells at e
 repeat' split at e
 all_goals first
  |(cases e;done)
  |(cases e;rw[aa.bH,if_neg aq])
  |(simp at e;done)
theorem UQ{h an:aa}{e bytes size need fz:Nat}{z v:J}{cs:List J}(ao:kY h e bytes size need z cs fz=some (v,an)){d:Nat}(aq:d<h.n):an.get d=h.get d:=by
 unfold kY at ao
 split at ao
 · cases ao;rw[aa.eD,if_neg (by omega)]
 · cases ao
theorem UR{P:Program}{h an:aa}{sT:TypeId}{xT:Option TypeId}{s x v:J}(e:gl P h sT xT s x=some (v,an)){d:Nat}(aq:d<h.n)(hs:∀o l c,s≠ .slice d o l c):an.get d=h.get d:=by
 have k6:∀(h0:aa) (e b s n:Nat) (z:J) (cs:List J) (fz:Nat) (v:J) (ab:aa),kY h0 e b s n z cs fz=some (v,ab)->∀d,d<h0.n->ab.get d=h0.get d:=λh0 e b s n z cs fz v ab ao d aq=>UQ ao aq
 unfold gl at e
 generalize kY=G at e k6
 repeat' split at e
 all_goals first
  |exact k6 _ _ _ _ _ _ _ _ _ _ e d aq
  |(refine(k6 _ _ _ _ _ _ _ _ _ _ e d (by simpa using aq)).trans ?_;rw[aa.bH,if_neg (λag=>hs _ _ _ (by rw[ag]))])
  |(cases e;done)
  |(cases e;rfl)
  |(cases e;rename_i cr;exact UP cr (λag=>hs _ _ _ (by rw[ag])))
  |(simp at e;done)
def US(e:Nat)(o:Option b3):Prop:=∀cs aW up,o≠some (.cells cs e .aM aW up)
structure mI(e b B:Nat)(h an:aa):Prop where
 x:cz b B h an
 k:∀d,d<h.n->d≠b->US e (h.get d)->an.get d=h.get d
theorem mI.refl(e b B:Nat)(h:aa):mI e b B h h:=⟨cz.refl _ _ _,λ_ _ _ _=>rfl⟩
theorem mI.trans{e b B:Nat}{h ab ae:aa}(w:mI e b B h ab)(w':mI e b B ab ae):mI e b B h ae:=
 ⟨w.x.trans (Nat.le_refl _) w'.x,λd aq ag aJ=>(w'.k d (Nat.lt_of_lt_of_le aq w.x.n) ag (by rw[w.k d aq ag aJ];exact aJ)).trans (w.k d aq ag aJ)⟩
theorem mI.ext{e b B:Nat}{h ab:aa}(x:Ext h.n h ab)(bN:B<=h.n):mI e b B h ab:=⟨(x.le bN).jo b,λd aq _ _=>x.get d aq⟩
end ay
