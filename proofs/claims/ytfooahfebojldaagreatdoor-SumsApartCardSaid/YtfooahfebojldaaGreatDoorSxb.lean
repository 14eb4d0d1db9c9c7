/-
  PROVED HERE: contracts of functions (Sxb). No condition beside each statement's own.
-/
import Derived.Test.YtfooahfebojldaaGreatDoorSxa
set_option linter.unusedVariables false
set_option linter.unusedSimpArgs false
namespace aw
open Go
section
variable {D:Type}
def eJ(enc:D->List I)(aS:List D):List I:=aS.flatMap enc
theorem y9{A:Type}{enc:D->List A}{w:Nat}(hw:∀d,(enc d).length=w):∀(aS:List D) (j:Nat),(aS.flatMap enc)[j]? =if j<aS.length*w then(aS[j/w]?).bind (λd=>(enc d)[j %w]?) else none
 |[],j=>by simp
 |d::aS,j=>by
  rw[List.flatMap_cons,List.getElem?_append,hw]
  by_cases h:j<w
  · have aa:j/w=0:=Nat.div_eq_of_lt h
    have ad:j %w=j:=Nat.mod_eq_of_lt h
    rw[if_pos h,if_pos (by rw[List.length_cons,Nat.add_mul];omega),aa,ad];rfl
  · have Ps:0<w\/w=0:=by omega
    rcases Ps with h0|h0
    · obtain⟨k,rfl⟩:∃k,j=k+w:=⟨j-w,by omega⟩
      rw[if_neg h,Nat.add_sub_cancel,y9 hw aS k,Nat.add_div_right k h0,Nat.add_mod_right]
      have:(k<aS.length*w)=(k+w<(d::aS).length*w):=by rw[List.length_cons,Nat.add_mul];apply propext;omega
      simp only[this];rfl
    · subst h0
      rw[if_neg h,y9 hw aS (j-0)]
      simp
theorem Co{enc:D->List I}{w:Nat}(hw:∀d,(enc d).length=w):∀aS:List D,(eJ enc aS).length=aS.length*w
 |[]=>by simp[eJ]
 |d::aS=>by
  have:=Co hw aS
  unfold eJ at this⊢
  rw[List.flatMap_cons,List.length_append,hw,this,List.length_cons,Nat.add_mul];omega
theorem Hw(enc:D->List I)(l m:List D):eJ enc (l++m)=eJ enc l++eJ enc m:=by simp[eJ]
theorem Hx(enc:D->List I)(d:D)(m:List D):eJ enc (d::m)=enc d++eJ enc m:=rfl
theorem Pt{aS:List D}{i:Nat}(ae:i<aS.length):aS=aS.take i++aS[i]::aS.drop (i+1):=by
 rw[<-List.drop_eq_getElem_cons ae,List.take_append_drop]
section
variable {enc:D->List I} {w:Nat}
theorem Cp(hw:∀d,(enc d).length=w){h:J}{b el a9 up off:Nat}{k:fB}{aS:List D}{rest:List I}(aj:h.get b=some (.cells (eJ enc aS++rest) el k a9 up)){i:Nat}(ae:i<aS.length)(a2:off=i*w):
  aw.loadCells h b off w=some (enc aS[i]):=by
 have e:eJ enc aS++rest=eJ enc (aS.take i)++(enc aS[i]++(eJ enc (aS.drop (i+1))++rest)):=by
  conv=>lhs;rw[Pt ae]
  simp only[Hw,Hx,List.append_assoc,List.cons_append]
 have an:(eJ enc (aS.take i)).length=off:=by rw[Co hw,List.length_take,a2,Nat.min_eq_left (by omega)]
 simp only[aw.loadCells,aj,e]
 rw[<-an,Hq]
 exact Pl _ _ _ (hw _)
theorem y_(ag:∀d,(enc d).all I.bC=true):∀aS:List D,(eJ enc aS).all I.bC=true
 |[]=>rfl
 |d::aS=>by rw[Hx,List.all_append,ag,y_ ag aS];rfl
end
end
end aw
namespace aw
open Go
structure se{D:Type}(P:Program)(enc:D->List I)(w:Nat)(el sT:TypeId):Prop where
 hu:P.underlying sT=some (.slice el)
 fM:ny P (some sT)=true
 info:∃i,P.info? el=some i/\i.size=w/\i.bytes<=1000
 zero:∃z,dN P el=some z/\z.cells.length=w
 size:cV P el=some w
 len:∀d,(enc d).length=w
 cell:∀d,(enc d).all I.bC=true
 pos:0<w
section
variable {D:Type} {P:Program} {enc:D->List I} {w:Nat} {el sT:TypeId}
def jH(enc:D->List I)(w:Nat)(el:TypeId)(B:Nat)(h:J)(v:I)(aS:List D):Prop:=
 (v=.a0/\aS=[])\/∃p,v=.slice p 0 aS.length (.aN w)/\0<aS.length/\h.get p=some (.cells (eJ enc aS) el .aN 0 0)/\B<=p/\p<h.n
theorem jH.mono{B kN:Nat}{h ak:J}{v:I}{aS:List D}(a2:jH enc w el B h v aS)(e:Ext kN h ak)(bM:h.n<=kN):jH enc w el B ak v aS:=by
 rcases a2 with a2|⟨p,aa,ad,ar,aM,bS⟩
 · exact .inl a2
 · exact .inr ⟨p,aa,ad,(e.get p (by omega)).trans ar,aM,Nat.lt_of_lt_of_le bS e.n⟩
theorem jH.sound{B:Nat}{h:J}{v:I}{aS:List D}(a2:jH enc w el B h v aS):I.sound v=true:=by
 rcases a2 with⟨rfl,_⟩|⟨p,rfl,_⟩<;>rfl
theorem jH.load(T:se P enc w el sT){B p n:Nat}{c:cf}{h:J}{aS:List D}(a2:jH enc w el B h (.slice p 0 n c) aS):n=aS.length/\p<h.n/\∀i (ae:i<aS.length),aw.loadCells h p (0+i*w) w=some (enc aS[i]):=by
 rcases a2 with⟨h,_⟩|⟨q,e,ad,ar,aM,bS⟩
 · cases h
 · cases e
   exact⟨rfl,bS,λi ae=>Cp (off:=0+i*w) (rest:=[]) T.len (by rw[List.append_nil];exact ar) ae (by omega)⟩
theorem Pu(T:se P enc w el sT){h:J}{src:I}{es:List D}(hs:ho h w src=some (es.length,eJ enc es))(h0:0<es.length)(an:es.length<=1000000):fW P h sT (some sT) .a0 src=some (.slice h.n 0 es.length (.aN w),h.push (.cells (eJ enc es) el .aN 0 0)):=by
 obtain⟨i,ae,br,l9⟩:=T.info
 obtain⟨z,aT,hO⟩:=T.zero
 obtain⟨k,aq⟩:∃k,es.length=k+1:=⟨es.length-1,by omega⟩
 have gn:ks (k+1) i.bytes=true:=by
  unfold ks
  have aa:(4*(k+1)+2048)*(i.bytes+1)<=5000000*1001:=Nat.mul_le_mul (by omega) (by omega)
  simp;omega
 have jI:jz h el i.bytes w (k+1) z (eJ enc es) 0=some (.slice h.n 0 (k+1) (.aN w),h.push (.cells (eJ enc es) el .aN 0 0)):=
  wj gn (by rw[hO];simp) (y_ T.cell es)
 rw[aq] at hs⊢
 simp only[fW,T.hu,T.fM,ae,aT,br,hs,jI]
theorem Pv(T:se P enc w el sT){h:J}{src:I}{p:Nat}{aS es:List D}(aj:h.get p=some (.cells (eJ enc aS) el .aN 0 0))(hs:ho h w src=some (es.length,eJ enc es))(h0:0<es.length)(an:aS.length+es.length<=1000000):
  fW P h sT (some sT) (.slice p 0 aS.length (.aN w)) src=some (.slice h.n 0 (aS.length+es.length) (.aN w),(h.set p none).push (.cells (eJ enc (aS++es)) el .aN 0 0)):=by
 obtain⟨i,ae,br,l9⟩:=T.info
 obtain⟨z,aT,hO⟩:=T.zero
 obtain⟨k,aq⟩:∃k,es.length=k+1:=⟨es.length-1,by omega⟩
 have gn:ks (aS.length+(k+1)) i.bytes=true:=by
  unfold ks
  have aa:(4*(aS.length+(k+1))+2048)*(i.bytes+1)<=5000000*1001:=Nat.mul_le_mul (by omega) (by omega)
  simp;omega
 have jI:jz (h.set p none) el i.bytes w (aS.length+(k+1)) z (eJ enc aS++eJ enc es) (0-0)=some (.slice (h.set p none).n 0 (aS.length+(k+1)) (.aN w),(h.set p none).push (.cells (eJ enc aS++eJ enc es) el .aN 0 0)):=
  wj gn (by rw[hO];simp) (by rw[List.all_append,y_ T.cell,y_ T.cell];rfl)
 have jq:(Nat.beq w w&&Nat.blt 0 w)=true:=by
  have:=T.pos
  simp[Nat.blt_eq];omega
 have hlen:=Co T.len aS
 have o7:Nat.ble (0+(aS.length+(k+1))*w) (eJ enc aS).length=false:=by
  cases ab:Nat.ble (0+(aS.length+(k+1))*w) (eJ enc aS).length with
  |false=>rfl
  |true=>
   have:=Nat.le_of_ble_eq_true ab
   rw[hlen,Nat.add_mul,Nat.add_mul] at this
   have:=T.pos
   omega
 have jl:(Nat.ble 0 (0+aS.length*w)&&Nat.beq el el)=true:=by simp
 have gj:aw.loadCells h p 0 (aS.length*w)=some (eJ enc aS):=by
  have:=y1 (h:=h) (xs:=eJ enc aS) (rest:=[]) (by rw[List.append_nil];exact aj)
  rwa [hlen] at this
 rw[aq] at hs⊢
 rw[Hw]
 simp only[fW,T.hu,T.fM,ae,aT,br,hs,jq,aj,o7,jl,gj,jI]
 rfl
end
end aw
namespace aw
open Go
section
variable {P:Program}
end
section
variable {P:Program} {rd:Option Nat} {call:aP->List I->J->av} {fn:Func}
end
end aw
namespace aw
open Go
section
variable {P:Program} {intr:Nat->List I->J->Option (I×J)}
end
end aw
namespace aw
open Go
section
variable {P:Program} {fn:Func} {call:aP->List I->J->av}
def bm(P:Program)(fn:Func)(call:aP->List I->J->av)(p:List Nat)(st:ao)(Q:bu->ao->Prop):Prop:=∃e bX,aV P fn none call p st e bX/\Q e bX
def dn(A:ao->Prop)(Q:bu->ao->Prop):bu->ao->Prop
 |.nrm,s=>A s
 |e,s=>Q e s
theorem bm.of{p:List Nat}{st bX:ao}{e:bu}{Q:bu->ao->Prop}(h:aV P fn none call p st e bX)(q:Q e bX):bm P fn call p st Q:=⟨e,bX,h,q⟩
theorem bm.mono{p:List Nat}{st:ao}{Q Hy:bu->ao->Prop}(h:bm P fn call p st Q)(bh:∀e s,Q e s->Hy e s):bm P fn call p st Hy:=by
 obtain⟨e,s,r,q⟩:=h;exact⟨e,s,r,bh e s q⟩
theorem bm.pre{p:List Nat}{st st1:ao}{Q:bu->ao->Prop}(h:bm P fn call p st Q)(hs:cl st.Γ st1.Γ)(az:st1.d=st.d)(bh:st1.q=st.q)(ah:st1.h=st.h):bm P fn call p st1 Q:=by
 obtain⟨e,s,r,q⟩:=h;exact⟨e,s,cW.pre r hs az bh ah,q⟩
theorem fw.more{p:List Nat}{n m:Nat}{st bX:ao}{e:bu}(vq:n<=m)(h:fw P fn none call p n st e bX):fw P fn none call p m st e bX:=by
 intro r ai
 obtain⟨r1,aC,cm⟩:=h r ai
 exact⟨r1,Ce vq aC,cm⟩
theorem bm.loop{p:List Nat}{Q:bu->ao->Prop}(hs:yZ (sub (fm fn) p)=true)(lq:Nat->ao->Prop)(step:∀k st,lq k st->bm P fn call (p++[0]) st (dn (λs=>∃j,j<k/\lq j s) Q)):∀(k:Nat) (st:ao),k<99999->lq k st->bm P fn call p st Q:=by
 have key:∀(k:Nat) (st:ao),lq k st->∃e bX,fw P fn none call p (k+1) st e bX/\Q e bX:=by
  intro k
  induction k using Nat.strongRecOn with
  |_ k bg=>
   intro st ae
   obtain⟨e,s,r,q⟩:=step k st ae
   have out:∀{e:bu},aV P fn none call (p++[0]) st e s->e≠ .nrm->Q e s->∃e bX,fw P fn none call p (k+1) st e bX/\Q e bX:=λr he q=>⟨_,s,.exit r he,q⟩
   cases e with
   |nrm=>
    obtain⟨j,aD,qo⟩:=q
    obtain⟨ax,s2,r2,a3⟩:=bg j aD s qo
    refine⟨ax,s2,?_,a3⟩
    have:fw P fn none call p (j+1+1) st ax s2:=.step r r2
    exact fw.more (by omega) this
   |exit j=>exact out r (by simp) q
   |ret=>exact out r (by simp) q
   |bK v=>exact out r (by simp) q
   |_=>exact out r (by simp) q
 intro k st aq ae
 obtain⟨e,s,r,q⟩:=key k st ae
 exact⟨e,s,fw.run hs r (by omega),q⟩
variable {intr:Nat->List I->J->Option (I×J)}
theorem Hz{f n:Nat}{args:List I}{h:J}{R:av->Prop}(hf:P.funcs[f]? =some fn)(af:fn.body.isSome=true)(ae:intr f args h=none)(hle:Nat.ble args.length fn.ntmps=true)
  {Q:bu->ao->Prop}(aj:bm P fn (e4 P intr n) [] ⟨m0 0 args,[],.none,h⟩ Q)
  (Pw:∀e s,Q e s->((e=.ret\/e=.nrm)/\s.d=[]/\∃w,m1 P (dx fn) fn s.Γ s.h=some w/\R (.ret w s.h))\/∃v,e=.bK v/\s.d=[]/\R (.bK v s.h)):R (e4 P intr (n+1) (.fn f) args h):=by
 obtain⟨e,s,r,q⟩:=aj
 obtain⟨Γ,d,XH,ak⟩:=s
 rcases Pw e _ q with⟨he,az,w,hw,ai⟩|⟨v,rfl,az,ai⟩
 · simp only at az hw ai
   subst az
   rw[eY hf af ae hle r he hw];exact ai
 · simp only at az ai
   subst az
   rw[Pc hf af ae hle r];exact ai
end
end aw
namespace aw
set_option maxRecDepth 100000
open Go
def bD(B:Nat)(h:J)(v:I)(x:av):Prop:=∃ak,x=.ret v ak/\Ext B h ak
theorem bD.mk{B:Nat}{h ak:J}{v:I}(e:Ext B h ak):bD B h v (.ret v ak):=⟨ak,rfl,e⟩
theorem bD.of{B:Nat}{h ak:J}{v w:I}(aB:v=w)(e:Ext B h ak):bD B h v (.ret w ak):=⟨ak,by rw[aB],e⟩
theorem dM{a b:Bool}(h:a=b):I.bool a=I.bool b:=by rw[h]
theorem gv{B b i:Nat}{h x:J}(e:Ext B h x)(af:b<B){v:I}(an:ay h b i=some v):ay x b i=some v:=by
 unfold ay at an⊢
 rw[e.get b af];exact an
theorem Cq{h:J}{b i:Nat}{cs:List I}{e a9 up:Nat}{k:fB}{v:I}(aj:h.get b=some (.cells cs e k a9 up))(aG:cs[i]? =some v):ay h b i=some v:=by
 have key:∀(l:List I) (j:Nat),nth j l=l[j]? :=by
  intro l
  induction l with
  |nil=>intro j;cases j<;>rfl
  |cons a l bg=>intro j;cases j with
   |zero=>rfl
   |succ j=>exact bg j
 exact ba aj (by rw[key];exact aG)
theorem Px{h ak:J}{b off:Nat}{xs:List I}(e:aw.storeCells h b off xs=some ak){d:Nat}(az:d≠b):ak.get d=h.get d:=by
 unfold aw.storeCells at e
 repeat' split at e
 all_goals first
  |(cases e;done)
  |(cases e;rw[J.bL,if_neg az])
  |(simp at e;done)
theorem Py{h ak:J}{e bytes size need fz:Nat}{z v:I}{cs:List I}(aj:jz h e bytes size need z cs fz=some (v,ak)){d:Nat}(az:d<h.n):ak.get d=h.get d:=by
 unfold jz at aj
 split at aj
 · cases aj;rw[J.ec,if_neg (by omega)]
 · cases aj
theorem Pz{P:Program}{h ak:J}{sT:TypeId}{xT:Option TypeId}{s x v:I}(e:fW P h sT xT s x=some (v,ak)){d:Nat}(az:d<h.n)(hs:∀o l c,s≠ .slice d o l c):ak.get d=h.get d:=by
 have jI:∀(h0:J) (e b s n:Nat) (z:I) (cs:List I) (fz:Nat) (v:I) (aa:J),jz h0 e b s n z cs fz=some (v,aa)->∀d,d<h0.n->aa.get d=h0.get d:=λh0 e b s n z cs fz v aa aj d az=>Py aj az
 unfold fW at e
 generalize jz=G at e jI
 repeat' split at e
 all_goals first
  |exact jI _ _ _ _ _ _ _ _ _ _ e d az
  |(refine(jI _ _ _ _ _ _ _ _ _ _ e d (by simpa using az)).trans ?_;rw[J.bL,if_neg (λaf=>hs _ _ _ (by rw[af]))])
  |(cases e;done)
  |(cases e;rfl)
  |(cases e;rename_i b5;exact Px b5 (λaf=>hs _ _ _ (by rw[af])))
  |(simp at e;done)
def PA(e:Nat)(o:Option ca):Prop:=∀cs a9 up,o≠some (.cells cs e .aN a9 up)
structure lr(e b B:Nat)(h ak:J):Prop where
 x:ep b B h ak
 k:∀d,d<h.n->d≠b->PA e (h.get d)->ak.get d=h.get d
theorem lr.refl(e b B:Nat)(h:J):lr e b B h h:=⟨ep.refl _ _ _,λ_ _ _ _=>rfl⟩
theorem lr.trans{e b B:Nat}{h aa ad:J}(w:lr e b B h aa)(w':lr e b B aa ad):lr e b B h ad:=
 ⟨w.x.trans (Nat.le_refl _) w'.x,λd az af aG=>(w'.k d (Nat.lt_of_lt_of_le az w.x.n) af (by rw[w.k d az af aG];exact aG)).trans (w.k d az af aG)⟩
theorem lr.ext{e b B:Nat}{h aa:J}(x:Ext h.n h aa)(bM:B<=h.n):lr e b B h aa:=⟨(x.le bM).mb b,λd az _ _=>x.get d az⟩
end aw
