/-
  PROVED HERE: contracts of functions (Sxb). No condition beside each statement's own.
-/
import Derived.Test.YtfooahfebojldaaGreatDoorSxa
set_option linter.unusedVariables false
set_option linter.unusedSimpArgs false
namespace aD
open Go
section
variable {D:Type}
def fS(enc:D->List I)(bm:List D):List I:=bm.flatMap enc
theorem Du{A:Type}{enc:D->List A}{w:Nat}(hw:∀d,(enc d).length=w):∀(bm:List D) (j:Nat),(bm.flatMap enc)[j]? =if j<bm.length*w then(bm[j/w]?).bind (λd=>(enc d)[j %w]?) else none
 |[],j=>by simp
 |d::bm,j=>by
  rw[List.flatMap_cons,List.getElem?_append,hw]
  by_cases h:j<w
  · have aa:j/w=0:=Nat.div_eq_of_lt h
    have ad:j %w=j:=Nat.mod_eq_of_lt h
    rw[if_pos h,if_pos (by rw[List.length_cons,Nat.add_mul];omega),aa,ad];rfl
  · have QR:0<w\/w=0:=by omega
    rcases QR with h0|h0
    · obtain⟨k,rfl⟩:∃k,j=k+w:=⟨j-w,by omega⟩
      rw[if_neg h,Nat.add_sub_cancel,Du hw bm k,Nat.add_div_right k h0,Nat.add_mod_right]
      have:(k<bm.length*w)=(k+w<(d::bm).length*w):=by rw[List.length_cons,Nat.add_mul];apply propext;omega
      simp only[this];rfl
    · subst h0
      rw[if_neg h,Du hw bm (j-0)]
      simp
theorem Dv{enc:D->List I}{w:Nat}(hw:∀d,(enc d).length=w):∀bm:List D,(fS enc bm).length=bm.length*w
 |[]=>by simp[fS]
 |d::bm=>by
  have:=Dv hw bm
  unfold fS at this⊢
  rw[List.flatMap_cons,List.length_append,hw,this,List.length_cons,Nat.add_mul];omega
theorem IY(enc:D->List I)(l m:List D):fS enc (l++m)=fS enc l++fS enc m:=by simp[fS]
theorem IZ(enc:D->List I)(d:D)(m:List D):fS enc (d::m)=enc d++fS enc m:=rfl
theorem QS{bm:List D}{i:Nat}(ae:i<bm.length):bm=bm.take i++bm[i]::bm.drop (i+1):=by
 rw[<-List.drop_eq_getElem_cons ae,List.take_append_drop]
section
variable {enc:D->List I} {w:Nat}
theorem I0(hw:∀d,(enc d).length=w){h:J}{b el bf up off:Nat}{k:eC}{bm:List D}{rest:List I}(aj:h.get b=some (.cells (fS enc bm++rest) el k bf up)){i:Nat}(ae:i<bm.length)(bd:off=i*w):
  aD.loadCells h b off w=some (enc bm[i]):=by
 have e:fS enc bm++rest=fS enc (bm.take i)++(enc bm[i]++(fS enc (bm.drop (i+1))++rest)):=by
  conv=>lhs;rw[QS ae]
  simp only[IY,IZ,List.append_assoc,List.cons_append]
 have au:(fS enc (bm.take i)).length=off:=by rw[Dv hw,List.length_take,bd,Nat.min_eq_left (by omega)]
 simp only[aD.loadCells,aj,e]
 rw[<-au,IP]
 exact QL _ _ _ (hw _)
theorem z4(ah:∀d,(enc d).all I.bY=true):∀bm:List D,(fS enc bm).all I.bY=true
 |[]=>rfl
 |d::bm=>by rw[IZ,List.all_append,ah,z4 ah bm];rfl
end
end
end aD
namespace aD
open Go
structure uA{D:Type}(P:Program)(enc:D->List I)(w:Nat)(el sT:TypeId):Prop where
 hu:P.underlying sT=some (.slice el)
 gQ:oj P (some sT)=true
 info:∃i,P.info? el=some i/\i.size=w/\i.bytes<=1000
 zero:∃z,ew P el=some z/\z.cells.length=w
 size:dt P el=some w
 len:∀d,(enc d).length=w
 cell:∀d,(enc d).all I.bY=true
 pos:0<w
section
variable {D:Type} {P:Program} {enc:D->List I} {w:Nat} {el sT:TypeId}
def nd(enc:D->List I)(w:Nat)(el:TypeId)(B:Nat)(h:J)(v:I)(bm:List D):Prop:=
 (v=.a_/\bm=[])\/∃p,v=.slice p 0 bm.length (.aY w)/\0<bm.length/\h.get p=some (.cells (fS enc bm) el .aY 0 0)/\B<=p/\p<h.n
theorem nd.mono{B lJ:Nat}{h al:J}{v:I}{bm:List D}(bd:nd enc w el B h v bm)(e:Ext lJ h al)(bO:h.n<=lJ):nd enc w el B al v bm:=by
 rcases bd with bd|⟨p,aa,ad,ax,aO,bZ⟩
 · exact .inl bd
 · exact .inr ⟨p,aa,ad,(e.get p (by omega)).trans ax,aO,Nat.lt_of_lt_of_le bZ e.n⟩
theorem nd.sound{B:Nat}{h:J}{v:I}{bm:List D}(bd:nd enc w el B h v bm):I.sound v=true:=by
 rcases bd with⟨rfl,_⟩|⟨p,rfl,_⟩<;>rfl
theorem nd.load(T:uA P enc w el sT){B p n:Nat}{c:b5}{h:J}{bm:List D}(bd:nd enc w el B h (.slice p 0 n c) bm):n=bm.length/\p<h.n/\∀i (ae:i<bm.length),aD.loadCells h p (0+i*w) w=some (enc bm[i]):=by
 rcases bd with⟨h,_⟩|⟨q,e,ad,ax,aO,bZ⟩
 · cases h
 · cases e
   exact⟨rfl,bZ,λi ae=>I0 (off:=0+i*w) (rest:=[]) T.len (by rw[List.append_nil];exact ax) ae (by omega)⟩
theorem QT(T:uA P enc w el sT){h:J}{src:I}{es:List D}(hs:iK h w src=some (es.length,fS enc es))(h0:0<es.length)(au:es.length<=1000000):gZ P h sT (some sT) .a_ src=some (.slice h.n 0 es.length (.aY w),h.push (.cells (fS enc es) el .aY 0 0)):=by
 obtain⟨i,ae,bL,m8⟩:=T.info
 obtain⟨z,a4,iA⟩:=T.zero
 obtain⟨k,aw⟩:∃k,es.length=k+1:=⟨es.length-1,by omega⟩
 have ha:ln (k+1) i.bytes=true:=by
  unfold ln
  have aa:(4*(k+1)+2048)*(i.bytes+1)<=5000000*1001:=Nat.mul_le_mul (by omega) (by omega)
  simp;omega
 have h7:ks h el i.bytes w (k+1) z (fS enc es) 0=some (.slice h.n 0 (k+1) (.aY w),h.push (.cells (fS enc es) el .aY 0 0)):=
  w4 ha (by rw[iA];simp) (z4 T.cell es)
 rw[aw] at hs⊢
 simp only[gZ,T.hu,T.gQ,ae,a4,bL,hs,h7]
theorem QU(T:uA P enc w el sT){h:J}{src:I}{p:Nat}{bm es:List D}(aj:h.get p=some (.cells (fS enc bm) el .aY 0 0))(hs:iK h w src=some (es.length,fS enc es))(h0:0<es.length)(au:bm.length+es.length<=1000000):
  gZ P h sT (some sT) (.slice p 0 bm.length (.aY w)) src=some (.slice h.n 0 (bm.length+es.length) (.aY w),(h.set p none).push (.cells (fS enc (bm++es)) el .aY 0 0)):=by
 obtain⟨i,ae,bL,m8⟩:=T.info
 obtain⟨z,a4,iA⟩:=T.zero
 obtain⟨k,aw⟩:∃k,es.length=k+1:=⟨es.length-1,by omega⟩
 have ha:ln (bm.length+(k+1)) i.bytes=true:=by
  unfold ln
  have aa:(4*(bm.length+(k+1))+2048)*(i.bytes+1)<=5000000*1001:=Nat.mul_le_mul (by omega) (by omega)
  simp;omega
 have h7:ks (h.set p none) el i.bytes w (bm.length+(k+1)) z (fS enc bm++fS enc es) (0-0)=some (.slice (h.set p none).n 0 (bm.length+(k+1)) (.aY w),(h.set p none).push (.cells (fS enc bm++fS enc es) el .aY 0 0)):=
  w4 ha (by rw[iA];simp) (by rw[List.all_append,z4 T.cell,z4 T.cell];rfl)
 have eJ:(Nat.beq w w&&Nat.blt 0 w)=true:=by
  have:=T.pos
  simp[Nat.blt_eq];omega
 have hlen:=Dv T.len bm
 have pQ:Nat.ble (0+(bm.length+(k+1))*w) (fS enc bm).length=false:=by
  cases ab:Nat.ble (0+(bm.length+(k+1))*w) (fS enc bm).length with
  |false=>rfl
  |true=>
   have:=Nat.le_of_ble_eq_true ab
   rw[hlen,Nat.add_mul,Nat.add_mul] at this
   have:=T.pos
   omega
 have j8:(Nat.ble 0 (0+bm.length*w)&&Nat.beq el el)=true:=by simp
 have gD:aD.loadCells h p 0 (bm.length*w)=some (fS enc bm):=by
  have:=zV (h:=h) (xs:=fS enc bm) (rest:=[]) (by rw[List.append_nil];exact aj)
  rwa [hlen] at this
 rw[aw] at hs⊢
 rw[IY]
 simp only[gZ,T.hu,T.gQ,ae,a4,bL,hs,eJ,aj,pQ,j8,gD,h7]
 rfl
end
end aD
namespace aD
open Go
section
variable {P:Program}
end
section
variable {P:Program} {rd:Option Nat} {call:ay->List I->J->an} {fn:Func}
end
end aD
namespace aD
open Go
section
variable {P:Program} {intr:Nat->List I->J->Option (I×J)}
end
end aD
namespace aD
open Go
section
variable {P:Program} {fn:Func} {call:ay->List I->J->an}
def bw(P:Program)(fn:Func)(call:ay->List I->J->an)(p:List Nat)(st:ag)(Q:bF->ag->Prop):Prop:=∃e cj,av P fn none call p st e cj/\Q e cj
def dX(A:ag->Prop)(Q:bF->ag->Prop):bF->ag->Prop
 |.nrm,s=>A s
 |e,s=>Q e s
theorem bw.of{p:List Nat}{st cj:ag}{e:bF}{Q:bF->ag->Prop}(h:av P fn none call p st e cj)(q:Q e cj):bw P fn call p st Q:=⟨e,cj,h,q⟩
theorem bw.mono{p:List Nat}{st:ag}{Q I1:bF->ag->Prop}(h:bw P fn call p st Q)(bq:∀e s,Q e s->I1 e s):bw P fn call p st I1:=by
 obtain⟨e,s,r,q⟩:=h;exact⟨e,s,r,bq e s q⟩
theorem bw.pre{p:List Nat}{st st1:ag}{Q:bF->ag->Prop}(h:bw P fn call p st Q)(hs:cC st.Γ st1.Γ)(aG:st1.d=st.d)(bq:st1.q=st.q)(ak:st1.h=st.h):bw P fn call p st1 Q:=by
 obtain⟨e,s,r,q⟩:=h;exact⟨e,s,ck.pre r hs aG bq ak,q⟩
theorem dH.more{p:List Nat}{n m:Nat}{st cj:ag}{e:bF}(oE:n<=m)(h:dH P fn none call p n st e cj):dH P fn none call p m st e cj:=by
 intro r ai
 obtain⟨bb,aA,cV⟩:=h r ai
 exact⟨bb,Dm oE aA,cV⟩
theorem bw.loop{p:List Nat}{Q:bF->ag->Prop}(hs:zT (sub (fX fn) p)=true)(mq:Nat->ag->Prop)(step:∀k st,mq k st->bw P fn call (p++[0]) st (dX (λs=>∃j,j<k/\mq j s) Q)):∀(k:Nat) (st:ag),k<99999->mq k st->bw P fn call p st Q:=by
 have key:∀(k:Nat) (st:ag),mq k st->∃e cj,dH P fn none call p (k+1) st e cj/\Q e cj:=by
  intro k
  induction k using Nat.strongRecOn with
  |_ k ba=>
   intro st ae
   obtain⟨e,s,r,q⟩:=step k st ae
   have out:∀{e:bF},av P fn none call (p++[0]) st e s->e≠ .nrm->Q e s->∃e cj,dH P fn none call p (k+1) st e cj/\Q e cj:=λr he q=>⟨_,s,.exit r he,q⟩
   cases e with
   |nrm=>
    obtain⟨j,aL,qZ⟩:=q
    obtain⟨aC,s2,a3,aN⟩:=ba j aL s qZ
    refine⟨aC,s2,?_,aN⟩
    have:dH P fn none call p (j+1+1) st aC s2:=.step r a3
    exact dH.more (by omega) this
   |exit j=>exact out r (by simp) q
   |ret=>exact out r (by simp) q
   |b9 v=>exact out r (by simp) q
   |_=>exact out r (by simp) q
 intro k st aw ae
 obtain⟨e,s,r,q⟩:=key k st ae
 exact⟨e,s,dH.run hs r (by omega),q⟩
variable {intr:Nat->List I->J->Option (I×J)}
theorem I2{f n:Nat}{args:List I}{h:J}{R:an->Prop}(hf:P.funcs[f]? =some fn)(af:fn.body.isSome=true)(ae:intr f args h=none)(hle:Nat.ble args.length fn.ntmps=true)
  {Q:bF->ag->Prop}(aj:bw P fn (fD P intr n) [] ⟨nQ 0 args,[],.none,h⟩ Q)
  (QV:∀e s,Q e s->((e=.ret\/e=.nrm)/\s.d=[]/\∃w,na P (d_ fn) fn s.Γ s.h=some w/\R (.ret w s.h))\/∃v,e=.b9 v/\s.d=[]/\R (.b9 v s.h)):R (fD P intr (n+1) (.fn f) args h):=by
 obtain⟨e,s,r,q⟩:=aj
 obtain⟨Γ,d,aao,al⟩:=s
 rcases QV e _ q with⟨he,aG,w,hw,ai⟩|⟨v,rfl,aG,ai⟩
 · simp only at aG hw ai
   subst aG
   rw[dJ hf af ae hle r he hw];exact ai
 · simp only at aG ai
   subst aG
   rw[QE hf af ae hle r];exact ai
end
end aD
namespace aD
set_option maxRecDepth 100000
open Go
def bK(B:Nat)(h:J)(v:I)(x:an):Prop:=∃al,x=.ret v al/\Ext B h al
theorem bK.mk{B:Nat}{h al:J}{v:I}(e:Ext B h al):bK B h v (.ret v al):=⟨al,rfl,e⟩
theorem bK.of{B:Nat}{h al:J}{v w:I}(aE:v=w)(e:Ext B h al):bK B h v (.ret w al):=⟨al,by rw[aE],e⟩
theorem dK{a b:Bool}(h:a=b):I.bool a=I.bool b:=by rw[h]
theorem gE{B b i:Nat}{h x:J}(e:Ext B h x)(af:b<B){v:I}(au:aq h b i=some v):aq x b i=some v:=by
 unfold aq at au⊢
 rw[e.get b af];exact au
theorem Dw{h:J}{b i:Nat}{cs:List I}{e bf up:Nat}{k:eC}{v:I}(aj:h.get b=some (.cells cs e k bf up))(aK:cs[i]? =some v):aq h b i=some v:=by
 have key:∀(l:List I) (j:Nat),nth j l=l[j]? :=by
  intro l
  induction l with
  |nil=>intro j;cases j<;>rfl
  |cons a l ba=>intro j;cases j with
   |zero=>rfl
   |succ j=>exact ba j
 exact aH aj (by rw[key];exact aK)
theorem QW{h al:J}{b off:Nat}{xs:List I}(e:aD.storeCells h b off xs=some al){d:Nat}(aG:d≠b):al.get d=h.get d:=by
 unfold aD.storeCells at e
 repeat' split at e
 all_goals first
  |(cases e;done)
  |(cases e;rw[J.b_,if_neg aG])
  |(simp at e;done)
theorem QX{h al:J}{e bytes size need fz:Nat}{z v:I}{cs:List I}(aj:ks h e bytes size need z cs fz=some (v,al)){d:Nat}(aG:d<h.n):al.get d=h.get d:=by
 unfold ks at aj
 split at aj
 · cases aj;rw[J.eA,if_neg (by omega)]
 · cases aj
theorem QY{P:Program}{h al:J}{sT:TypeId}{xT:Option TypeId}{s x v:I}(e:gZ P h sT xT s x=some (v,al)){d:Nat}(aG:d<h.n)(hs:∀o l c,s≠ .slice d o l c):al.get d=h.get d:=by
 have h7:∀(h0:J) (e b s n:Nat) (z:I) (cs:List I) (fz:Nat) (v:I) (aa:J),ks h0 e b s n z cs fz=some (v,aa)->∀d,d<h0.n->aa.get d=h0.get d:=λh0 e b s n z cs fz v aa aj d aG=>QX aj aG
 unfold gZ at e
 generalize ks=G at e h7
 repeat' split at e
 all_goals first
  |exact h7 _ _ _ _ _ _ _ _ _ _ e d aG
  |(refine(h7 _ _ _ _ _ _ _ _ _ _ e d (by simpa using aG)).trans ?_;rw[J.b_,if_neg (λaf=>hs _ _ _ (by rw[af]))])
  |(cases e;done)
  |(cases e;rfl)
  |(cases e;rename_i ct;exact QW ct (λaf=>hs _ _ _ (by rw[af])))
  |(simp at e;done)
def QZ(e:Nat)(o:Option cx):Prop:=∀cs bf up,o≠some (.cells cs e .aY bf up)
structure mr(e b B:Nat)(h al:J):Prop where
 x:fa b B h al
 k:∀d,d<h.n->d≠b->QZ e (h.get d)->al.get d=h.get d
theorem mr.refl(e b B:Nat)(h:J):mr e b B h h:=⟨fa.refl _ _ _,λ_ _ _ _=>rfl⟩
theorem mr.trans{e b B:Nat}{h aa ad:J}(w:mr e b B h aa)(w':mr e b B aa ad):mr e b B h ad:=
 ⟨w.x.trans (Nat.le_refl _) w'.x,λd aG af aK=>(w'.k d (Nat.lt_of_lt_of_le aG w.x.n) af (by rw[w.k d aG af aK];exact aK)).trans (w.k d aG af aK)⟩
theorem mr.ext{e b B:Nat}{h aa:J}(x:Ext h.n h aa)(bO:B<=h.n):mr e b B h aa:=⟨(x.le bO).pR b,λd aG _ _=>x.get d aG⟩
end aD
