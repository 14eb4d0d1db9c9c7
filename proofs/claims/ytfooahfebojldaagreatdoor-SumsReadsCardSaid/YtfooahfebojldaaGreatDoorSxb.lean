/-
  PROVED HERE: contracts of functions (Sxb). No condition beside each statement's own.
-/
import Derived.Test.YtfooahfebojldaaGreatDoorSxa
set_option linter.unusedVariables false
set_option linter.unusedSimpArgs false
namespace aC
open Go
section
variable {D:Type}
def gD(enc:D->List J)(bd:List D):List J:=bd.flatMap enc
theorem ES{enc:D->List J}{w:Nat}(hw:∀d,(enc d).length=w):∀bd:List D,(gD enc bd).length=bd.length*w
 |[]=>by simp[gD]
 |d::bd=>by
  have:=ES hw bd
  unfold gD at this⊢
  rw[List.flatMap_cons,List.length_append,hw,this,List.length_cons,Nat.add_mul];omega
theorem Kj(enc:D->List J)(l m:List D):gD enc (l++m)=gD enc l++gD enc m:=by simp[gD]
theorem Kk(enc:D->List J)(d:D)(m:List D):gD enc (d::m)=enc d++gD enc m:=rfl
theorem SH{bd:List D}{i:Nat}(hi:i<bd.length):bd=bd.take i++bd[i]::bd.drop (i+1):=by
 rw[<-List.drop_eq_getElem_cons hi,List.take_append_drop]
section
variable {enc:D->List J} {w:Nat}
theorem Kl(hw:∀d,(enc d).length=w){h:aa}{b el lo up off:Nat}{k:eE}{bd:List D}{rest:List J}(au:h.get b=some (.cells (gD enc bd++rest) el k lo up)){i:Nat}(hi:i<bd.length)(a7:off=i*w):
  aC.loadCells h b off w=some (enc bd[i]):=by
 have e:gD enc bd++rest=gD enc (bd.take i)++(enc bd[i]++(gD enc (bd.drop (i+1))++rest)):=by
  conv=>lhs;rw[SH hi]
  simp only[Kj,Kk,List.append_assoc,List.cons_append]
 have aD:(gD enc (bd.take i)).length=off:=by rw[ES hw,List.length_take,a7,Nat.min_eq_left (by omega)]
 simp only[aC.loadCells,au,e]
 rw[<-aD,EO]
 exact Ka _ _ _ (hw _)
theorem Bz(ai:∀d,(enc d).all J.cu=true):∀bd:List D,(gD enc bd).all J.cu=true
 |[]=>rfl
 |d::bd=>by rw[Kk,List.all_append,ai,Bz ai bd];rfl
end
end
end aC
namespace aC
open Go
structure v5{D:Type}(P:Program)(enc:D->List J)(w:Nat)(el sT:TypeId):Prop where
 hu:P.underlying sT=some (.slice el)
 hE:pA P (some sT)=true
 info:∃i,P.info? el=some i/\i.size=w/\i.bytes<=1000
 zero:∃z,fq P el=some z/\z.cells.length=w
 size:dQ P el=some w
 len:∀d,(enc d).length=w
 cell:∀d,(enc d).all J.cu=true
 pos:0<w
section
variable {D:Type} {P:Program} {enc:D->List J} {w:Nat} {el sT:TypeId}
def fj(enc:D->List J)(w:Nat)(el:TypeId)(B:Nat)(h:aa)(v:J)(bd:List D):Prop:=
 (v=.aA/\bd=[])\/∃p,v=.slice p 0 bd.length (.a5 w)/\0<bd.length/\h.get p=some (.cells (gD enc bd) el .a5 0 0)/\B<=p/\p<h.n
theorem fj.ne{B:Nat}{h:aa}{v:J}{bd:List D}(a7:fj enc w el B h v bd){c:Nat}{cs:List J}{xM lo up:Nat}{k:eE}(au:h.get c=some (.cells cs xM k lo up))(ax:k≠ .a5\/xM≠el):∀n aH,v≠ .slice c 0 n aH:=by
 intro n aH e
 rcases a7 with⟨rfl,_⟩|⟨p,rfl,ae,aB,aP,cg⟩
 · cases e
 · cases e
   rw[au] at aB
   cases aB
   rcases ax with h|h<;>exact h rfl
theorem fj.sound{B:Nat}{h:aa}{v:J}{bd:List D}(a7:fj enc w el B h v bd):J.sound v=true:=by
 rcases a7 with⟨rfl,_⟩|⟨p,rfl,_⟩<;>rfl
theorem SI(T:v5 P enc w el sT){h:aa}{src:J}{es:List D}(hs:ha h w src=some (es.length,gD enc es))(az:0<es.length)(aD:es.length<=1000000):gf P h sT (some sT) .aA src=some (.slice h.n 0 es.length (.a5 w),h.push (.cells (gD enc es) el .a5 0 0)):=by
 obtain⟨i,hi,bX,n5⟩:=T.info
 obtain⟨z,bj,jQ⟩:=T.zero
 obtain⟨k,ax⟩:∃k,es.length=k+1:=⟨es.length-1,by omega⟩
 have iU:my (k+1) i.bytes=true:=by
  unfold my
  have ab:(4*(k+1)+2048)*(i.bytes+1)<=5000000*1001:=Nat.mul_le_mul (by omega) (by omega)
  simp;omega
 have kj:lK h el i.bytes w (k+1) z (gD enc es) 0=some (.slice h.n 0 (k+1) (.a5 w),h.push (.cells (gD enc es) el .a5 0 0)):=
  yr iU (by rw[jQ];simp) (Bz T.cell es)
 rw[ax] at hs⊢
 simp only[gf,T.hu,T.hE,hi,bj,bX,hs,kj]
theorem SJ(T:v5 P enc w el sT){h:aa}{src:J}{p:Nat}{bd es:List D}(au:h.get p=some (.cells (gD enc bd) el .a5 0 0))(hs:ha h w src=some (es.length,gD enc es))(az:0<es.length)(aD:bd.length+es.length<=1000000):
  gf P h sT (some sT) (.slice p 0 bd.length (.a5 w)) src=some (.slice h.n 0 (bd.length+es.length) (.a5 w),(h.set p none).push (.cells (gD enc (bd++es)) el .a5 0 0)):=by
 obtain⟨i,hi,bX,n5⟩:=T.info
 obtain⟨z,bj,jQ⟩:=T.zero
 obtain⟨k,ax⟩:∃k,es.length=k+1:=⟨es.length-1,by omega⟩
 have iU:my (bd.length+(k+1)) i.bytes=true:=by
  unfold my
  have ab:(4*(bd.length+(k+1))+2048)*(i.bytes+1)<=5000000*1001:=Nat.mul_le_mul (by omega) (by omega)
  simp;omega
 have kj:lK (h.set p none) el i.bytes w (bd.length+(k+1)) z (gD enc bd++gD enc es) (0-0)=some (.slice (h.set p none).n 0 (bd.length+(k+1)) (.a5 w),(h.set p none).push (.cells (gD enc bd++gD enc es) el .a5 0 0)):=
  yr iU (by rw[jQ];simp) (by rw[List.all_append,Bz T.cell,Bz T.cell];rfl)
 have fg:(Nat.beq w w&&Nat.blt 0 w)=true:=by
  have:=T.pos
  simp[Nat.blt_eq];omega
 have hlen:=ES T.len bd
 have q4:Nat.ble (0+(bd.length+(k+1))*w) (gD enc bd).length=false:=by
  cases ad:Nat.ble (0+(bd.length+(k+1))*w) (gD enc bd).length with
  |false=>rfl
  |true=>
   have:=Nat.le_of_ble_eq_true ad
   rw[hlen,Nat.add_mul,Nat.add_mul] at this
   have:=T.pos
   omega
 have lj:(Nat.ble 0 (0+bd.length*w)&&Nat.beq el el)=true:=by simp
 have iG:aC.loadCells h p 0 (bd.length*w)=some (gD enc bd):=by
  have:=Bs (h:=h) (xs:=gD enc bd) (rest:=[]) (by rw[List.append_nil];exact au)
  rwa [hlen] at this
 rw[ax] at hs⊢
 rw[Kj]
 simp only[gf,T.hu,T.hE,hi,bj,bX,hs,fg,au,q4,lj,iG,kj]
 rfl
end
end aC
namespace aC
open Go
section
variable {P:Program}
end
section
variable {P:Program} {rd:Option Nat} {call:aE->List J->aa->ao} {fn:Func}
end
end aC
namespace aC
open Go
section
variable {P:Program} {intr:Nat->List J->aa->Option (J×aa)}
def v7:bA->Option J
 |.bp v=>some v
 |_=>none
theorem Km{f g n:Nat}{fn eQ:Func}{args gargs:List J}{h ab ae:aa}(hf:P.funcs[f]? =some fn)(ag:fn.body.isSome=true)(hi:intr f args h=none)(hle:Nat.ble args.length fn.ntmps=true)
  {e:bA}{Γ:Env}{q:bH}(fr:aw P fn none (gk P intr n) [] ⟨nr 0 args,[],.none,h⟩ e ⟨Γ,[.call g gargs],q,ab⟩)(he:e=.ret\/e=.nrm\/∃v,e=.bp v)
  (au:P.funcs[g]? =some eQ)(x3:eQ.body.isSome=true)(SK:Nat.ble gargs.length eQ.ntmps=true)
  {aG:bA}{Γ2:Env}{aR:bH}(BA:aw P eQ none (gk P intr n) [] ⟨nr 0 gargs,[],qK (v7 e),ab⟩ aG ⟨Γ2,[],aR,ae⟩)(AS:aG=.ret\/aG=.nrm){w:J}(SL:kE P (dt eQ) eQ Γ2 ae=some w)
  (aS:vl aR (v7 e)=none){v:J}(hv:kE P (dt fn) fn Γ ae=some v):
  gk P intr (n+1) (.fn f) args h=.ret v ae:=by
 obtain⟨c,ai⟩:=Option.isSome_iff_exists.1 ag
 obtain⟨c2,p8⟩:=Option.isSome_iff_exists.1 x3
 have q3:fO fn=c:=by simp[fO,ai]
 have SM:fO eQ=c2:=by simp[fO,p8]
 unfold aw at fr BA
 rw[q3] at fr
 rw[SM] at BA
 simp only[sub] at fr BA
 obtain⟨bq,bx,c9⟩:=fr _ (t_ args)
 obtain⟨a9,bI,jr⟩:=BA _ (t_ gargs)
 have al:=ua c9 hv
 have r6:=ua jr SL
 have aj:Ag P eQ (v7 e) (lh P (gk P intr n) eQ gargs (qK (v7 e)) ab)=some (none,ae):=by
  have hR:lh P (gk P intr n) eQ gargs (qK (v7 e)) ab=.ok aG a9 [] aR ae:=by
   simp only[lh,p8,SK];exact bI
  rw[hR]
  rcases AS with rfl|rfl<;>simp only[Ag,r6,aS]
 simp only[gk,hi,qL,hf,ai,lh,hle,bx]
 rcases he with rfl|rfl|⟨v',rfl⟩<;>(simp only[v7] at aj;simp only[kT,kb,au,aj,al])
end
end aC
namespace aC
open Go
section
variable {P:Program} {fn:Func} {call:aE->List J->aa->ao}
def bz(P:Program)(fn:Func)(call:aE->List J->aa->ao)(p:List Nat)(st:af)(Q:bA->af->Prop):Prop:=∃e b_,aw P fn none call p st e b_/\Q e b_
def eF(A:af->Prop)(Q:bA->af->Prop):bA->af->Prop
 |.nrm,s=>A s
 |e,s=>Q e s
theorem bz.of{p:List Nat}{st b_:af}{e:bA}{Q:bA->af->Prop}(h:aw P fn none call p st e b_)(q:Q e b_):bz P fn call p st Q:=⟨e,b_,h,q⟩
theorem bz.mono{p:List Nat}{st:af}{Q Kn:bA->af->Prop}(h:bz P fn call p st Q)(aS:∀e s,Q e s->Kn e s):bz P fn call p st Kn:=by
 obtain⟨e,s,r,q⟩:=h;exact⟨e,s,r,aS e s q⟩
theorem bz.seq{p:List Nat}{st:af}{Q:bA->af->Prop}(hs:vX (sub (fO fn) p)=true)(h:bz P fn call (p++[0]) st (eF (λs=>bz P fn call (p++[1]) s Q) Q)):bz P fn call p st Q:=by
 obtain⟨e,s,r,q⟩:=h
 cases e with
 |nrm=>obtain⟨aG,s2,a9,aR⟩:=q;exact⟨aG,s2,aw.seq hs r a9,aR⟩
 |exit j=>exact⟨_,s,aw.fW hs r (by simp),q⟩
 |ret=>exact⟨_,s,aw.fW hs r (by simp),q⟩
 |bp v=>exact⟨_,s,aw.fW hs r (by simp),q⟩
 |_=>exact⟨_,s,aw.fW hs r (by simp),q⟩
theorem bz.pre{p:List Nat}{st st1:af}{Q:bA->af->Prop}(h:bz P fn call p st Q)(hs:cN st.Γ st1.Γ)(aj:st1.d=st.d)(aS:st1.q=st.q)(ah:st1.h=st.h):bz P fn call p st1 Q:=by
 obtain⟨e,s,r,q⟩:=h;exact⟨e,s,cD.pre r hs aj aS ah,q⟩
theorem ev.more{p:List Nat}{n m:Nat}{st b_:af}{e:bA}(qQ:n<=m)(h:ev P fn none call p n st e b_):ev P fn none call p m st e b_:=by
 intro r al
 obtain⟨bq,aF,c9⟩:=h r al
 exact⟨bq,EI qQ aF,c9⟩
theorem bz.loop{p:List Nat}{Q:bA->af->Prop}(hs:Bq (sub (fO fn) p)=true)(I:Nat->af->Prop)(step:∀k st,I k st->bz P fn call (p++[0]) st (eF (λs=>∃j,j<k/\I j s) Q)):∀(k:Nat) (st:af),k<99999->I k st->bz P fn call p st Q:=by
 have key:∀(k:Nat) (st:af),I k st->∃e b_,ev P fn none call p (k+1) st e b_/\Q e b_:=by
  intro k
  induction k using Nat.strongRecOn with
  |_ k bt=>
   intro st hi
   obtain⟨e,s,r,q⟩:=step k st hi
   have out:∀{e:bA},aw P fn none call (p++[0]) st e s->e≠ .nrm->Q e s->∃e b_,ev P fn none call p (k+1) st e b_/\Q e b_:=λr he q=>⟨_,s,.exit r he,q⟩
   cases e with
   |nrm=>
    obtain⟨j,aV,yb⟩:=q
    obtain⟨aG,s2,a9,aR⟩:=bt j aV s yb
    refine⟨aG,s2,?_,aR⟩
    have:ev P fn none call p (j+1+1) st aG s2:=.step r a9
    exact ev.more (by omega) this
   |exit j=>exact out r (by simp) q
   |ret=>exact out r (by simp) q
   |bp v=>exact out r (by simp) q
   |_=>exact out r (by simp) q
 intro k st ax hi
 obtain⟨e,s,r,q⟩:=key k st hi
 exact⟨e,s,ev.run hs r (by omega),q⟩
variable {intr:Nat->List J->aa->Option (J×aa)}
theorem ET{f n:Nat}{args:List J}{h:aa}{R:ao->Prop}(hf:P.funcs[f]? =some fn)(ag:fn.body.isSome=true)(hi:intr f args h=none)(hle:Nat.ble args.length fn.ntmps=true)
  {Q:bA->af->Prop}(au:bz P fn (gk P intr n) [] ⟨nr 0 args,[],.none,h⟩ Q)
  (kk:∀e s,Q e s->((e=.ret\/e=.nrm)/\s.d=[]/\∃w,kE P (dt fn) fn s.Γ s.h=some w/\R (.ret w s.h))\/∃v,e=.bp v/\s.d=[]/\R (.bp v s.h)):R (gk P intr (n+1) (.fn f) args h):=by
 obtain⟨e,s,r,q⟩:=au
 obtain⟨Γ,d,acA,an⟩:=s
 rcases kk e _ q with⟨he,aj,w,hw,al⟩|⟨v,rfl,aj,al⟩
 · simp only at aj hw al
   subst aj
   rw[dn hf ag hi hle r he hw];exact al
 · simp only at aj al
   subst aj
   rw[St hf ag hi hle r];exact al
end
end aC
namespace aC
set_option maxRecDepth 100000
open Go
def cc(B:Nat)(h:aa)(v:J)(x:ao):Prop:=∃an,x=.ret v an/\Ext B h an
theorem cc.mk{B:Nat}{h an:aa}{v:J}(e:Ext B h an):cc B h v (.ret v an):=⟨an,rfl,e⟩
theorem cc.of{B:Nat}{h an:aa}{v w:J}(aJ:v=w)(e:Ext B h an):cc B h v (.ret w an):=⟨an,by rw[aJ],e⟩
theorem eZ{a b:Bool}(h:a=b):J.bool a=J.bool b:=by rw[h]
theorem o7{B b i:Nat}{h x:aa}(e:Ext B h x)(ag:b<B){v:J}(aD:av h b i=some v):av x b i=some v:=by
 unfold av at aD⊢
 rw[e.get b ag];exact aD
theorem EU{h:aa}{b i:Nat}{cs:List J}{e lo up:Nat}{k:eE}{v:J}(au:h.get b=some (.cells cs e k lo up))(aM:cs[i]? =some v):av h b i=some v:=by
 have key:∀(l:List J) (j:Nat),nth j l=l[j]? :=by
  intro l
  induction l with
  |nil=>intro j;cases j<;>rfl
  |cons a l bt=>intro j;cases j with
   |zero=>rfl
   |succ j=>exact bt j
 exact ar au (by rw[key];exact aM)
theorem SN{h an:aa}{b off:Nat}{xs:List J}(e:aC.storeCells h b off xs=some an){d:Nat}(aj:d≠b):an.get d=h.get d:=by
 unfold aC.storeCells at e
 repeat' split at e
 all_goals first
  |(cases e;done)
  |(cases e;rw[aa.bV,if_neg aj])
  |(simp at e;done)
theorem SO{h an:aa}{e bytes size need fz:Nat}{z v:J}{cs:List J}(au:lK h e bytes size need z cs fz=some (v,an)){d:Nat}(aj:d<h.n):an.get d=h.get d:=by
 unfold lK at au
 split at au
 · cases au;rw[aa.e6,if_neg (by omega)]
 · cases au
theorem SP{P:Program}{h an:aa}{sT:TypeId}{xT:Option TypeId}{s x v:J}(e:gf P h sT xT s x=some (v,an)){d:Nat}(aj:d<h.n)(hs:∀o l c,s≠ .slice d o l c):an.get d=h.get d:=by
 have kj:∀(az:aa) (e b s n:Nat) (z:J) (cs:List J) (fz:Nat) (v:J) (ab:aa),lK az e b s n z cs fz=some (v,ab)->∀d,d<az.n->ab.get d=az.get d:=λaz e b s n z cs fz v ab au d aj=>SO au aj
 unfold gf at e
 generalize lK=G at e kj
 repeat' split at e
 all_goals first
  |exact kj _ _ _ _ _ _ _ _ _ _ e d aj
  |(refine(kj _ _ _ _ _ _ _ _ _ _ e d (by simpa using aj)).trans ?_;rw[aa.bV,if_neg (λag=>hs _ _ _ (by rw[ag]))])
  |(cases e;done)
  |(cases e;rfl)
  |(cases e;rename_i cL;exact SN cL (λag=>hs _ _ _ (by rw[ag])))
  |(simp at e;done)
def SQ(e:Nat)(o:Option cJ):Prop:=∀cs lo up,o≠some (.cells cs e .a5 lo up)
structure nw(e b B:Nat)(h an:aa):Prop where
 x:di b B h an
 k:∀d,d<h.n->d≠b->SQ e (h.get d)->an.get d=h.get d
theorem nw.refl(e b B:Nat)(h:aa):nw e b B h h:=⟨di.refl _ _ _,λ_ _ _ _=>rfl⟩
theorem nw.trans{e b B:Nat}{h ab ae:aa}(w:nw e b B h ab)(w':nw e b B ab ae):nw e b B h ae:=
 ⟨w.x.trans (Nat.le_refl _) w'.x,λd aj ag aM=>(w'.k d (Nat.lt_of_lt_of_le aj w.x.n) ag (by rw[w.k d aj ag aM];exact aM)).trans (w.k d aj ag aM)⟩
theorem nw.ext{e b B:Nat}{h ab:aa}(x:Ext h.n h ab)(b4:B<=h.n):nw e b B h ab:=⟨(x.le b4).mg b,λd aj _ _=>x.get d aj⟩
end aC
