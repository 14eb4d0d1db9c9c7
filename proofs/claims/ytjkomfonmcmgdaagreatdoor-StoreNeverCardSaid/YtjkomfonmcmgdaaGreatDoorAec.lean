/-
  THE ABSTRACT EVALUATOR (code, functions, rounds, calls): a deterministic semantics of loaded code, and the proof that its runs are runs of the program in the model, whatever the tape draws. No condition.
-/
import Derived.Test.YtjkomfonmcmgdaaGreatDoorAeb
import Derived.Defers
import Derived.Laws.Externs
import Derived.Orders
set_option linter.unusedVariables false
set_option linter.unusedSimpArgs false
namespace aM
open Go
def lM(P:Program)(need:Nat)(ops:Array Oper):List Oper->List (Nat×Acc)->Nat->List Step
 |[],_,_=>[]
 |o::rest,loc,m=>
  match aliasOf o with
  |some (t,x)=>lM P need ops rest ((t,cE P need loc x)::loc) m
  |none=>⟨jr P need ops loc o,o,loc,m⟩::lM P need ops rest (g9 o m loc) (m+1)
def kO(P:Program)(need:Nat)(ops:Array Oper):List Oper->List (Nat×Acc)->Nat->List (Nat×Acc)
 |[],loc,_=>loc
 |o::rest,loc,m=>
  match aliasOf o with
  |some (t,x)=>kO P need ops rest ((t,cE P need loc x)::loc) m
  |none=>kO P need ops rest (g9 o m loc) (m+1)
theorem C9(P:Program)(need:Nat)(ops:Array Oper):∀(l:List Oper) (loc:List (Nat×Acc)) (st:List Step) (m:Nat),uq P need ops l loc st m=⟨st.reverse++lM P need ops l loc m,kO P need ops l loc m⟩
 |[],loc,st,m=>by simp[uq,lM,kO]
 |o::rest,loc,st,m=>by
  unfold uq lM kO
  cases aS:aliasOf o with
  |some p=>obtain⟨t,x⟩:=p;simp only[aS];exact C9 P need ops rest _ st m
  |none=>simp only[aS];rw[C9 P need ops rest];simp
section
variable {P:Program} {need:Nat}
theorem n0(t u:Nat)(a:Acc)(l:List (Nat×Acc)):hX t ((u,a)::l)=if t=u then some a else hX t l:=by
 rw[hX]
 by_cases h:t=u
 · subst h;simp
 · have:Nat.beq t u=false:=by
     cases ae:Nat.beq t u with
     |false=>rfl
     |true=>exact absurd (Nat.eq_of_beq_eq_true ae) h
   rw[this,if_neg h]
def Acc.below(m:Nat):Acc->Prop
 |.env j=>j<m
 |_=>True
theorem QF{m:Nat}{env:List I}{r:aY}{v:I}{a:Acc}(h:a.below m):dt (m+1) (v::env) r a=dt m env r a:=by
 cases a with
 |env j=>
  simp only[Acc.below] at h
  have:m+1-1-j=(m-1-j)+1:=by omega
  simp only[dt,this,nth]
 |reg p=>rfl
 |val v=>rfl
theorem QG{m:Nat}{env:List I}{r:aY}{v:I}:dt (m+1) (v::env) r (.env m)=v:=by
 simp[dt,nth]
def C_(m:Nat)(loc:List (Nat×Acc)):Prop:=∀t a,hX t loc=some a->a.below m
theorem z8{m:Nat}{loc:List (Nat×Acc)}(h:C_ m loc)(x:Operand):(cE P need loc x).below m:=by
 cases x with
 |tmp t=>
  simp only[cE]
  cases hf:hX t loc with
  |some a=>exact h t a hf
  |none=>simp only[];cases Nat.testBit need t<;>trivial
 |const v=>trivial
 |global g=>simp only[cE];cases Nat.blt g P.globals.size<;>trivial
 |func f=>trivial
theorem Acc.Ih{m n:Nat}(h:m<=n){a:Acc}(aS:a.below m):a.below n:=by
 cases a with
 |env j=>exact Nat.lt_of_lt_of_le aS h
 |reg p=>trivial
 |val v=>trivial
structure jd(P:Program)(need:Nat)(μ:bp)(r:aY)(m:Nat)(env:List I)(loc:List (Nat×Acc))(ca:Array Value):Prop where
 uJ:C_ m loc
 rel:∀t,bl μ (dt m env r (cE P need loc (.tmp t))) (ca.getD t undef)
theorem jd.mono{μ aX:bp}{r:aY}{m:Nat}{env:List I}{loc:List (Nat×Acc)}{ca:Array Value}(hle:e2 μ aX)(h:jd P need μ r m env loc ca):jd P need aX r m env loc ca:=⟨h.uJ,λt=>(h.rel t).mono hle⟩
theorem jd.eval{μ:bp}{r:aY}{m:Nat}{env:List I}{loc:List (Nat×Acc)}{a:Act}(h:jd P need μ r m env loc a.tmps)(al:hd P μ)(x:Operand):bl μ (dt m env r (cE P need loc x)) (a.eval x):=by
 cases x with
 |tmp t=>exact h.rel t
 |const v=>exact jY μ v
 |global g=>
  simp only[cE,Act.eval]
  cases ae:Nat.blt g P.globals.size with
  |false=>exact trivial
  |true=>
   obtain⟨i,ab,ad,ar⟩:=al g (by simpa using ae)
   obtain⟨hc,i0,xh⟩:=i
   simp only at ad ar
   subst ad;subst ar
   exact⟨_,ab,rfl⟩
 |func f=>exact⟨[],[],rfl,rfl,rfl⟩
theorem jd.init{μ:bp}{r:aY}{ca:Array Value}(h:ix need μ r ca):jd P need μ r 0 [] [] ca:=
 ⟨λt a h=>by simp[hX] at h,λt=>by
  simp only[cE,hX]
  cases ae:Nat.testBit need t with
  |true=>exact h t ae
  |false=>trivial⟩
theorem xu{ca:Array Value}{d t:Nat}{u:Value}(ao:d<ca.size):(ca.setIfInBounds d u).getD t undef=if t=d then u else ca.getD t undef:=by
 simp only[Array.getD_eq_getD_getElem?,Array.getElem?_setIfInBounds]
 by_cases h:d=t
 · subst h;simp[ao]
 · rw[if_neg h,if_neg (λe=>h e.symm)]
theorem jd.alias{μ:bp}{r:aY}{m:Nat}{env:List I}{loc:List (Nat×Acc)}{a:Act}(h:jd P need μ r m env loc a.tmps)(al:hd P μ){t:Nat}(a_:t<a.tmps.size)(x:Operand):
  jd P need μ r m env ((t,cE P need loc x)::loc) (a.put (some t) (a.eval x)).tmps:=by
 refine⟨λu b hu=>?_,λu=>?_⟩
 · rw[n0] at hu
   split at hu
   · cases hu;exact z8 h.uJ x
   · exact h.uJ u b hu
 · simp only[cE,n0,Act.put]
   rw[xu a_]
   by_cases e:u=t
   · simp only[e,if_true];exact h.eval al x
   · simp only[e,if_false];exact h.rel u
theorem jd.step{μ:bp}{r:aY}{m:Nat}{env:List I}{loc:List (Nat×Acc)}{a:Act}(h:jd P need μ r m env loc a.tmps){o:Oper}(a_:∀t,o.dst=some t->t<a.tmps.size){v:I}{u:Value}(aB:bl μ v u):
  jd P need μ r (m+1) (v::env) (g9 o m loc) (a.put o.dst u).tmps:=by
 have old:∀t,bl μ (dt (m+1) (v::env) r (cE P need loc (.tmp t))) (a.tmps.getD t undef):=λt=>by
  rw[QF (z8 h.uJ _)];exact h.rel t
 unfold g9
 cases ao:o.dst with
 |none=>exact⟨λt b ae=>Acc.Ih (Nat.le_succ m) (h.uJ t b ae),old⟩
 |some d=>
  refine⟨λt b ae=>?_,λt=>?_⟩
  · rw[n0] at ae
    split at ae
    · cases ae;exact Nat.lt_succ_self m
    · exact Acc.Ih (Nat.le_succ m) (h.uJ t b ae)
  · simp only[Act.put]
    rw[xu (a_ d ao)]
    by_cases e:t=d
    · simp only[cE,n0,e,if_true,QG];exact aB
    · have:=old t
      simp only[cE,n0,e,if_false] at this⊢
      exact this
theorem Ii{ops:Array Oper}{ca:Array Value}{j t:Nat}(h:(ops[j]?).bind (·.dst)=some t):yielded ops ca j=match ca.getD t undef with
  |.bool b=>some b
  |_=>none:=by
 unfold yielded
 rw[h,Option.bind_some]
 rw[Array.getD_eq_getD_getElem?]
 cases ai:ca[t]? with
 |none=>rfl
 |some v=>simp only[Option.getD_some];cases v<;>rfl
theorem QH{μ:bp}{ops:Array Oper}{loc:List (Nat×Acc)}{o:Oper}{acc:Acc->I}{ca:Array Value}(la:∀t,bl μ (acc (cE P need loc (.tmp t))) (ca.getD t undef))(mn:∀v,acc (.val v)=v):
  ∀o4,ep (match jr P need ops loc o with|none=>none|some (a,b)=>some (acc a,b))=some o4->Region.wanted o (yielded ops ca)=o4:=by
 intro o4 h
 unfold jr at h
 unfold Region.wanted
 cases al:o.guard with
 |none=>rw[al] at h;simp only[ep] at h;cases h;rfl
 |some p=>
  obtain⟨j,b⟩:=p
  rw[al] at h
  simp only at h⊢
  cases a_:(ops[j]?).bind (·.dst) with
  |none=>rw[a_] at h;simp only[mn,ep] at h;cases h
  |some t=>
   rw[a_] at h
   simp only at h
   have ak:=la t
   rw[Ii a_]
   generalize acc (cE P need loc (.tmp t))=v at h ak
   unfold ep at h
   split at h
   · rename_i he;cases he
   · rename_i he;cases he;cases h
     have Da:ca.getD t undef=_:=ak
     rw[Da];rfl
   · rename_i he;cases he;cases h
     obtain⟨l,aw,rl⟩:=ak
     cases rl
     rw[aw];rfl
   · cases h
def Db:List Item->Prop
 |.call _ _ _ _::_=>False
 |_=>True
def n1(P:Program)(need bP:Nat)(μ:bp)(r:aY)(H:J)(w:World)(b:Frame)(k:List Item)(cs0:List Frame)(e7:Machine)(loc:List (Nat×Acc)):mc->Prop
 |.ok env bf bj aV=>∃aX w' cy bN,Steps P e7 (lone (b.atR cy k) bN w')/\jd P need aX r env.length env loc cy.tmps/\cy.tmps.size=bP/\br aX aV w'/\b7 μ H w aX aV w'/\gl aX bf cy.defers/\ht aX b.kind cs0 bj bN
 |.b4 v bf bj aV=>∃aX w' cy bN u bh,Steps P e7 (lone {b.atR cy bh with mode:=.panicking [{v:=u,recovered:=false}]} bN w')/\Db bh/\bl aX v u/\
   (∀t,hX t loc=none->Nat.testBit need t=true->bl aX (r.get (gU t)) (cy.tmps.getD t undef))/\cy.tmps.size=bP/\br aX aV w'/\b7 μ H w aX aV w'/\gl aX bf cy.defers/\ht aX b.kind cs0 bj bN
 |.fail _=>True
theorem n1.of_steps{bP:Nat}{μ hG:bp}{r:aY}{H H1:J}{w cK:World}{b:Frame}{k:List Item}{cs0:List Frame}{e7 a3:Machine}{loc:List (Nat×Acc)}{x:mc}(ai:br μ H w)(iL:br hG H1 cK)(h:Steps P e7 a3)(aS:b7 μ H w hG H1 cK)
  (ab:n1 P need bP hG r H1 cK b k cs0 a3 loc x):n1 P need bP μ r H w b k cs0 e7 loc x:=by
 cases x with
 |ok env d q aV=>
  obtain⟨aX,w',cy,bN,s1,s2,bI,bL,cb,cW⟩:=ab
  exact⟨aX,w',cy,bN,h.trans s1,s2,bI,bL,b7.trans ai iL aS cb,cW⟩
 |b4 v d q aV=>
  obtain⟨aX,w',cy,bN,u,bh,s1,hL,s2,bI,bL,cb,cW,dw⟩:=ab
  exact⟨aX,w',cy,bN,u,bh,h.trans s1,hL,s2,bI,bL,cb,b7.trans ai iL aS cW,dw⟩
 |fail s=>trivial
theorem Dc{ops:Array Oper}:∀(l:List Oper) (loc:List (Nat×Acc)) (m t:Nat),hX t (kO P need ops l loc m)=none->hX t loc=none
 |[],loc,m,t,h=>h
 |o::rest,loc,m,t,h=>by
  unfold kO at h
  cases aS:aliasOf o with
  |some p=>
   obtain⟨u,x⟩:=p
   rw[aS] at h
   have:=Dc rest _ m t h
   rw[n0] at this
   split at this
   · cases this
   · exact this
  |none=>
   rw[aS] at h
   have:=Dc rest _ _ t h
   unfold g9 at this
   split at this
   · rw[n0] at this
     split at this
     · cases this
     · exact this
   · exact this
theorem QI{o:Oper}{t:Nat}{x:Operand}(h:aliasOf o=some (t,x)):o.guard=none/\o.dst=some t/\∀cr,execOp cr o=pure (.value (cr x)):=by
 unfold aliasOf at h
 split at h
 · rename_i ab ad ar;cases h;exact⟨ab,ad,λcr=>by simp[execOp,ar]⟩
 · rename_i ab ad ar;cases h;exact⟨ab,ad,λcr=>by simp[execOp,ar]⟩
 · cases h
theorem xv(a:Act)(dst:Option Tmp)(u:Value):(a.put dst u).tmps.size=a.tmps.size:=by cases dst<;>simp[Act.put]
theorem z9{call:aI->List I->J->av}(ag:jc P call){bP:Nat}{ops:Array Oper}(km:∀o∈ops.toList,∀t,o.dst=some t->t<bP){b:Frame}{inR:Bool}(fe:inR=b.roundOf.isSome){r:aY}{k:List Item}{cs0:List Frame}:
  ∀(l:List Oper) (i0:Nat) (loc:List (Nat×Acc)) (m:Nat) (env:List I) (d:List bQ) (q:bD) (μ:bp) (H:J) (w:World) (a:Act) (cs:List Frame),ops.toList.drop i0=l->env.length=m->
   jd P need μ r m env loc a.tmps->a.tmps.size=bP->br μ H w->hd P μ->gl μ d a.defers->ht μ b.kind cs0 q cs->
   n1 P need bP μ r H w b k cs0 (lone (b.atR a (.inRegion ops (List.range' i0 l.length)::k)) cs w) (kO P need ops l loc m) (h_ P need inR call r (lM P need ops l loc m) env d q H)
 |[],i0,loc,m,env,d,q,μ,H,w,a,cs,aw,hm,o5,bw,ai,al,ao,aT=>by
  subst hm
  exact⟨μ,w,a,cs,.one stepR_region_end,o5,bw,ai,b7.refl _ _ _,ao,aT⟩
 |o::rest,i0,loc,m,env,d,q,μ,H,w,a,cs,aw,hm,o5,bw,ai,al,ao,aT=>by
  have a2:ops[i0]? =some o:=by
   have:=congrArg List.head? aw
   simpa[List.head?_drop] using this
  have m6:ops.toList.drop (i0+1)=rest:=by
   have:=congrArg List.tail aw
   simpa[List.tail_drop] using this
  have h1:o∈ops.toList:=by
   rw[<-Array.getElem?_toList] at a2
   exact List.mem_of_getElem? a2
  have z_:∀t,o.dst=some t->t<a.tmps.size:=λt h=>by rw[bw];exact km o h1 t h
  rw[List.length_cons,List.range'_succ]
  unfold lM kO
  cases aS:aliasOf o with
  |some p=>
   obtain⟨t,x⟩:=p
   simp only
   obtain⟨cw,c2,dm⟩:=QI aS
   have hw:Region.wanted o (yielded ops a.tmps)=true:=by simp[Region.wanted,cw]
   have ch:=stepGR_op (P:=P) (b:=b) (a:=a) (k:=k) (cs:=cs) (w:=w) (rest:=List.range' (i0+1) rest.length) a2 hw
   have sP:o.semAt b.roundOf a.eval=execOp a.eval o:=by
    refine Oper.semAt_eq _ _ _ λc e=>?_
    have:=dm a.eval
    unfold aliasOf at aS
    rw[e] at aS
    split at aS
    · rename_i h;cases h
    · rename_i h;cases h
    · cases aS
   rw[sP] at ch
   obtain⟨aj,_⟩:=z4 ch
   have hs:=aj (a.eval x) w (by rw[dm];rfl)
   have ml:(b.atR a (.inRegion ops (i0::List.range' (i0+1) rest.length)::k)).finish (a.eval x)=b.atR (a.put (some t) (a.eval x)) (.inRegion ops (List.range' (i0+1) rest.length)::k):=by
    rw[Frame.finish_atR,a2]
    simp only[Option.bind_some,c2]
   rw[ml] at hs
   have a6:=z9 (k:=k) ag km fe rest (i0+1) ((t,cE P need loc x)::loc) m env d q μ H w (a.put (some t) (a.eval x)) cs m6 hm (o5.alias al (z_ t c2) x) ((xv _ _ _).trans bw) ai al (by rw[put_defers];exact ao) aT
   exact a6.of_steps ai ai hs (b7.refl _ _ _)
  |none=>
   simp only[h_]
   have fE:=Ic (P:=P) ag ai al (b:=b) (a:=a) (ops:=ops) (i:=i0) (rest:=List.range' (i0+1) rest.length) (k:=k) (cs0:=cs0) (cs:=cs) a2 (gd:=match jr P need ops loc o with|none=>none|some (x,c)=>some (dt m env r x,c))
    (QH (acc:=dt m env r) o5.rel (λv=>rfl)) (g:=λx=>dt m env r (cE P need loc x)) (λx=>o5.eval al x) ao aT fe
   generalize dL P inR call (match jr P need ops loc o with|none=>none|some (x,c)=>some (dt m env r x,c)) o (λx=>dt m env r (cE P need loc x)) d q H=res at fE⊢
   cases res with
   |ok v bf bj aV=>
    obtain⟨aX,w',u,sO,bN,s1,s2,bI,bL,cb,cW⟩:=fE
    have Dd:=(o5.mono bL.le).step (a:=a) (o:=o) z_ s2
    have a6:=z9 (k:=k) ag km fe rest (i0+1) (g9 o m loc) (m+1) (v::env) bf bj aX aV w' {tmps:=(a.put o.dst u).tmps,defers:=sO} bN m6 (by simp[hm]) Dd ((xv _ _ _).trans bw) bI (al.mono bL.le) cb cW
    exact a6.of_steps ai bI s1 bL
   |b4 v bf bj aV=>
    obtain⟨aX,w',u,s1,s2,bI,bL,cb,cW⟩:=fE
    refine⟨aX,w',a,cs,u,_,s1,trivial,s2,λt a_ aK=>?_,bw,bI,bL,cb,cW⟩
    have h0:=Dc (P:=P) (need:=need) (ops:=ops) rest _ _ t a_
    have ab:hX t loc=none:=by
     unfold g9 at h0
     split at h0
     · rw[n0] at h0
       split at h0
       · cases h0
       · exact h0
     · exact h0
    have:=(o5.mono bL.le).rel t
    simp only[cE,ab,aK,dt] at this
    exact this
   |fail s=>trivial
end
end aM
namespace aM
open Go
section
variable {P:Program} {need:Nat}
theorem Ij(need m:Nat)(env:List I)(fv:aY):∀(loc:List (Nat×Acc)) (r:aY) (t:Nat),Nat.testBit need t=true->
  (oQ need m env fv loc r).get (gU t)=match hX t loc with|some a=>dt m env fv a|none=>r.get (gU t)
 |[],r,t,a_=>rfl
 |(u,a)::l,r,t,a_=>by
  rw[n0]
  simp only[oQ]
  by_cases e:t=u
  · subst e
    simp only[a_,if_true,aY.cR]
  · have a6:=Ij need m env fv l r t a_
    cases hu:Nat.testBit need u with
    |true=>simp only[aY.cR,if_neg e,a6]
    |false=>simp only[if_neg e,a6]
theorem Ik:∀(loc:List (Nat×Acc)) (r:aY) (t:Nat),(ur loc r).get (gU t)=match hX t loc with|some a=>.bad|none=>r.get (gU t)
 |[],r,t=>rfl
 |(u,a)::l,r,t=>by
  rw[n0]
  simp only[ur,aY.cR]
  by_cases e:t=u
  · simp only[e,if_true]
  · simp only[if_neg e,Ik l r t]
theorem jd.outs{μ:bp}{r:aY}{m:Nat}{env:List I}{loc:List (Nat×Acc)}{ca:Array Value}(h:jd P need μ r m env loc ca):ix need μ (oQ need m env r loc r) ca:=by
 intro t a_
 rw[Ij need m env r loc r t a_]
 have:=h.rel t
 simp only[cE,a_] at this
 cases hf:hX t loc with
 |some a=>rw[hf] at this;exact this
 |none=>rw[hf] at this;exact this
theorem sR{e:bn}{r:aY}{d:List bQ}{q:bD}{h:J}{f:aY->List bQ->bD->J->jq}(he:e≠ .nrm):pO (.ok e r d q h) f=.ok e r d q h:=by
 cases e<;>first|rfl|exact absurd rfl he
def rm(P:Program)(μ:bp)(e7:Machine)(b:Frame)(k:List Item)(cs:List Frame)(a:Act)(w:World):bn->Prop
 |.nrm=>Steps P e7 (lone (b.atR a k) cs w)
 |.exit id=>∃bh,exitTo id bh=exitTo id k/\Steps P e7 (lone (b.atR a (.code (.exit id)::bh)) cs w)
 |.ret=>∃bh,Steps P e7 (lone (b.atR a (.code .ret::bh)) cs w)
 |.goto _=>False
 |.b4 v=>∃bh u,(bl μ v u/\Db bh)/\Steps P e7 (lone {b.atR a bh with mode:=.panicking [{v:=u,recovered:=false}]} cs w)
theorem rm.of_steps{μ:bp}{e7 a3:Machine}{b:Frame}{k:List Item}{cs:List Frame}{a:Act}{w:World}{e:bn}(h:Steps P e7 a3)(an:rm P μ a3 b k cs a w e):rm P μ e7 b k cs a w e:=by
 cases e with
 |nrm=>exact h.trans an
 |exit id=>obtain⟨bh,ab,ad⟩:=an;exact⟨bh,ab,h.trans ad⟩
 |ret=>obtain⟨bh,ad⟩:=an;exact⟨bh,h.trans ad⟩
 |goto l=>exact an
 |b4 v=>obtain⟨bh,u,ab,ad⟩:=an;exact⟨bh,u,ab,h.trans ad⟩
theorem rm.pass{μ:bp}{e7:Machine}{b:Frame}{x:Item}{k:List Item}{cs:List Frame}{a:Act}{w:World}{e:bn}(aa:∀id,x≠ .inBlock id)(he:e≠ .nrm)(h:rm P μ e7 b (x::k) cs a w e):rm P μ e7 b k cs a w e:=by
 cases e with
 |nrm=>exact absurd rfl he
 |exit id=>
  obtain⟨bh,ab,ad⟩:=h
  refine⟨bh,ab.trans ?_,ad⟩
  cases x<;>first|rfl|exact absurd rfl (aa _)
 |ret=>exact h
 |goto l=>exact h
 |b4 v=>exact h
def kP(P:Program)(need bP:Nat)(μ:bp)(H:J)(w:World)(b:Frame)(k:List Item)(cs0:List Frame)(e7:Machine):jq->Prop
 |.ok e r' bf bj aV=>∃aX w' cy bN,rm P aX e7 b k bN cy w' e/\ix need aX r' cy.tmps/\cy.tmps.size=bP/\br aX aV w'/\b7 μ H w aX aV w'/\gl aX bf cy.defers/\ht aX b.kind cs0 bj bN
 |.fail _=>True
theorem kP.of_steps{bP:Nat}{μ hG:bp}{H H1:J}{w cK:World}{b:Frame}{k:List Item}{cs0:List Frame}{e7 a3:Machine}{x:jq}(ai:br μ H w)(iL:br hG H1 cK)(h:Steps P e7 a3)(aS:b7 μ H w hG H1 cK)
  (ab:kP P need bP hG H1 cK b k cs0 a3 x):kP P need bP μ H w b k cs0 e7 x:=by
 cases x with
 |ok e r d q aV=>
  obtain⟨aX,w',cy,bN,s1,s2,bI,bL,cb,cW⟩:=ab
  exact⟨aX,w',cy,bN,s1.of_steps h,s2,bI,bL,b7.trans ai iL aS cb,cW⟩
 |fail s=>trivial
def mo(μ:bp)(b:Frame):Option Nat->Prop
 |none=>b.roundOf=none
 |some l=>∃i,μ l=some i/\b.roundOf=some i.bk
theorem mo.mono{μ aX:bp}(hle:e2 μ aX){b:Frame}{rd:Option Nat}(h:mo μ b rd):mo aX b rd:=by
 cases rd with
 |none=>exact h
 |some l=>obtain⟨i,ab,ad⟩:=h;exact⟨i,hle _ _ ab,ad⟩
theorem mo.isSome{μ:bp}{b:Frame}{rd:Option Nat}(h:mo μ b rd):rd.isSome=b.roundOf.isSome:=by
 cases rd with
 |none=>have:b.roundOf=none:=h;simp[this]
 |some l=>obtain⟨i,ab,ad⟩:=h;simp[ad]
def mq(P:Program)(need bP:Nat)(call:aI->List I->J->av):Prop:=
 ∀(ops:Array Oper) (id:Nat),(∀o∈ops.toList,∀t,o.dst=some t->t<bP)->pR ops (e1 ops.toList 0 [] [])=true->
  ∀(b:Frame) (inR:Bool) (r:aY) (d:List bQ) (q:bD) (H:J) (μ:bp) (w:World) (a:Act) (k:List Item) (cs0 cs:List Frame),inR=b.roundOf.isSome->ix need μ r a.tmps->a.tmps.size=bP->br μ H w->hd P μ->gl μ d a.defers->ht μ b.kind cs0 q cs->
   n1 P need bP μ r H w b k cs0 (lone (b.atR a (.code (.region id ops true)::k)) cs w) (iK ops.toList 0 []) (ss P need inR call ops r d q H)
def Il(P:Program)(need bP:Nat)(call:aI->List I->J->av):Prop:=
 ∀(f:Operand) (ps:Array Nat) (as cf:Code),hp bP (.rangeFunc f ps as cf)=true->∀(b:Frame) (rd:Option Nat) (r:aY) (d:List bQ) (q:bD) (H:J) (μ:bp) (w:World) (a:Act) (k:List Item) (cs0 cs:List Frame),mo μ b rd->ix need μ r a.tmps->a.tmps.size=bP->br μ H w->hd P μ->gl μ d a.defers->ht μ b.kind cs0 q cs->
  kP P need bP μ H w b k cs0 (lone (b.atR a (.code (.rangeFunc f ps as cf)::k)) cs w) (du P need rd call (.rangeFunc f ps as cf) r d q H)
theorem QJ{b:Frame}{a:Act}{c:Code}{k:List Item}{cs:List Frame}{w:World}:step P (lone (b.atR a (.inScope c::k)) cs w)=.next (lone (b.atR a k) cs w):=
 step_lone_go (by simp[stepG,stepG.exec,Frame.atR])
theorem Im{b:Frame}{a:Act}{c:Code}{k:List Item}{cs:List Frame}{w:World}:step P (lone (b.atR a (.code (.scope c)::k)) cs w)=.next (lone (b.atR a (.code c::.inScope c::k)) cs w):=
 step_lone_go (by simp[stepG,stepG.exec,Frame.atR])
theorem n1.code{bP:Nat}{μ:bp}{r:aY}{H:J}{w:World}{b:Frame}{k:List Item}{cs0:List Frame}{e7:Machine}{loc:List (Nat×Acc)}{x:mc}(h:n1 P need bP μ r H w b k cs0 e7 loc x):
  kP P need bP μ H w b k cs0 e7 (md need r loc x):=by
 cases x with
 |ok env d q aV=>
  obtain⟨aX,w',cy,bN,s1,s2,bI,bL,cb,cW⟩:=h
  exact⟨aX,w',cy,bN,s1,s2.outs,bI,bL,cb,cW⟩
 |b4 v d q aV=>
  obtain⟨aX,w',cy,bN,u,bh,s1,hL,s2,bI,bL,cb,cW,dw⟩:=h
  refine⟨aX,w',cy,bN,⟨bh,u,⟨s2,hL⟩,s1⟩,λt a_=>?_,bL,cb,cW,dw⟩
  rw[Ik]
  cases hf:hX t loc with
  |some x=>trivial
  |none=>exact bI t hf a_
 |fail s=>trivial
def Io(P:Program)(need bP:Nat)(call:aI->List I->J->av)(rd:Option Nat)(c:Code):Prop:=
 ∀(b:Frame) (r:aY) (d:List bQ) (q:bD) (H:J) (μ:bp) (w:World) (a:Act) (k:List Item) (cs0 cs:List Frame),mo μ b rd->ix need μ r a.tmps->a.tmps.size=bP->br μ H w->hd P μ->gl μ d a.defers->ht μ b.kind cs0 q cs->
  kP P need bP μ H w b k cs0 (lone (b.atR a (.code c::k)) cs w) (du P need rd call c r d q H)
theorem Ip{bP:Nat}{call:aI->List I->J->av}{rd:Option Nat}{c:Code}(fx:Io P need bP call rd c)(b:Frame)(k:List Item)(cs0:List Frame):∀(n:Nat) (r:aY) (d:List bQ) (q:bD) (H:J) (μ:bp) (w:World) (a:Act) (cs:List Frame),mo μ b rd->ix need μ r a.tmps->a.tmps.size=bP->br μ H w->hd P μ->gl μ d a.defers->ht μ b.kind cs0 q cs->
  kP P need bP μ H w b k cs0 (lone (b.atR a (.code c::.inLoop c::k)) cs w) (oR (du P need rd call c) n r d q H)
 |0,r,d,q,H,μ,w,a,cs,cC,ak,bw,ai,al,ao,aT=>trivial
 |n+1,r,d,q,H,μ,w,a,cs,cC,ak,bw,ai,al,ao,aT=>by
  have ab:=fx b r d q H μ w a (.inLoop c::k) cs0 cs cC ak bw ai al ao aT
  unfold oR
  cases aa:du P need rd call c r d q H with
  |fail s=>trivial
  |ok e r' bf bj aV=>
   rw[aa] at ab
   obtain⟨aX,w',cy,bN,s1,s2,bI,bL,cb,cW,dw⟩:=ab
   by_cases he:e=.nrm
   · subst he
     have a6:=Ip fx b k cs0 n r' bf bj aV aX w' cy bN (cC.mono cb.le) s2 bI bL (al.mono cb.le) cW dw
     exact a6.of_steps ai bL (Steps.trans s1 (.one stepR_inLoop)) cb
   · rw[sR he]
     exact⟨aX,w',cy,bN,s1.pass (λid h=>by cases h) he,s2,bI,bL,cb,cW,dw⟩
theorem n2{bP:Nat}{call:aI->List I->J->av}(ag:jc P call)(hdr:mq P need bP call)(nd:Il P need bP call)(rd:Option Nat):∀(c:Code),hp bP c=true->Io P need bP call rd c
 |.skip,_=>λb r d q H μ w a k cs0 cs cC ak bw ai al ao aT=>⟨μ,w,a,cs,.one stepR_skip,ak,bw,ai,b7.refl _ _ _,ao,aT⟩
 |.label l,_=>λb r d q H μ w a k cs0 cs cC ak bw ai al ao aT=>⟨μ,w,a,cs,.one stepR_label,ak,bw,ai,b7.refl _ _ _,ao,aT⟩
 |.exit id,_=>λb r d q H μ w a k cs0 cs cC ak bw ai al ao aT=>⟨μ,w,a,cs,⟨k,rfl,Steps.refl _ _⟩,ak,bw,ai,b7.refl _ _ _,ao,aT⟩
 |.ret,_=>λb r d q H μ w a k cs0 cs cC ak bw ai al ao aT=>⟨μ,w,a,cs,⟨k,Steps.refl _ _⟩,ak,bw,ai,b7.refl _ _ _,ao,aT⟩
 |.goto l,_=>λb r d q H μ w a k cs0 cs cC ak bw ai al ao aT=>trivial
 |.refuse s,_=>λb r d q H μ w a k cs0 cs cC ak bw ai al ao aT=>trivial
 |.region id ops draw,c9=>λb r d q H μ w a k cs0 cs cC ak bw ai al ao aT=>by
  simp only[hp,Bool.and_eq_true,List.all_eq_true] at c9
  have km:∀o∈ops.toList,∀t,o.dst=some t->t<bP:=λo a2 t a_=>by
   have:=c9.1 o a2
   rw[a_] at this
   simpa using this
  cases draw with
  |false=>
   have h:=z9 (P:=P) (need:=need) (k:=k) ag km (b:=b) (inR:=rd.isSome) cC.isSome (r:=r) (cs0:=cs0) ops.toList 0 [] 0 [] d q μ H w a cs rfl rfl (jd.init ak) bw ai al ao aT
   have aw:List.range' 0 ops.toList.length=List.range ops.size:=by rw[List.range_eq_range'];simp
   rw[aw] at h
   have ad:=n1.code h
   have hr:oP P need ops=⟨lM P need ops ops.toList [] 0,kO P need ops ops.toList [] 0⟩:=by
    unfold oP;rw[C9];simp
   simp only[du,hr]
   exact kP.of_steps ai ai (.one stepR_region) (b7.refl _ _ _) ad
  |true=>
   have p9:pR ops (e1 ops.toList 0 [] [])=true:=by simpa using c9.2
   have h:=hdr ops id km p9 b rd.isSome r d q H μ w a k cs0 cs cC.isSome ak bw ai al ao aT
   simp only[du]
   exact n1.code h
 |.seq x y,c9=>λb r d q H μ w a k cs0 cs cC ak bw ai al ao aT=>by
  simp only[hp,Bool.and_eq_true] at c9
  have ab:=n2 ag hdr nd rd x c9.1 b r d q H μ w a (.code y::k) cs0 cs cC ak bw ai al ao aT
  simp only[du]
  cases aa:du P need rd call x r d q H with
  |fail s=>trivial
  |ok e r' bf bj aV=>
   rw[aa] at ab
   obtain⟨aX,w',cy,bN,s1,s2,bI,bL,cb,cW,dw⟩:=ab
   by_cases he:e=.nrm
   · subst he
     have ad:=n2 ag hdr nd rd y c9.2 b r' bf bj aV aX w' cy k cs0 bN (cC.mono cb.le) s2 bI bL (al.mono cb.le) cW dw
     exact ad.of_steps ai bL (Steps.head stepR_seq s1) cb
   · rw[sR he]
     exact⟨aX,w',cy,bN,(s1.pass (λid h=>by cases h) he).of_steps (.one stepR_seq),s2,bI,bL,cb,cW,dw⟩
 |.cond c x y,c9=>λb r d q H μ w a k cs0 cs cC ak bw ai al ao aT=>by
  simp only[hp,Bool.and_eq_true] at c9
  simp only[du]
  have fi:=(jd.init (P:=P) ak).eval (a:=a) al c
  split
  · rename_i nV
    rw[nV] at fi
    have h:=n2 ag hdr nd rd x c9.1 b r d q H μ w a k cs0 cs cC ak bw ai al ao aT
    exact h.of_steps ai ai (.one (stepR_cond (t:=true) fi)) (b7.refl _ _ _)
  · rename_i nV
    rw[nV] at fi
    have h:=n2 ag hdr nd rd y c9.2 b r d q H μ w a k cs0 cs cC ak bw ai al ao aT
    exact h.of_steps ai ai (.one (stepR_cond (t:=false) fi)) (b7.refl _ _ _)
  · trivial
 |.block id c,c9=>λb r d q H μ w a k cs0 cs cC ak bw ai al ao aT=>by
  have ab:=n2 ag hdr nd rd c c9 b r d q H μ w a (.inBlock id::k) cs0 cs cC ak bw ai al ao aT
  simp only[du]
  cases aa:du P need rd call c r d q H with
  |fail s=>trivial
  |ok e r' bf bj aV=>
   rw[aa] at ab
   obtain⟨aX,w',cy,bN,s1,s2,bI,bL,cb,cW,dw⟩:=ab
   cases e with
   |nrm=>exact⟨aX,w',cy,bN,Steps.head stepR_block (Steps.trans s1 (.one stepR_inBlock)),s2,bI,bL,cb,cW,dw⟩
   |exit i=>
    obtain⟨bh,aA,ay⟩:=s1
    by_cases iB:i=id
    · simp only[iB,if_true]
      subst iB
      have bx:exitTo i bh=some k:=by rw[aA];simp[exitTo]
      exact⟨aX,w',cy,bN,Steps.head stepR_block (Steps.trans ay (.one (stepR_exit bx))),s2,bI,bL,cb,cW,dw⟩
    · simp only[if_neg iB]
      have:(id==i)=false:=by simp;exactλh=>iB h.symm
      exact⟨aX,w',cy,bN,⟨bh,aA.trans (by simp[exitTo,this]),Steps.head stepR_block ay⟩,s2,bI,bL,cb,cW,dw⟩
   |ret=>obtain⟨bh,ay⟩:=s1;exact⟨aX,w',cy,bN,⟨bh,Steps.head stepR_block ay⟩,s2,bI,bL,cb,cW,dw⟩
   |goto l=>exact s1.elim
   |b4 v=>obtain⟨bh,u,aA,ay⟩:=s1;exact⟨aX,w',cy,bN,⟨bh,u,aA,Steps.head stepR_block ay⟩,s2,bI,bL,cb,cW,dw⟩
 |.loop c,c9=>λb r d q H μ w a k cs0 cs cC ak bw ai al ao aT=>by
  have h:=Ip (n2 ag hdr nd rd c c9) b k cs0 100000 r d q H μ w a cs cC ak bw ai al ao aT
  simp only[du]
  exact h.of_steps ai ai (.one stepR_loop) (b7.refl _ _ _)
 |.scope c,c9=>λb r d q H μ w a k cs0 cs cC ak bw ai al ao aT=>by
  have ab:=n2 ag hdr nd rd c c9 b r d q H μ w a (.inScope c::k) cs0 cs cC ak bw ai al ao aT
  simp only[du]
  cases aa:du P need rd call c r d q H with
  |fail s=>trivial
  |ok e r' bf bj aV=>
   rw[aa] at ab
   obtain⟨aX,w',cy,bN,s1,s2,bI,bL,cb,cW,dw⟩:=ab
   by_cases he:e=.nrm
   · subst he
     exact⟨aX,w',cy,bN,Steps.head Im (Steps.trans s1 (.one QJ)),s2,bI,bL,cb,cW,dw⟩
   · exact⟨aX,w',cy,bN,(s1.pass (λid h=>by cases h) he).of_steps (.one Im),s2,bI,bL,cb,cW,dw⟩
 |.rangeFunc f ps as cf,c9=>λb r d q H μ w a k cs0 cs cC ak bw ai al ao aT=>nd f ps as cf c9 b rd r d q H μ w a k cs0 cs cC ak bw ai al ao aT
end
end aM
namespace aM
open Go
section
variable {P:Program} {need:Nat}
theorem QK{w gO:World}{cs:List Frame}{b:Frame}{a:Act}{l:Nat}{k:List Item}{s:Sem Next}{Aa:Frame}
  (ch:(stepG P true {frame:=Aa,callers:=cs,status:=.running,dying:=none} gO).bare=(stepG.apply P true (b.atR a (.inRangeFunc l::k)) cs none s w).bare):
  (∀v w',s.run P w=.ok (.value v) w'->Steps P (lone Aa cs gO) (lone ((b.atR a (.inRangeFunc l::k)).finish v) cs w'))/\
  (∀f args w',s.run P w=.ok (.enter f args) w'->Steps P (lone Aa cs gO) (lone (Frame.enter P f args .normal) (b.atR a (.inRangeFunc l::k)::cs) w'))/\
  (∀nZ f tmps assign body w',s.run P w=.ok (.round nZ f tmps assign body) w'->Steps P (lone Aa cs gO) (lone (Frame.round nZ f tmps assign body .normal) (b.atR a (.inRangeFunc l::k)::cs) w')):=by
 refine⟨λv w' ak=>.one (step_lone_go ?_),λf args w' ak=>.one (step_lone_go ?_),λl f tmps assign body w' ak=>.one (step_lone_go ?_)⟩
 · rw[ch];simp[stepG.apply,ak]
 · rw[ch];simp[stepG.apply,ak,Frame.atR]
 · rw[ch];simp[stepG.apply,ak]
theorem QL{b:Frame}{a:Act}{f:Operand}{ps:Array Nat}{as cf:Code}{k:List Item}{cs:List Frame}{w cK:World}{l:Nat}{mark:List Deferred}(he:(Instr.enterLoop b.fn a.tmps ps as cf b.roundOf).run P w=.ok (l,mark) cK):
  (stepG P true {frame:=b.atR a (.code (.rangeFunc f ps as cf)::k),callers:=cs,status:=.running,dying:=none} w).bare=
   (stepG.apply P true (b.atR {tmps:=a.tmps,defers:=mark++a.defers} (.inRangeFunc l::k)) cs none (do let d<-Deferred.ofValue (a.eval f) #[.func (.yield l) #[] #[]];invoke d.target d.args) cK).bare:=by
 have Ab:=Frame.eval_atR b {tmps:=a.tmps,defers:=mark++a.defers} (.inRangeFunc l::k)
 simp only[Frame.atR] at Ab
 have QM:({tmps:=a.tmps,defers:=mark++a.defers}:Act).eval=a.eval:=funext λx=>by cases x<;>rfl
 simp only[stepG,stepG.exec,Frame.atR,Sem.runT_eq,he,GStep.bare_after]
 have QN:resolve a.eval {callee:=.value f,args:=#[.const (.func (.yield l) #[] #[])],argTypes:=#[]} 0=Deferred.ofValue (a.eval f) #[.func (.yield l) #[] #[]]:=by simp[resolve,Act.eval]
 rw[Ab,QM,QN]
theorem QO{b:Frame}{a:Act}{l:Nat}{k:List Item}{cs:List Frame}{w w':World}{nh:Option Code}(he:(Instr.endLoop l).run P w=.ok nh w'):
  step P (lone (b.atR a (.endRangeFunc l::k)) cs w)=.next (lone (b.atR a ((nh.map Item.code).toList++k)) cs w'):=
 step_lone_go (by simp[stepG,stepG.exec,Frame.atR,Sem.runT_eq,he])
theorem QP{bP:Nat}{b:Frame}{a:Act}{r:aY}{ps:Array Nat}{as cf:Code}(c9:hp bP as=true/\hp bP cf=true/\∀t∈ps.toList,t<bP){μ:bp}{H:J}{w:World}{rd:Option Nat}(cC:mo μ b rd)(ak:ix need μ r a.tmps)(bw:a.tmps.size=bP)(ai:br μ H w)
  {d:List bQ}(ao:gl μ d a.defers){l:Nat}{bf:List bQ}{H1:J}
  (aw:l=nQ rd H.n)(he:wP need rd r ps.toList as cf d H=some (bf,H1)):
  ∃aX w' mark i,(Instr.enterLoop b.fn a.tmps ps as cf b.roundOf).run P w=.ok (i.bk,mark) w'/\aX l=some i/\br aX H1 w'/\b7 μ H w aX H1 w'/\gl aX bf (mark++a.defers):=by
 subst bw
 unfold nQ at aw
 unfold wP at he
 cases rd with
 |none=>
  have ae:b.roundOf=none:=cC
  cases he
  obtain⟨r1,r2⟩:=ai.alloc (.defrd (some [])) (.deferred (some [])) 0 ⟨[],World.heap_alloc_new _ _,rfl⟩
  have hu:fm μ H.n ⟨w.heap.size,0,0⟩ H.n=some ⟨w.heap.size,0,0⟩:=gp _ _ _
  have Ac:=r1.nU ⟨(w.alloc (.deferred (some []))).heap.size,0,0⟩
  obtain⟨ba,a7⟩:=r1.alloc (.loop .ready none need r ps.toList as cf H.n) (.loop {state:=.ready,pending:=none,fn:=b.fn,tmps:=a.tmps,params:=ps,assign:=as,body:=cf,defers:=w.heap.size}) 0
   ⟨a.tmps,⟨w.heap.size,0,0⟩,b.fn,Ac _ _ hu,World.heap_alloc_new _ _,ak.mono (r2.le.trans Ac),c9.1,c9.2.1,c9.2.2⟩
  refine⟨_,_,[{target:=.collected w.heap.size,args:=#[]}],⟨(w.alloc (.deferred (some []))).heap.size,0,0⟩,?_,?_,ba,b7.trans ai r1 r2 a7,⟨_,_,rfl,.collected _ ⟨w.heap.size,0,0⟩ (Ac _ _ hu),ao.mono (r2.le.trans Ac)⟩⟩
  · rw[ae]
    simp only[Instr.enterLoop,Sem.run_bind,run_newObj,Result.andThen_ok,Sem.run_pure]
    rfl
  · rw[aw];exact gp _ _ _
 |some Cr=>
  obtain⟨j,aL,ae⟩:=cC
  simp only at aw he
  subst aw
  cases al:H.get Cr with
  |none=>rw[al] at he;cases he
  |some De=>
  rw[al] at he
  cases De<;>try (cases he;done)
  case loop o6 Iq ab9 ab_ Ir Is It eD=>
   cases he
   obtain⟨ca,hF,fn,aA,ay,_⟩:=ai.rel _ _ j al aL
   have hle:=ai.nU ⟨w.heap.size,0,0⟩
   obtain⟨ba,a7⟩:=ai.alloc (.loop .ready none need r ps.toList as cf eD) (.loop {state:=.ready,pending:=none,fn:=b.fn,tmps:=a.tmps,params:=ps,assign:=as,body:=cf,defers:=hF.bk}) 0
    ⟨a.tmps,hF,b.fn,hle _ _ aA,World.heap_alloc_new _ _,ak.mono hle,c9.1,c9.2.1,c9.2.2⟩
   refine⟨_,_,[],⟨w.heap.size,0,0⟩,?_,?_,ba,a7,ao.mono hle⟩
   · rw[ae]
     have mj:(Instr.getLoop j.bk).run P w=.ok {state:=o6,pending:=Iq,fn:=fn,tmps:=ca,params:=⟨Ir⟩,assign:=Is,body:=It,defers:=hF.bk} w:=by
      have:(getObj j.bk).run P w=.ok (.loop {state:=o6,pending:=Iq,fn:=fn,tmps:=ca,params:=⟨Ir⟩,assign:=Is,body:=It,defers:=hF.bk}) w:=by simp[getObj,Sem.run,ay]
      simp only[Instr.getLoop,Sem.run_bind,this];rfl
     simp only[Instr.enterLoop,Sem.run_bind,mj,Result.andThen_ok,Sem.run_pure,run_newObj]
     rfl
   · exact gp _ _ _
theorem QQ{μ:bp}{H:J}{w:World}(ai:br μ H w){l:Nat}{i:eM}(aw:μ l=some i){st:LoopState}{fM:Option Code}{gV:Nat}{rg:aY}{ps:List Nat}{as cf:Code}{eD:Nat}(al:H.get l=some (.loop st fM gV rg ps as cf eD))(ch:st≠ .busy):
  ∃w',(Instr.endLoop i.bk).run P w=.ok fM w'/\br μ (H.set l (some (.loop .exhausted fM gV rg ps as cf eD))) w'/\b7 μ H w μ (H.set l (some (.loop .exhausted fM gV rg ps as cf eD))) w':=by
 obtain⟨ca,hF,fn,aA,ay,bx⟩:=ai.rel _ _ i al aw
 have b8:=(ai.lt _ _ aw).2
 obtain⟨r1,r2⟩:=ai.update (w':={w with heap:=w.heap.setIfInBounds i.bk (.loop {state:=.exhausted,pending:=fM,fn:=fn,tmps:=ca,params:=⟨ps⟩,assign:=as,body:=cf,defers:=hF.bk})}) (o':=.loop .exhausted fM gV rg ps as cf eD) al rfl aw (by simp) (λr ak=>by simp[Array.getElem?_setIfInBounds];intro e;exact absurd e.symm ak) rfl rfl rfl
  ⟨ca,hF,fn,aA,by simp[b8],bx⟩
 refine⟨_,?_,r1,r2⟩
 have iA:(getObj i.bk).run P w=.ok (.loop {state:=st,pending:=fM,fn:=fn,tmps:=ca,params:=⟨ps⟩,assign:=as,body:=cf,defers:=hF.bk}) w:=by simp[getObj,Sem.run,ay]
 have eF:(setObj i.bk (.loop {state:=.exhausted,pending:=fM,fn:=fn,tmps:=ca,params:=⟨ps⟩,assign:=as,body:=cf,defers:=hF.bk})).run P w=.ok () {w with heap:=w.heap.setIfInBounds i.bk (.loop {state:=.exhausted,pending:=fM,fn:=fn,tmps:=ca,params:=⟨ps⟩,assign:=as,body:=cf,defers:=hF.bk})}:=by simp[setObj,Sem.run,ay]
 have ae:(st==LoopState.busy)=false:=by cases st<;>first|rfl|exact absurd rfl ch
 simp only[Instr.endLoop,Instr.getLoop,Sem.run_bind,iA,Result.andThen_ok,Sem.run_pure,ae,Bool.false_eq_true,if_false,eF]
theorem Ad{bP:Nat}{call:aI->List I->J->av}(ag:jc P call):Il P need bP call:=by
 intro f ps as cf c9 b rd r d q H μ w a k cs0 cs cC ak bw ai al ao aT
 simp only[hp,Bool.and_eq_true,List.all_eq_true] at c9
 have n3:∀t∈ps.toList,t<bP:=λt a_=>by simpa using c9.1.1 t a_
 have fi:=(jd.init (P:=P) ak).eval (a:=a) al f
 simp only[du]
 cases ch:wP need rd r ps.toList as cf d H with
 |none=>trivial
 |some p=>
  obtain⟨bf,H1⟩:=p
  simp only
  obtain⟨hG,cK,mark,i,ab,ad,ar,aJ,bO⟩:=QP (P:=P) (b:=b) (a:=a) (ps:=ps) ⟨c9.1.2,c9.2,n3⟩ cC ak bw ai ao rfl ch
  have QR:=fi.mono aJ.le
  have QS:=QL (P:=P) (f:=f) (k:=k) (cs:=cs) ab
  obtain⟨aj,ax,aC⟩:=QK QS
  have nV:=H7 (P:=P) (w:=cK) ar QR (args:=[.dd (nQ rd H.n)]) (vs:=[.func (.yield i.bk) #[] #[]]) ⟨_,_,rfl,⟨i,ad,rfl⟩,rfl⟩
  have fin:∀(res:av),rk P (lone (b.atR a (.code (.rangeFunc f ps as cf)::k)) cs w) (b.atR {tmps:=a.tmps,defers:=mark++a.defers} (.inRangeFunc i.bk::k)) cs (Ends hG H1 cK res)->
    kP P need bP μ H w b k cs0 (lone (b.atR a (.code (.rangeFunc f ps as cf)::k)) cs w) (m2 (nQ rd H.n) r bf q res):=by
   intro res aw
   obtain⟨e,iN,fp,ib⟩:=aw
   cases res with
   |fail s=>trivial
   |b4 v bq=>
    obtain⟨aX,u,rfl,ba,a7,b5⟩:=fp
    exact⟨aX,iN,{tmps:=a.tmps,defers:=mark++a.defers},cs,⟨.inRangeFunc i.bk::k,u,⟨ba,trivial⟩,ib⟩,ak.mono (aJ.le.trans b5.le),bw,a7,b7.trans ai ar aJ b5,bO.mono b5.le,aT.mono (aJ.le.trans b5.le)⟩
   |ret v bq=>
    obtain⟨aX,u,rfl,ba,a7,b5⟩:=fp
    have ml:(b.atR {tmps:=a.tmps,defers:=mark++a.defers} (.inRangeFunc i.bk::k)).finish u=b.atR {tmps:=a.tmps,defers:=mark++a.defers} (.endRangeFunc i.bk::k):=rfl
    simp only[ml] at ib
    unfold m2
    simp only
    cases gw:bq.get (nQ rd H.n) with
    |none=>trivial
    |some De=>
     cases De<;>try trivial
     case loop st fM gV rg QT zB zC eD=>
      simp only
      by_cases ae:st=.busy
      · subst ae;trivial
      · obtain⟨p_,aA,ay,bx⟩:=QQ (P:=P) a7 (b5.le _ _ ad) gw ae
        have j2:=Steps.trans ib (.one (QO (b:=b) (a:={tmps:=a.tmps,defers:=mark++a.defers}) (k:=k) (cs:=cs) aA))
        have hle:=aJ.le.trans (b5.le.trans bx.le)
        have kn:=b7.trans ai a7 (b7.trans ai ar aJ b5) bx
        have done:∀(e:bn),rm P aX (lone (b.atR a (.code (.rangeFunc f ps as cf)::k)) cs w) b k cs {tmps:=a.tmps,defers:=mark++a.defers} p_ e->
          kP P need bP μ H w b k cs0 (lone (b.atR a (.code (.rangeFunc f ps as cf)::k)) cs w) (.ok e r bf q (bq.set (nQ rd H.n) (some (.loop .exhausted fM gV rg QT zB zC eD)))):=λe he=>
         ⟨aX,p_,{tmps:=a.tmps,defers:=mark++a.defers},cs,he,ak.mono hle,bw,ay,kn,bO.mono (b5.le.trans bx.le),aT.mono hle⟩
        have aca:∀X:jq,(match st with|.busy=>jq.fail "rangeFunc: busy" |_=>X)=X:=λX=>by cases st<;>first|rfl|exact absurd rfl ae
        cases st<;>first
         |exact absurd rfl ae
         |(cases fM with
          |none=>exact done .nrm j2
          |some c=>
           cases c<;>first
            |trivial
            |exact done .ret ⟨k,j2⟩
            |exact done (.exit _) ⟨k,rfl,j2⟩)
  cases Iu:sr (dt 0 [] r (cE P need [] f)) [.dd (nQ rd H.n)] H1 with
  |call g args aQ=>
   rw[Iu] at nV
   obtain⟨rfl,vs,aA,ay⟩:=nV
   simp only
   cases b6:(call (.fn g) args aQ).kN with
   |false=>obtain⟨s,hs⟩:=z6 b6;rw[hs];trivial
   |true=>
    apply fin
    rcases ag.fn g args aQ b6 hG cK vs ar (al.mono aJ.le) ay with⟨v,w',ba,a7⟩|⟨ba,a7⟩
    · rw[<-aA] at ba
      exact⟨_,_,a7,aj _ _ ba⟩
    · rw[<-aA] at ba
      exact(Ia (z7 b6) a7 _ _).of_steps (ax _ _ _ ba)
  |dd b2 args aQ=>
   rw[Iu] at nV
   obtain⟨rfl,eh,vs,rl,aA,ay⟩:=nV
   simp only
   cases b6:(call (.dd b2) args aQ).kN with
   |false=>obtain⟨s,hs⟩:=z6 b6;rw[hs];trivial
   |true=>
    apply fin
    obtain⟨Df,tmps,zB,zC,ba,a7⟩:=ag.dd b2 args aQ b6 hG cK eh vs ar (al.mono aJ.le) rl ay
    rw[<-aA] at ba
    exact(a7 _ _).of_steps (aC _ _ _ _ _ _ ba)
  |val v aQ=>trivial
  |b4 v aQ=>trivial
  |k6 x=>trivial
  |sm=>trivial
  |fail s=>trivial
end
end aM
namespace aM
open Go
section
variable {P:Program}
theorem Dg:∀(l:List I) (i:Nat) (r:aY) (t:Nat),(m3 i l r).get (gU t)=if i<=t/\t<i+l.length then(l[t-i]?).getD .bad else r.get (gU t)
 |[],i,r,t=>by
  simp only[m3,List.length_nil]
  rw[if_neg (by omega)]
 |v::l,i,r,t=>by
  simp only[m3,Dg l (i+1),aY.cR,List.length_cons]
  by_cases h:i+1<=t/\t<i+1+l.length
  · rw[if_pos h,if_pos (by omega)]
    have:t-i=(t-(i+1))+1:=by omega
    rw[this];simp
  · rw[if_neg h]
    by_cases e:t=i
    · subst e;rw[if_pos rfl,if_pos (by omega)];simp
    · rw[if_neg e,if_neg (by omega)]
theorem Iv{need:Nat}{μ:bp}{args:List I}{vs:List Value}(h:b_ μ args vs)(n:Nat):ix need μ (m3 0 args .leaf) (⟨vs⟩++Array.replicate n undef):=by
 intro t _
 rw[Dg]
 have aw:=h.length
 by_cases a_:t<args.length
 · rw[if_pos (by omega)]
   simp only[Nat.sub_zero]
   obtain⟨v,aB,ak⟩:=h.get (List.getElem?_eq_getElem a_)
   rw[List.getElem?_eq_getElem a_]
   rw[Array.getD_eq_getD_getElem?,Array.getElem?_append_left (by simp;omega)]
   simp only[List.getElem?_toArray,aB,Option.getD_some]
   exact ak
 · rw[if_neg (by omega),aY.m4];trivial
theorem QU{need:Nat}{μ:bp}{H:J}{w:World}(ai:br μ H w){r:aY}{ca:Array Value}(ak:ix need μ r ca){x:ResultVar}{v:I}(h:qR P need r H x=some v):
  ∃u,((match x with|.tmp t=>pure (ca.getD t undef)|.cell a t=>do loadVar t (<-asAddr (ca.getD a undef)):Sem Value)).run P w=.ok u w/\bl μ v u:=by
 unfold qR at h
 cases x with
 |tmp t=>
  simp only at h
  split at h
  · rename_i ae;cases h;exact⟨_,rfl,ak t ae⟩
  · cases h
 |cell t ty=>
  simp only at h
  split at h
  · rename_i ae
    have ab:=ak t ae
    split at h
    · rename_i b off n aO aS aK
      rw[aO] at ab
      obtain⟨i,af,aB⟩:=ab
      split at h
      · rename_i cs aw
        cases h
        obtain⟨us,ba,a7⟩:=q0 (P:=P) ai af aw
        refine⟨.agg ⟨us⟩,?_,us,rfl,a7⟩
        simp[aB,asAddr,loadVar,uA aS,run_sizeOf aK,ba]
      · cases h
    · rename_i b off aO aS
      rw[aO] at ab
      obtain⟨i,af,aB⟩:=ab
      obtain⟨u,ba,a7⟩:=Cz (P:=P) ai af h
      refine⟨u,?_,a7⟩
      simp only[aB,asAddr,loadVar,Sem.run_bind,Sem.run_pure,Result.andThen_ok,uA aS,Bool.false_eq_true,if_false,ba]
    · cases h
  · cases h
theorem Dh{need:Nat}{μ:bp}{H:J}{w:World}(ai:br μ H w){r:aY}{ca:Array Value}(ak:ix need μ r ca):∀(l:List ResultVar) (vs:List I),oS (qR P need r H) l=some vs->
  ∃us:List Value,(l.mapM (λx=>(match x with|.tmp t=>pure (ca.getD t undef)|.cell a t=>do loadVar t (<-asAddr (ca.getD a undef)):Sem Value))).run P w=.ok us w/\b_ μ vs us
 |[],vs,h=>by cases h;exact⟨[],rfl,rfl⟩
 |x::l,vs,h=>by
  simp only[oS] at h
  split at h
  · rename_i v uK ab ad
    cases h
    obtain⟨u,ba,a7⟩:=QU ai ak ab
    obtain⟨us,b5,gr⟩:=Dh ai ak l uK ad
    refine⟨u::us,?_,⟨_,_,rfl,a7,gr⟩⟩
    rw[List.mapM_cons]
    simp only[Sem.run_bind]
    rw[ba]
    simp only[Result.andThen_ok,Sem.run_bind,b5,Sem.run_pure]
  · cases h
theorem Iw{need:Nat}{μ:bp}{H:J}{w:World}(ai:br μ H w){fn:Func}{r:aY}{ca:Array Value}(ak:ix need μ r ca){v:I}(h:pP P need fn r H=some v):
  ∃u,(results fn ca).run P w=.ok u w/\bl μ v u:=by
 unfold pP at h
 have iO:∀us:List Value,(fn.results.toList.mapM (λx=>(match x with|.tmp t=>pure (ca.getD t undef)|.cell a t=>do loadVar t (<-asAddr (ca.getD a undef)):Sem Value))).run P w=.ok us w->
   (results fn ca).run P w=.ok (if h:(⟨us⟩:Array Value).size=1 then(⟨us⟩:Array Value)[0] else .tuple ⟨us⟩) w:=by
  intro us iM
  have hm:(fn.results.mapM (λx=>(match x with|.tmp t=>pure (ca.getD t undef)|.cell a t=>do loadVar t (<-asAddr (ca.getD a undef)):Sem Value))).run P w=.ok ⟨us⟩ w:=by
   rw[Array.mapM_eq_mapM_toList]
   simp only[map_eq_pure_bind,Sem.run_bind]
   rw[iM];rfl
  unfold results
  simp only[Sem.run_bind]
  refine Eq.trans (congrArg (λq=>Result.andThen q _) hm) ?_
  rfl
 split at h
 · rename_i v' aS
   cases h
   obtain⟨us,ba,a7⟩:=Dh ai ak _ _ aS
   obtain⟨u,q9,rfl,b5,gr⟩:=a7
   cases gr
   exact⟨_,iO _ ba,b5⟩
 · rename_i vs cV aS
   cases h
   obtain⟨us,ba,a7⟩:=Dh ai ak _ _ aS
   refine⟨_,iO _ ba,?_⟩
   have:¬((⟨us⟩:Array Value).size=1):=by
    intro e
    have aw:=a7.length
    have cH:us.length=1:=e
    rw[cH] at aw
    obtain⟨x,aa⟩:=List.length_eq_one_iff.1 aw
    exact cV x aa
   rw[dif_neg this]
   exact⟨us,rfl,a7⟩
 · cases h
theorem Ix{call:aI->List I->J->av}(ag:jc P call)(hdr:∀need bP,mq P need bP call){f:FuncId}{fn:Func}(hf:P.funcs[f]? =some fn){kind:CallKind}{c:Code}(ae:fn.body=some c)(c9:hp fn.ntmps c=true)
  {args:List I}{vs:List Value}{q:bD}{H:J}{μ:bp}{w:World}{cs0 cs:List Frame}(aB:b_ μ args vs)(ai:br μ H w)(al:hd P μ)(aT:ht μ kind cs0 q cs):
  kP P (dG fn) fn.ntmps μ H w {(default:Frame) with fn:=f,kind:=kind} [] cs0 (lone (Frame.enter P f ⟨vs⟩ kind) cs w) (me P call fn args q H):=by
 unfold me
 rw[ae]
 simp only
 cases hle:Nat.ble args.length fn.ntmps with
 |false=>trivial
 |true=>
  have zU:args.length<=fn.ntmps:=by simpa using hle
  have hlen:=aB.length
  simp only
  have Di:Frame.enter P f ⟨vs⟩ kind=({(default:Frame) with fn:=f,kind:=kind}:Frame).atR {tmps:=⟨vs⟩++Array.replicate (fn.ntmps-vs.length) undef,defers:=[]} [.code c]:=by
   simp[Frame.enter,Frame.atR,hf,ae]
   rfl
  rw[Di]
  exact n2 ag (hdr _ _) (Ad ag) none c c9 {(default:Frame) with fn:=f,kind:=kind} (m3 0 args .leaf) [] q H μ w {tmps:=⟨vs⟩++Array.replicate (fn.ntmps-vs.length) undef,defers:=[]} [] cs0 cs rfl (Iv aB _) (by simp;omega) ai al rfl aT
def uL(P:Program):Prop:=∀(g:FuncId) (ho:Func) (gc:Code),P.funcs[g]? =some ho->ho.body=some gc->hp ho.ntmps gc=true/\(ho.name== "runtime.NumGoroutine")=false
theorem Ae{f:FuncId}{fn:Func}{c:Code}(hf:P.funcs[f]? =some fn)(ae:fn.body=some c)(aK:(fn.name== "runtime.NumGoroutine")=false)(args:Array Value)(w:World):(callFunc f args).run P w=.ok (.enter f args) w:=by
 have ni:¬fn.name= "runtime.NumGoroutine" :=by simpa using aK
 simp[callFunc,hf,ni,ae]
def mr(μ:bp):Option I->FrameMode->Prop
 |none,m=>m=.returning
 |some v,m=>∃u,m=.panicking [{v:=u,recovered:=false}]/\bl μ v u
theorem mr.mono{μ aX:bp}(hle:e2 μ aX){eE:Option I}{m:FrameMode}(h:mr μ eE m):mr aX eE m:=by
 cases eE with
 |none=>exact h
 |some v=>obtain⟨u,ab,ad⟩:=h;exact⟨u,ab,ad.mono hle⟩
theorem mr.run{μ:bp}{eE:Option I}{m:FrameMode}(h:mr μ eE m):m≠ .run:=by
 cases eE with
 |none=>intro e;cases h.symm.trans e
 |some v=>obtain⟨u,ab,_⟩:=h;intro e;cases ab.symm.trans e
theorem mr.q{μ:bp}{eE:Option I}{c:Frame}{cs:List Frame}(h:mr μ eE c.mode):ht μ .deferred (c::cs) (uu eE) (c::cs):=by
 cases eE with
 |none=>
  refine⟨rfl,λc3 aq=>?_⟩
  have an:c.mode=.returning:=h
  simp only[tryRecover,aq,an]
 |some v=>obtain⟨u,ab,ad⟩:=h;exact⟨rfl,rfl,c,cs,u,rfl,ab,ad⟩
theorem QV{μ:bp}{H:J}{w:World}(ai:br μ H w){r:Nat}{i:eM}(af:μ r=some i){cs:List bQ}(al:H.get r=some (.defrd (some cs))):
  ∃w' l,(Instr.takeDeferred i.bk).run P w=.ok l w'/\gl μ cs l/\br μ (H.set r (some (.defrd none))) w'/\b7 μ H w μ (H.set r (some (.defrd none))) w':=by
 obtain⟨l,aA,ay⟩:=ai.rel _ _ i al af
 have b8:=(ai.lt _ _ af).2
 obtain⟨r1,r2⟩:=ai.update (w':={w with heap:=w.heap.setIfInBounds i.bk (.deferred none)}) (o':=.defrd none) al rfl af (by simp) (λr ak=>by simp[Array.getElem?_setIfInBounds];intro e;exact absurd e.symm ak) rfl rfl rfl
  (show({w with heap:=w.heap.setIfInBounds i.bk (.deferred none)}:World).heap[i.bk]? =some (.deferred none) by simp[b8])
 refine⟨_,l,?_,ay,r1,r2⟩
 have iA:(getObj i.bk).run P w=.ok (.deferred (some l)) w:=by simp[getObj,Sem.run,aA]
 have eF:(setObj i.bk (.deferred none)).run P w=.ok () {w with heap:=w.heap.setIfInBounds i.bk (.deferred none)}:=by simp[setObj,Sem.run,aA]
 simp only[Instr.takeDeferred,Sem.run_bind,iA,Result.andThen_ok,eF,Sem.run_pure]
end
end aM
namespace aM
open Go
section
variable {P:Program}
theorem step_take{c3:Frame}{cs:List Frame}{w w':World}{b:Nat}{args:Array Value}{ds calls:List Deferred}(hm:c3.mode≠ .run)(ao:c3.defers={target:=.collected b,args:=args}::ds)(a_:(Instr.takeDeferred b).run P w=.ok calls w'):
  step P (lone c3 cs w)=.next (lone {c3 with defers:=calls++ds} cs w'):=by
 refine step_lone_go ?_
 cases Dj:c3.mode with
 |run=>exact absurd Dj hm
 |returning=>simp[stepG,unwind,Dj,ao,Sem.runT_eq,a_]
 |panicking chain=>simp[stepG,unwind,Dj,ao,Sem.runT_eq,a_]
theorem Ends.trans{μ hG:bp}{H H1:J}{w cK:World}{x:av}{e:Ending}{w':World}(ai:br μ H w)(iL:br hG H1 cK)(aS:b7 μ H w hG H1 cK)(h:Ends hG H1 cK x e w'):Ends μ H w x e w':=by
 cases x with
 |ret v aV=>obtain⟨aX,u,ab,ad,ar,aJ⟩:=h;exact⟨aX,u,ab,ad,ar,b7.trans ai iL aS aJ⟩
 |b4 v aV=>obtain⟨aX,u,ab,ad,ar,aJ⟩:=h;exact⟨aX,u,ab,ad,ar,b7.trans ai iL aS aJ⟩
 |fail s=>trivial
theorem Af{call:aI->List I->J->av}(ag:jc P call)(hdr:∀need bP,mq P need bP call)(eg:uL P){need:Nat}{fn:Func}{r:aY}:
  ∀(k:Nat) (eE:Option I) (ds:List bQ) (H:J) (μ:bp) (w:World) (c3:Frame) (cs:List Frame),(i_ P call need fn r k eE ds H).kN=true->br μ H w->hd P μ->ix need μ r c3.tmps->P.funcs[c3.fn]? =some fn->c3.kind=.normal->
   gl μ ds c3.defers->mr μ eE c3.mode->∃e w' Dk,Ends μ H w (i_ P call need fn r k eE ds H) e w'/\Steps P (lone c3 cs w) (lone Dk cs w')/\Dk.fn=c3.fn/\Dk.leaving P w' e
 |0,eE,ds,H,μ,w,c3,cs,b6,ai,al,ak,hf,aq,ao,aO=>by cases b6
 |k+1,eE,[],H,μ,w,c3,cs,b6,ai,al,ak,hf,aq,ao,aO=>by
  have n4:c3.defers=[]:=ao
  cases eE with
  |none=>
   simp only[i_] at b6⊢
   cases iO:pP P need fn r H with
   |none=>rw[iO] at b6;cases b6
   |some v=>
    obtain⟨u,ba,a7⟩:=Iw (P:=P) ai ak iO
    exact⟨.returned u,w,c3,⟨μ,u,rfl,a7,ai,b7.refl _ _ _⟩,Steps.refl _ _,rfl,aO,n4,aq,fn,hf,ba⟩
  |some v=>
   obtain⟨u,ab,ad⟩:=aO
   exact⟨.panicked _,w,c3,⟨μ,u,rfl,ad,ai,b7.refl _ _ _⟩,Steps.refl _ _,rfl,ab,n4,fn,hf⟩
 |k+1,eE,.collected b::ds,H,μ,w,c3,cs,b6,ai,al,ak,hf,aq,ao,aO=>by
  obtain⟨rf,dl,xj,ab,ad⟩:=ao
  cases ab with
  |collected _ i af=>
  simp only[i_] at b6⊢
  cases Dl:H.get b with
  |none=>rw[Dl] at b6;cases b6
  |some o=>
   rw[Dl] at b6
   cases o<;>try (cases b6;done)
   case defrd calls=>
    cases calls with
    |none=>cases b6
    |some QW=>
     simp only at b6⊢
     obtain⟨w',l,aA,ay,bx,ef⟩:=QV (P:=P) ai af Dl
     have hs:=step_take (cs:=cs) aO.run xj aA
     obtain⟨e,cG,jH,r1,r2,ed,fq⟩:=Af ag hdr eg k eE (QW++ds) _ μ w' {c3 with defers:=l++dl} cs b6 bx al ak hf aq (ay.append ad) aO
     refine⟨e,cG,jH,?_,Steps.head hs r2,ed,fq⟩
     exact Ends.trans ai bx ef r1
 |k+1,eE,.call g args::ds,H,μ,w,c3,cs,b6,ai,al,ak,hf,aq,ao,aO=>by
  obtain⟨rf,dl,xj,ab,ad⟩:=ao
  cases ab with
  |call _ _ cap vs QX=>
  simp only[i_] at b6⊢
  cases rn:P.funcs[g]? with
  |none=>rw[rn] at b6;cases b6
  |some ho=>
   rw[rn] at b6
   simp only at b6⊢
   cases uM:ho.body with
   |none=>
    have:me P call ho args (uu eE) H=.fail "no body" :=by simp[me,uM]
    rw[this] at b6;cases b6
   |some gc=>
    obtain⟨n5,qa⟩:=eg g ho gc rn uM
    have aT:ht μ .deferred ({c3 with defers:=dl}::cs) (uu eE) ({c3 with defers:=dl}::cs):=mr.q (c:={c3 with defers:=dl}) aO
    have ae:=Ix (P:=P) ag hdr rn (kind:=.deferred) uM n5 (args:=args) (vs:=vs++cap) (q:=uu eE) QX ai al aT
    have hinv:(invoke (.fn (.func g) ⟨cap⟩) ⟨vs⟩).run P w=.ok (.enter g ⟨vs++cap⟩) w:=by
     have:=Ae (P:=P) rn uM qa (⟨vs⟩++⟨cap⟩) w
     simpa[invoke] using this
    have Ag:=step_defer (P:=P) (cs:=cs) aO.run xj (d:={target:=.fn (.func g) ⟨cap⟩,args:=⟨vs⟩}) rfl hinv
    cases aa:me P call ho args (uu eE) H with
    |fail s=>rw[aa] at b6;cases b6
    |ok e r' bf bj aV=>
     rw[aa] at b6 ae
     obtain⟨aX,w',cy,bN,s1,s2,bI,bL,cb,cW,dw⟩:=ae
     simp only[G1] at b6⊢
     cases iO:pP P (dG ho) ho r' aV with
     |none=>rw[iO] at b6;cases e<;>cases bf<;>cases b6
     |some acb=>
      rw[iO] at b6
      obtain⟨u,ba,a7⟩:=Iw (P:=P) bL s2 iO
      have main:∀(he:e=.nrm\/e=.ret) (n4:bf=[]) (gv:(i_ P call need fn r k (wQ bj eE) ds aV).kN=true),
        ∃ay cG jH,Ends μ H w (i_ P call need fn r k (wQ bj eE) ds aV) ay cG/\Steps P (lone c3 cs w) (lone jH cs cG)/\jH.fn=c3.fn/\jH.leaving P cG ay:=by
       intro he n4 gv
       subst n4
       have xw:cy.defers=[]:=cW
       have xx:∃todo,Steps P (lone (Frame.enter P g ⟨vs++cap⟩ .deferred) ({c3 with defers:=dl}::cs) w) (lone {({(default:Frame) with fn:=g,kind:=.deferred}:Frame).atR cy todo with mode:=.returning} bN w'):=by
        rcases he with rfl|rfl
        · exact⟨_,Steps.trans s1 (.one (stepR_end rfl))⟩
        · obtain⟨bh,sS⟩:=s1
          exact⟨_,Steps.trans sS (.one (stepR_ret rfl))⟩
       obtain⟨todo,xx⟩:=xx
       have iA:({({(default:Frame) with fn:=g,kind:=.deferred}:Frame).atR cy todo with mode:=.returning}:Frame).going P w' (.returned u):=⟨rfl,xw,ho,rn,ba⟩
       have caller:∃m,bN={({c3 with defers:=dl}:Frame) with mode:=m}::cs/\mr aX (wQ bj eE) (settle m):=by
        have ck:mr aX eE (settle c3.mode):=by
         have xy:=aO.mono cb.le
         cases eE with
         |none=>have:c3.mode=.returning:=xy;rw[this];rfl
         |some v=>obtain⟨u,ab,ad⟩:=xy;rw[ab];exact⟨u,rfl,ad⟩
        cases bj with
        |none=>exact⟨c3.mode,dw.1,ck⟩
        |act v=>exact⟨c3.mode,dw.1,ck⟩
        |done v=>
         obtain⟨_,c,rest,u,aA,ay,bx,ef⟩:=dw
         cases aA
         exact⟨_,ef,rfl⟩
       obtain⟨m,rfl,QY⟩:=caller
       have ar:=step_going_returned (P:=P) (c:={({c3 with defers:=dl}:Frame) with mode:=m}) (cs:=cs) rfl iA
       obtain⟨ay,cG,jH,r1,r2,ed,fq⟩:=Af ag hdr eg k (wQ bj eE) ds aV aX w' {c3 with defers:=dl,mode:=settle m} cs gv bL (al.mono cb.le) (ak.mono cb.le) hf aq (ad.mono cb.le) QY
       exact⟨ay,cG,jH,Ends.trans ai bL cb r1,Steps.head Ag (Steps.trans xx (Steps.head ar r2)),ed,fq⟩
      cases bf with
      |cons x xs=>cases e<;>cases b6
      |nil=>
       cases e with
       |nrm=>exact main (.inl rfl) rfl b6
       |ret=>exact main (.inr rfl) rfl b6
       |exit id=>cases b6
       |goto l=>cases b6
       |b4 v=>cases b6
theorem Iy{P:Program}{m jI:Machine}{e:Ending}(h:Steps P m jI)(he:e≠ .outgrown):Comes P m jI e:=by
 cases e with
 |outgrown=>exact absurd rfl he
 |_=>exact h
theorem QZ{call:aI->List I->J->av}(ag:jc P call)(hdr:∀need bP,mq P need bP call)(eg:uL P){f:FuncId}{fn:Func}{c:Code}(hf:P.funcs[f]? =some fn)(ae:fn.body=some c)
  {args:List I}{vs:List Value}{H:J}{μ:bp}{w:World}(aB:b_ μ args vs)(ai:br μ H w)(al:hd P μ)(b6:(oT P call fn (me P call fn args .none H)).kN=true):
  Calls P f ⟨vs⟩ w (Ends μ H w (oT P call fn (me P call fn args .none H))):=by
 intro cs
 obtain⟨n5,qa⟩:=eg f fn c hf ae
 have aT:ht μ .normal cs .none cs:=⟨rfl,λc3 aq=>by simp[tryRecover,aq]⟩
 have ff:=Ix (P:=P) ag hdr hf (kind:=.normal) ae n5 aB ai al aT
 generalize aa:me P call fn args .none H=x at b6 ff⊢
 cases x with
 |fail s=>cases b6
 |ok e r d q aV=>
  obtain⟨aX,w',cy,bN,s1,s2,bI,bL,cb,cW,dw⟩:=ff
  have fx:bN=cs:=by
   cases q with
   |none=>exact dw.1
   |act v=>exact dw.1
   |done v=>exact absurd dw.1 (by intro h;cases h)
  subst fx
  have main:∀(eE:Option I) (c3:Frame),c3.fn=f->c3.tmps=cy.tmps->c3.defers=cy.defers->c3.kind=.normal->mr aX eE c3.mode->Steps P (lone (Frame.enter P f ⟨vs⟩ .normal) bN w) (lone c3 bN w')->
    (i_ P call (dG fn) fn r 100 eE d aV).kN=true->∃e cG jH,Ends μ H w (i_ P call (dG fn) fn r 100 eE d aV) e cG/\Comes P (lone (Frame.enter P f ⟨vs⟩ .normal) bN w) (lone jH bN cG) e/\jH.fn=f/\jH.leaving P cG e:=by
   intro eE c3 ab ad ar aJ bO cj gv
   subst ab
   obtain⟨ay,cG,jH,r1,r2,ed,fq⟩:=Af ag hdr eg 100 eE d aV aX w' c3 bN gv bL (al.mono cb.le) (by rw[ad];exact s2) hf aJ (by rw[ar];exact cW) bO
   have xz:=Ends.trans ai bL cb r1
   exact⟨ay,cG,jH,xz,Iy (cj.trans r2) (λe=>z7 gv _ (e▸xz)),ed,fq⟩
  cases e with
  |nrm=>exact main none {({(default:Frame) with fn:=f,kind:=.normal}:Frame).atR cy [] with mode:=.returning} rfl rfl rfl rfl rfl (Steps.trans s1 (.one (stepR_end rfl))) b6
  |ret=>obtain⟨bh,sS⟩:=s1;exact main none {({(default:Frame) with fn:=f,kind:=.normal}:Frame).atR cy (.code .ret::bh) with mode:=.returning} rfl rfl rfl rfl rfl (Steps.trans sS (.one (stepR_ret rfl))) b6
  |b4 v=>obtain⟨bh,u,ab,ad⟩:=s1;exact main (some v) _ rfl rfl rfl rfl ⟨u,rfl,ab.1⟩ ad b6
  |exit id=>cases b6
  |goto l=>cases b6
end
end aM
namespace aM
open Go
section
variable {P:Program}
theorem Iz{need:Nat}{μ:bp}:∀(ps:List Nat) (args:List I) (vs:List Value) (r fv:aY) (ca:Array Value),(∀t∈ps,t<ca.size)->ix need μ r ca->b_ μ args vs->uv ps args r=some fv->
  ix need μ fv ((ps.zip vs).foldl (λca (p:Nat×Value)=>ca.setIfInBounds p.1 p.2) ca)/\((ps.zip vs).foldl (λca (p:Nat×Value)=>ca.setIfInBounds p.1 p.2) ca).size=ca.size/\ps.length=vs.length
 |[],[],vs,r,fv,ca,aO,ak,aB,h=>by cases aB;cases h;exact⟨ak,rfl,rfl⟩
 |t::cv,v::args,vs,r,fv,ca,aO,ak,aB,h=>by
  obtain⟨u,us,rfl,ab,ad⟩:=aB
  simp only[uv] at h
  have p7:ix need μ (r.set (gU t) v) (ca.setIfInBounds t u):=λs hs=>by
   rw[aY.cR,xu (aO t (by simp))]
   by_cases e:s=t
   · rw[if_pos e,if_pos e];exact ab
   · rw[if_neg e,if_neg e];exact ak s hs
  obtain⟨ba,a7,b5⟩:=Iz cv args us _ fv (ca.setIfInBounds t u) (λs hs=>by simp;exact aO s (by simp[hs])) p7 ad h
  exact⟨ba,by rw[List.zip_cons_cons,List.foldl_cons];rw[a7];simp,by simp[b5]⟩
 |[],_::_,vs,r,fv,ca,aO,ak,aB,h=>by cases h
 |_::_,[],vs,r,fv,ca,aO,ak,aB,h=>by cases h
theorem Dm{μ:bp}{H:J}{w:World}(ai:br μ H w){l:Nat}{i:eM}(aw:μ l=some i){st:LoopState}{fM:Option Code}{gV:Nat}{rg:aY}{ps:List Nat}{as cf:Code}{eD:Nat}(al:H.get l=some (.loop st fM gV rg ps as cf eD)):
  ∃ca hF fn,μ eD=some hF/\(Instr.getLoop i.bk).run P w=.ok {state:=st,pending:=fM,fn:=fn,tmps:=ca,params:=⟨ps⟩,assign:=as,body:=cf,defers:=hF.bk} w/\ix gV μ rg ca/\hp ca.size as=true/\hp ca.size cf=true/\(∀t∈ps,t<ca.size)/\
   ∀bZ uN,∃w',(setObj i.bk (.loop {state:=bZ,pending:=uN,fn:=fn,tmps:=ca,params:=⟨ps⟩,assign:=as,body:=cf,defers:=hF.bk})).run P w=.ok () w'/\
    br μ (H.set l (some (.loop bZ uN gV rg ps as cf eD))) w'/\b7 μ H w μ (H.set l (some (.loop bZ uN gV rg ps as cf eD))) w':=by
 obtain⟨ca,hF,fn,aA,ay,bx,ef,ga,gM⟩:=ai.rel _ _ i al aw
 have b8:=(ai.lt _ _ aw).2
 have iA:(getObj i.bk).run P w=.ok (.loop {state:=st,pending:=fM,fn:=fn,tmps:=ca,params:=⟨ps⟩,assign:=as,body:=cf,defers:=hF.bk}) w:=by simp[getObj,Sem.run,ay]
 refine⟨ca,hF,fn,aA,?_,bx,ef,ga,gM,λbZ uN=>?_⟩
 · simp only[Instr.getLoop,Sem.run_bind,iA,Result.andThen_ok,Sem.run_pure]
 · obtain⟨r1,r2⟩:=ai.update (w':={w with heap:=w.heap.setIfInBounds i.bk (.loop {state:=bZ,pending:=uN,fn:=fn,tmps:=ca,params:=⟨ps⟩,assign:=as,body:=cf,defers:=hF.bk})}) (o':=.loop bZ uN gV rg ps as cf eD) al rfl aw (by simp) (λr ak=>by simp[Array.getElem?_setIfInBounds];intro e;exact absurd e.symm ak) rfl rfl rfl
     ⟨ca,hF,fn,aA,by simp[b8],bx,ef,ga,gM⟩
   exact⟨_,by simp[setObj,Sem.run,ay],r1,r2⟩
theorem Q0{b:Frame}{a:Act}{bh:List Item}{c:Frame}{cs:List Frame}{w:World}{chain:List PanicEntry}(ao:a.defers=[])(aK:Db bh):
  step P (lone {b.atR a bh with mode:=.panicking chain} (c::cs) w)=.next (lone (c.raise chain) cs w):=by
 have Q1:({b.atR a bh with mode:=.panicking chain}:Frame).catches P=false:=by
  unfold Frame.catches
  cases hf:P.funcs[b.fn]? with
  |some fn=>simp[Frame.atR,hf]
  |none=>
   cases bh with
   |nil=>simp[Frame.atR,hf]
   |cons x t=>cases x<;>first|exact aK.elim|simp[Frame.atR,hf]
 refine step_lone_go ?_
 have IA:=Q1
 simp only[Frame.atR,ao] at IA⊢
 simp[stepG,unwind,IA]
theorem Q2{μ:bp}{H:J}{w:World}{l:Nat}{i:eM}(aw:μ l=some i){b:Frame}(ae:b.roundOf=some i.bk)(aq:b.kind=.normal){need bP:Nat}{c:Frame}{cs:List Frame}{e7:Machine}{x:jq}(aa:kP P need bP μ H w b [] (c::cs) e7 x)(acd:∀c3:Frame,c3.kind=b.kind->tryRecover c3 (c::cs)=none)(b6:(wR l x).kN=true)(ai:br μ H w):
  rk P e7 c cs (Ends μ H w (wR l x)):=by
 cases x with
 |fail s=>cases b6
 |ok e r d q aV=>
  obtain⟨aX,w',cy,bN,s1,s2,bI,bL,cb,cW,dw⟩:=aa
  have fx:bN=c::cs:=by
   cases q with
   |none=>exact dw.1
   |act v=>exact dw.1
   |done v=>exact absurd (aq.symm.trans dw.1) (by intro h;cases h)
  subst fx
  cases d with
  |cons y ys=>cases b6
  |nil=>
   have xw:cy.defers=[]:=cW
   simp only[wR] at b6⊢
   cases al:aV.get l with
   |none=>rw[al] at b6;cases b6
   |some o=>
    rw[al] at b6
    cases o<;>try (cases b6;done)
    case loop st fM gV rg ps as cf eD=>
     cases st<;>try (cases b6;done)
     simp only at b6⊢
     obtain⟨ca,hF,fn,aj,ax,_,_,_,_,aC⟩:=Dm (P:=P) bL (cb.le _ _ aw) al
     have fin:∀nh:Option Code,∃cG,(Instr.endRound i.bk nh).run P w'=.ok (.bool nh.isNone) cG/\br aX (aV.set l (some (.loop (if nh.isNone then .ready else .done) nh gV rg ps as cf eD))) cG/\b7 aX aV w' aX (aV.set l (some (.loop (if nh.isNone then .ready else .done) nh gV rg ps as cf eD))) cG:=λnh=>by
      obtain⟨cG,ba,a7,b5⟩:=aC (if nh.isNone then .ready else .done) nh
      refine⟨cG,?_,a7,b5⟩
      simp only[Instr.endRound,Sem.run_bind,ax,Result.andThen_ok,ba,Sem.run_pure]
     cases e with
     |nrm=>
      obtain⟨cG,ba,a7,b5⟩:=fin none
      exact⟨.returned (.bool true),cG,⟨aX,_,rfl,rfl,a7,b7.trans ai bL cb b5⟩,Steps.trans s1 (.one (stepR_round_end ae aq ba))⟩
     |ret=>
      obtain⟨bh,s1⟩:=s1
      obtain⟨cG,ba,a7,b5⟩:=fin (some .ret)
      exact⟨.returned (.bool false),cG,⟨aX,_,rfl,rfl,a7,b7.trans ai bL cb b5⟩,Steps.trans s1 (.one (stepR_round_ret ae aq ba))⟩
     |exit id=>
      obtain⟨bh,sS,s1⟩:=s1
      obtain⟨cG,ba,a7,b5⟩:=fin (some (.exit id))
      exact⟨.returned (.bool false),cG,⟨aX,_,rfl,rfl,a7,b7.trans ai bL cb b5⟩,Steps.trans s1 (.one (stepR_round_exit ae aq (sS.trans rfl) ba))⟩
     |b4 v=>
      obtain⟨bh,u,⟨ab,ad⟩,s1⟩:=s1
      exact⟨.panicked _,w',⟨aX,u,rfl,ab,bL,cb⟩,Steps.trans s1 (.one (Q0 xw ad))⟩
     |goto t=>cases b6
theorem Q3{call:aI->List I->J->av}(ag:jc P call)(hdr:∀need bP,mq P need bP call){l:Nat}{args:List I}{H:J}{μ:bp}{w:World}{i:eM}{vs:List Value}(b6:(su P call l args H).kN=true)(ai:br μ H w)(mj:hd P μ)(aw:μ l=some i)(aB:b_ μ args vs):
  H_ P i.bk vs w (Ends μ H w (su P call l args H)):=by
 unfold su at b6⊢
 cases al:H.get l with
 |none=>rw[al] at b6;cases b6
 |some o=>
  rw[al] at b6
  cases o<;>try (cases b6;done)
  case loop st fM gV rg ps as cf eD=>
   cases st<;>try (cases b6;done)
   simp only at b6⊢
   cases aZ:uv ps args rg with
   |none=>rw[aZ] at b6;cases b6
   |some fv=>
    rw[aZ] at b6
    simp only at b6⊢
    obtain⟨ca,hF,fn,aj,ax,aC,bK,bW,dZ,eQ⟩:=Dm (P:=P) ai aw al
    obtain⟨ei,gf,lL⟩:=Iz ps args vs rg fv ca dZ aC aB aZ
    obtain⟨uO,IB⟩:∃uO,(ps.zip vs).foldl (λca (p:Nat×Value)=>ca.setIfInBounds p.1 p.2) ca=uO:=⟨_,rfl⟩
    rw[IB] at ei gf
    refine⟨fn,uO,as,cf,?_,λc cs=>?_⟩
    · simp only[Instr.yield,Sem.run_bind,ax,Result.andThen_ok]
      rw[if_neg (by simp;omega)]
      simp only[Sem.run_bind,Sem.run_pure,Result.andThen_ok]
      rw[<-IB]
      simp
    · have Q4:Frame.round i.bk fn uO as cf .normal=({(default:Frame) with fn:=fn,kind:=.normal,roundOf:=some i.bk}:Frame).atR {tmps:=uO,defers:=[]} [.code as,.beginRound,.code cf]:=rfl
      rw[Q4]
      have aT:ht μ .normal (c::cs) .none (c::cs):=⟨rfl,λc3 aq=>by simp[tryRecover,aq]⟩
      have cC:mo μ ({(default:Frame) with fn:=fn,kind:=.normal,roundOf:=some i.bk}:Frame) (some l):=⟨i,aw,rfl⟩
      have ab:=n2 ag (hdr gV ca.size) (Ad ag) (some l) as bK {(default:Frame) with fn:=fn,kind:=.normal,roundOf:=some i.bk} fv [] .none H μ w {tmps:=uO,defers:=[]} [.beginRound,.code cf] (c::cs) (c::cs) cC ei gf ai mj rfl aT
      generalize du P gV (some l) call as fv [] .none H=x at ab b6⊢
      cases x with
      |fail s=>cases b6
      |ok e r1 d1 ba H1=>
       cases e<;>try (cases b6;done)
       case nrm=>
        cases d1<;>try (cases b6;done)
        case nil=>
         obtain⟨hG,cK,cw,jJ,s1,s2,bI,bL,cb,cW,dw⟩:=ab
         have fx:jJ=c::cs:=by
          cases ba with
          |none=>exact dw.1
          |act v=>exact dw.1
          |done v=>exact absurd dw.1 (by intro h;cases h)
         subst fx
         simp only[Cs] at b6⊢
         cases dV:H1.get l with
         |none=>rw[dV] at b6;cases b6
         |some dv=>
          rw[dV] at b6
          cases dv<;>try (cases b6;done)
          case loop ko Q5 ace acf acg ach Dn aci=>
           cases ko<;>try (cases b6;done)
           simp only at b6⊢
           obtain⟨acj,ack,acm,bE,b0,ec,gP,hg,ic,xA⟩:=Dm (P:=P) bL (cb.le _ _ aw) dV
           obtain⟨cG,bt,bH,ej⟩:=xA .busy Q5
           have xr:(Instr.beginRound i.bk).run P cK=.ok () cG:=by
            simp only[Instr.beginRound,Sem.run_bind,b0,Result.andThen_ok,bt,Sem.run_pure]
           have ch:=stepR_beginRound (P:=P) (b:={(default:Frame) with fn:=fn,kind:=.normal,roundOf:=some i.bk}) (a:=cw) (k:=[.code cf]) (cs:=c::cs) rfl xr
           have qb:ht hG .normal (c::cs) .none (c::cs):=⟨rfl,λc3 aq=>by simp[tryRecover,aq]⟩
           have Q6:mo hG ({(default:Frame) with fn:=fn,kind:=.normal,roundOf:=some i.bk}:Frame) (some l):=⟨i,cb.le _ _ aw,rfl⟩
           have xw:gl hG [] cw.defers:=cW
           have ad:=n2 ag (hdr gV ca.size) (Ad ag) (some l) cf bW {(default:Frame) with fn:=fn,kind:=.normal,roundOf:=some i.bk} r1 [] .none _ hG cG cw [] (c::cs) (c::cs) Q6 s2 bI bH (mj.mono cb.le) xw qb
           have ar:=ad.of_steps ai bH (Steps.trans s1 (.one ch)) (b7.trans ai bL cb ej)
           exact Q2 aw rfl rfl ar (λc3 aq=>by simp[tryRecover,aq]) b6 ai
end
end aM
namespace aM
open Go
section
variable {P:Program}
def rp:List String:=["internal/abi.NoEscape","internal/bytealg.MakeNoZero","internal/bytealg.IndexByteString","maps.clone"]
def Ah(P:Program):Prop:=∀(g:FuncId) (ho:Func),P.funcs[g]? =some ho->ho.body=none->ho.name∈rp->Extern.findNext ho=none
theorem IC:∀(n t:Nat) (acc:Array Value),(Extern.BytealgMakeNoZero.digits n t acc).size=acc.size+n
 |0,t,acc=>rfl
 |n+1,t,acc=>by rw[Extern.BytealgMakeNoZero.digits,IC n];simp;omega
theorem Q7{fn:Func}(aK:fn.name= "internal/abi.NoEscape"):Extern.find fn=some Extern.AbiNoEscape.same:=by
 have ab:Extern.allGenericRows.lookup "internal/abi.NoEscape" =none:=by rfl
 have ad:Extern.allTypedRows.lookup "internal/abi.NoEscape" =none:=by rfl
 have ar:Extern.allRows.lookup "internal/abi.NoEscape" =some Extern.AbiNoEscape.same:=by rfl
 simp[Extern.find,aK,ab,ad,ar]
theorem Q8{fn:Func}(aK:fn.name= "internal/bytealg.MakeNoZero"):Extern.find fn=some (Extern.BytealgMakeNoZero.makeNoZero fn.params fn.resultTypes):=by
 have ab:Extern.allGenericRows.lookup "internal/bytealg.MakeNoZero" =none:=by rfl
 have ad:Extern.allTypedRows.lookup "internal/bytealg.MakeNoZero" =some Extern.BytealgMakeNoZero.makeNoZero:=by rfl
 simp[Extern.find,aK,ab,ad]
theorem Q9{fn:Func}(aK:fn.name= "internal/bytealg.IndexByteString"):Extern.find fn=some Extern.BytealgIndexByte.indexByte:=by
 have ab:Extern.allGenericRows.lookup "internal/bytealg.IndexByteString" =none:=by rfl
 have ad:Extern.allTypedRows.lookup "internal/bytealg.IndexByteString" =none:=by rfl
 have ar:Extern.allRows.lookup "internal/bytealg.IndexByteString" =some Extern.BytealgIndexByte.indexByte:=by rfl
 simp[Extern.find,aK,ab,ad,ar]
theorem Q_{fn:Func}(aK:fn.name= "maps.clone"):Extern.find fn=some Extern.MapsClone.clone:=by
 have ab:Extern.allGenericRows.lookup "maps.clone" =none:=by rfl
 have ad:Extern.allTypedRows.lookup "maps.clone" =none:=by rfl
 have ar:Extern.allRows.lookup "maps.clone" =some Extern.MapsClone.clone:=by rfl
 simp[Extern.find,aK,ab,ad,ar]
theorem ID(c:Nat):∀(l:List UInt8) (i:Nat),nR c l i=match l.findIdx? (λb=>Nat.beq b.toNat c) with
  |some j=>((i+j:Nat):Int)
  |none=>-1
 |[],i=>rfl
 |b::l,i=>by
  rw[nR,List.findIdx?_cons]
  cases Nat.beq b.toNat c with
  |true=>simp
  |false=>
   simp only[ID c l (i+1)]
   cases l.findIdx? (λb=>Nat.beq b.toNat c) with
   |none=>rfl
   |some j=>
    simp only[Option.map_some]
    have:((i+(j+1):Nat):Int)=((i+1+j:Nat):Int):=by congr 1;omega
    exact this.symm
theorem Ra(b:ByteArray)(p:UInt8->Bool):(List.range b.size).find? (λi=>p b[i]!)=b.data.toList.findIdx? p:=by
 have bw:b.data.toList.length=b.size:=Array.length_toList
 have hH:∀(i:Nat) (af:i<b.data.toList.length),b[i]! =b.data.toList[i]:=λi af=>by
  have eJ:i<b.size:=by omega
  rw[getElem!_pos b i eJ];rfl
 cases hf:b.data.toList.findIdx? p with
 |none=>
  rw[List.find?_eq_none]
  intro i af
  have eJ:i<b.data.toList.length:=by rw[bw];simpa using af
  rw[hH i eJ]
  have:=List.findIdx?_eq_none_iff.1 hf _ (List.getElem_mem eJ)
  rw[this];exact Bool.false_ne_true
 |some j=>
  obtain⟨aL,aO,b8⟩:=List.findIdx?_eq_some_iff_getElem.1 hf
  rw[List.find?_range_eq_some]
  refine⟨?_,by simp;omega,λi af=>?_⟩
  · rw[hH j aL];exact aO
  · rw[hH i (by omega)]
    have:=b8 i af
    simpa using this
theorem Rb{α:Type}(n:Int)(f:Int->α)(g:Array Value->α):Extern.BytealgMakeNoZero.makeNoZero.match_3 (λ_=>α) #[.int .i64 n] f g=f n:=rfl
theorem Rc{α:Type}(t:TypeId)(r:Nat)(f:TypeId->Nat->α)(e:TypeId->α)(g:Array Value->α):Extern.MapsClone.clone.match_2 (λ_=>α) #[.iface t (.map (some r))] f e g=f t r:=rfl
theorem Rd{α:Type}(b c:Value)(f:Value->Value->α)(g:Array Value->α):Extern.BytealgIndexByte.indexByte.match_2 (λ_=>α) #[b,c] f g=f b c:=rfl
theorem Re{f:FuncId}{fn:Func}(hf:P.funcs[f]? =some fn)(ae:fn.body=none)(uP:Ah P){args:List I}{H aV:J}{v:I}(h:qS P fn fn.name args H=some (v,aV))
  {μ:bp}{w:World}{vs:List Value}(ai:br μ H w)(aB:b_ μ args vs):
  ∃u w',(callFunc f ⟨vs⟩).run P w=.ok (.value u) w'/\Ends μ H w (.ret v aV) (.returned u) w':=by
 have call:∀e:Array Value->Sem Value,fn.name∈rp->Extern.find fn=some e->(callFunc f ⟨vs⟩).run P w=(do let v<-e ⟨vs⟩;pure (.value v):Sem Next).run P w:=by
  intro e hm he
  have aK:=uP f fn hf ae hm
  have Dp:(fn.name== "runtime.NumGoroutine")=false:=by
   simp only[rp,List.mem_cons,List.mem_nil_iff,or_false] at hm
   rcases hm with h|h|h|h<;>rw[h]<;>decide
  rw[run_callFunc_extern hf Dp (by rw[ae];rfl) aK he];simp only[Sem.run_bind];rfl
 unfold qS at h
 split at h
 · rename_i n
   split at h
   · rename_i n6
     split at h
     · rename_i t a_
       split at h
       · rename_i e hu
         split at h
         · rename_i hle
           cases h
           have zU:n<=1099511627776:=by simpa using hle
           obtain⟨u,us,rfl,ab,ad⟩:=aB
           cases ab;cases ad
           have bw:∀(t:TypeId),(Question.appendCap n 0 t).forced=false:=λ_=>rfl
           obtain⟨cap,kj,IE⟩:∃cap,(Question.appendCap n 0 e).cut (w.tape w.drawn (Question.appendCap n 0 e))=cap/\n<=cap:=⟨_,rfl,by simp[Question.cut]⟩
           obtain⟨IF,nj⟩:∃x,(Question.extern "internal/bytealg.MakeNoZero.bytes" 0).cut (w.drew.tape w.drew.drawn (Question.extern "internal/bytealg.MakeNoZero.bytes" 0))=x:=⟨_,rfl⟩
           have ao:=IC cap IF #[]
           have rq:=ai.drew.drew
           obtain⟨r1,r2⟩:=rq.alloc (.cells (List.replicate n .bad) e .a1 0 0) (.cells (Extern.BytealgMakeNoZero.digits cap IF #[]) e) cap
            ⟨_,0,0,World.heap_alloc_new _ _,λj v aL=>by
              have gF:j<n:=by
               rcases Nat.lt_or_ge j n with h|h
               · exact h
               · rw[List.getElem?_eq_none (by simpa using h)] at aL;cases aL
              rw[List.getElem?_replicate,if_pos gF] at aL
              cases aL
              refine⟨_,Array.getElem?_eq_getElem (by rw[Nat.zero_add,ao];simp;omega),trivial⟩,by rw[ao];simp,by simpa using IE,λj _ _ h=>by omega⟩
           refine⟨_,_,?_,fm μ H.n ⟨w.drew.drew.heap.size,0,cap⟩,_,rfl,⟨_,gp _ _ _,cap,rfl,IE,by simp⟩,r1,b7.trans ai ai.drew b7.drew (b7.trans ai.drew rq b7.drew r2)⟩
           rw[call _ (by rw[n6];simp[rp]) (Q8 n6)]
           have Rf:¬((Int.ofNat n<0||Int.ofNat n>2^48)=true):=by
            have ad:(2:Int)^48=281474976710656:=by rfl
            have ar:Int.ofNat n=(n:Int):=rfl
            rw[ad,ar];simp only[Bool.or_eq_true,decide_eq_true_eq];omega
           have Rg:(Question.extern "internal/bytealg.MakeNoZero.bytes" 0).forced=false:=rfl
           have xB:(Int.ofNat n).toNat=n:=rfl
           delta Extern.BytealgMakeNoZero.makeNoZero
           rw[Rb]
           simp only[Sem.run_bind,a_,Sem.run_pure,bU hu,Result.andThen_ok]
           rw[if_neg Rf]
           simp only[Sem.run_bind,run_choose,xB,bw,Rg,Bool.false_eq_true,if_false,World.drew_eq,kj,Result.andThen_ok,run_askRoom,nj,Sem.run_pure]
           rfl
         · cases h
       · cases h
     · cases h
   · cases h
 · rename_i x _
   obtain⟨u,us,rfl,ab,ad⟩:=aB
   cases ad
   split at h
   · rename_i n6
     cases h
     refine⟨u,w,?_,μ,u,rfl,ab,ai,b7.refl _ _ _⟩
     rw[call _ (by rw[n6];simp[rp]) (Q7 n6)]
     rfl
   · split at h
     · rename_i n6
       split at h
       · rename_i t r
         split at h
         · rename_i es c al
           cases h
           obtain⟨y,rfl,i,af,rfl⟩:=ab
           obtain⟨ents,aA,ay⟩:=ai.rel _ _ i al af
           have hle:=ai.nU ⟨w.heap.size,0,0⟩
           obtain⟨r1,r2⟩:=ai.alloc (.map es c) (.map ⟨ents⟩ c) 0 ⟨ents,World.heap_alloc_new _ _,ay.mono hle⟩
           refine⟨_,_,?_,fm μ H.n ⟨w.heap.size,0,0⟩,.iface _ (.map (some w.heap.size)),rfl,⟨.map (some w.heap.size),rfl,⟨w.heap.size,0,0⟩,gp _ _ _,rfl⟩,r1,r2⟩
           rw[call _ (by rw[n6];simp[rp]) (Q_ n6)]
           have iA:(getObj i.bk).run P w=.ok (.map ⟨ents⟩ c) w:=by simp[getObj,Sem.run,aA]
           simp only[Sem.run_bind]
           rw[show(⟨[Value.iface _ (Value.map (some i.bk))]⟩:Array Value)=#[.iface _ (.map (some i.bk))] from rfl]
           delta Extern.MapsClone.clone
           rw[Rc]
           simp only[Sem.run_bind,iA,Result.andThen_ok,run_newObj,Sem.run_pure]
           rfl
         · cases h
       · cases h
     · cases h
 · rename_i s c
   split at h
   · rename_i n6
     split at h
     · rename_i ag
       cases h
       have oW:c<256:=by simpa using ag
       obtain⟨u,us,rfl,ab,ad⟩:=aB
       obtain⟨uF,acn,rfl,ar,aJ⟩:=ad
       cases ar;cases aJ
       obtain⟨t,rfl,rfl⟩:=ab
       refine⟨_,w,?_,μ,_,rfl,rfl,ai,b7.refl _ _ _⟩
       rw[call _ (by rw[n6];simp[rp]) (Q9 n6)]
       have nj:(Int.ofNat c).toNat.toUInt8=UInt8.ofNat c:=rfl
       have heq:∀b:UInt8,(b==UInt8.ofNat c)=Nat.beq b.toNat c:=λb=>by
        rw[Bool.eq_iff_iff,beq_iff_eq,Nat.beq_eq,<-UInt8.toNat_inj]
        simp[Nat.mod_eq_of_lt oW]
       delta Extern.BytealgIndexByte.indexByte
       rw[Rd]
       simp only[Sem.run_bind,Extern.Bytes.bytesOf,Extern.Bytes.asByte,Sem.run_pure,Result.andThen_ok,nj,heq]
       have hf:=Ra t (λb=>Nat.beq b.toNat c)
       rw[hf,ID]
       cases t.data.toList.findIdx? (λb=>Nat.beq b.toNat c) with
       |none=>rfl
       |some j=>
        simp only[Nat.zero_add]
        rfl
     · cases h
   · cases h
 · cases h
def nk(P:Program)(intr:Nat->List I->J->Option (I×J)):Prop:=
 ∀f args H v aV,intr f args H=some (v,aV)->∀μ w (vs:List Value),br μ H w->hd P μ->b_ μ args vs->sN P f vs w (Ends μ H w (.ret v aV))
theorem Rh(P:Program):nk P (λ_ _ _=>none):=λ_ _ _ _ _ h=>by cases h
theorem Ri{call:aI->List I->J->av}(ag:jc P call)(hdr:∀need bP,mq P need bP call)(eg:uL P)(uP:Ah P){f:Nat}{args:List I}{H:J}(b6:(pQ P call f args H).kN=true)
  {μ:bp}{w:World}{vs:List Value}(ai:br μ H w)(al:hd P μ)(aB:b_ μ args vs):sN P f vs w (Ends μ H w (pQ P call f args H)):=by
 unfold pQ at b6⊢
 cases hf:P.funcs[f]? with
 |none=>rw[hf] at b6;cases b6
 |some fn=>
  rw[hf] at b6
  simp only at b6⊢
  cases ae:fn.body with
  |none=>
   rw[ae] at b6
   simp only at b6⊢
   cases aa:qS P fn fn.name args H with
   |none=>rw[aa] at b6;cases b6
   |some p=>
    obtain⟨v,aV⟩:=p
    obtain⟨u,w',ab,ad⟩:=Re hf ae uP aa ai aB
    exact .inl ⟨u,w',ab,ad⟩
  |some c=>
   rw[ae] at b6
   simp only at b6⊢
   obtain⟨n5,qa⟩:=eg f fn c hf ae
   exact .inr ⟨Ae hf ae qa _ _,QZ ag hdr eg hf ae aB ai al b6⟩
theorem IG{intr:Nat->List I->J->Option (I×J)}(af:nk P intr)(hdr:∀call,jc P call->∀need bP,mq P need bP call)(eg:uL P)(uP:Ah P):∀n,jc P (e6 P intr n)
 |0=>⟨λf args H al=>(by cases al),λl args H al=>(by cases al)⟩
 |n+1=>by
  have a6:=IG af hdr eg uP n
  refine⟨λf args H b6 μ w vs ai al aB=>?_,λl args H b6 μ w i vs ai al aw aB=>?_⟩
  · simp only[e6] at b6⊢
    cases aa:intr f args H with
    |some p=>
     obtain⟨v,aV⟩:=p
     exact af f args H v aV aa μ w vs ai al aB
    |none=>
     rw[aa] at b6
     exact Ri a6 (hdr _ a6) eg uP b6 ai al aB
  · simp only[e6] at b6⊢
    exact Q3 a6 (hdr _ a6) b6 ai al aw aB
end
end aM
namespace aM
open Go
def sU(ops:Array Oper)(S:List Nat):List Nat->Prop
 |[]=>∀i,i<ops.size->i∈S
 |i::rest=>i<ops.size/\i∉S/\(∀o,ops[i]? =some o->∀e∈o.after,Region.binds .any e=true->e.on∈S)/\sU ops (i::S) rest
theorem filter_lt{p q:Nat->Bool}(Dq:∀x,q x=true->p x=true):∀(l:List Nat) {i:Nat},i∈l->p i=true->q i=false->(l.filter q).length<(l.filter p).length
 |[],i,h,_,_=>by cases h
 |a::l,i,h,aO,aT=>by
  have hle:∀l:List Nat,(l.filter q).length<=(l.filter p).length:=λl=>by
   induction l with
   |nil=>simp
   |cons b l a6=>
    simp only[List.filter_cons]
    cases ae:q b with
    |true=>simp[Dq b ae];exact a6
    |false=>cases p b<;>simp<;>omega
  rcases List.mem_cons.1 h with rfl|h
  · have:=hle l
    simp only[List.filter_cons,aO,aT,if_true,Bool.false_eq_true,if_false,List.length_cons];omega
  · have a6:=filter_lt Dq l h aO aT
    simp only[List.filter_cons]
    cases ae:q a with
    |true=>simp[Dq a ae];exact a6
    |false=>cases p a<;>simp<;>omega
theorem Rj{ops:Array Oper}(rr:∀o i,ops[i]? =some o->nS o i=true){listed:Array Bool}(bw:listed.size=ops.size)(ak:Region.ready .any ops listed=[]):∀i,i<ops.size->listed.getD i true=true:=by
 intro i
 induction i using Nat.strongRecOn with
 |ind i a6=>
  intro af
  cases aw:listed.getD i true with
  |true=>rfl
  |false=>
   have a2:ops[i]? =some ops[i]:=Array.getElem?_eq_getElem af
   have:i∈Region.ready .any ops listed:=mem_ready.2 ⟨aw,ops[i],a2,λe he ae=>by
    have:=rr _ _ a2
    unfold nS at this
    rw[List.all_eq_true] at this
    have ad:=this e (by simpa using he)
    simp only[ae,Bool.not_true,Bool.false_or,Nat.blt_eq] at ad
    have ar:=a6 e.on ad (by omega)
    have b8:e.on<listed.size:=by omega
    simp[b8] at ar⊢
    exact ar⟩
   rw[ak] at this;cases this
theorem IH{ops:Array Oper}(rr:∀o i,ops[i]? =some o->nS o i=true):∀(fuel t:Nat) (listed:Array Bool) (S:List Nat),listed.size=ops.size->(∀i,i<ops.size->(listed.getD i true=true<->i∈S))->
  ((List.range ops.size).filter λi=>!listed.getD i true).length<=fuel->sU ops S (Region.linearise.go .any ops fuel t listed [])
 |0,t,listed,S,bw,ib,hf=>by
  simp only[Region.linearise.go,List.reverse_nil,sU]
  intro i af
  rw[<-ib i af]
  have h0:((List.range ops.size).filter λi=>!listed.getD i true)=[]:=List.length_eq_zero_iff.1 (Nat.le_zero.1 hf)
  rw[List.filter_eq_nil_iff] at h0
  have:=h0 i (List.mem_range.2 af)
  simpa using this
 |fuel+1,t,listed,S,bw,ib,hf=>by
  simp only[Region.linearise.go]
  change sU ops S (match(Region.ready .any ops listed)[t %(Region.ready .any ops listed).length]? with
   |some i=>Region.linearise.go .any ops fuel (t/(Region.ready .any ops listed).length) (listed.setIfInBounds i true) [i]
   |none=>[].reverse)
  cases af:(Region.ready .any ops listed)[t %(Region.ready .any ops listed).length]? with
  |none=>
   have qc:Region.ready .any ops listed=[]:=by
    cases ak:Region.ready .any ops listed with
    |nil=>rfl
    |cons x xs=>
     rw[ak] at af
     have b8:t %(x::xs).length<(x::xs).length:=Nat.mod_lt _ (by simp)
     rw[List.getElem?_eq_getElem b8] at af;cases af
   simp only[List.reverse_nil,sU]
   exactλi h=>(ib i h).1 (Rj rr bw qc i h)
  |some i=>
   simp only[]
   rw[linearise_go_acc,List.reverse_singleton,List.singleton_append]
   obtain⟨ab,o,ad,ar⟩:=mem_ready.1 (List.mem_of_getElem? af)
   have b8:i<ops.size:=(Array.getElem?_eq_some_iff.1 ad).1
   have w7:i<listed.size:=by omega
   have p7:∀j d,(listed.setIfInBounds i true).getD j d=if j=i then true else listed.getD j d:=λj d=>by
    simp only[Array.getD_eq_getD_getElem?,Array.getElem?_setIfInBounds]
    by_cases e:i=j
    · subst e;simp[w7]
    · rw[if_neg e,if_neg (λh=>e h.symm)]
   refine⟨b8,λh=>?_,λo' ie e he ae=>?_,IH rr fuel _ _ _ (by simpa using bw) (λj aL=>?_) ?_⟩
   · have:=(ib i b8).2 h
     rw[ab] at this;cases this
   · rw[ad] at ie;cases ie
     have aJ:=ar e he ae
     have o7:e.on<listed.size:=by
      rcases Nat.lt_or_ge e.on listed.size with h|h
      · exact h
      · simp[Array.getElem?_eq_none h] at aJ
     rw[<-ib e.on (by omega)]
     simp[o7] at aJ⊢
     exact aJ
   · rw[p7,List.mem_cons]
     by_cases e:j=i
     · simp[e]
     · rw[if_neg e,ib j aL];simp[e]
   · have aco:((List.range ops.size).filter λj=>!(listed.setIfInBounds i true).getD j true).length<((List.range ops.size).filter λj=>!listed.getD j true).length:=
       filter_lt (λx aa=>by
        rw[p7] at aa
        by_cases e:x=i
        · rw[if_pos e] at aa;cases aa
        · rw[if_neg e] at aa;exact aa) _ (List.mem_range.2 b8) (by rw[ab];rfl) (by rw[p7,if_pos rfl];rfl)
     omega
theorem Rk{ops:Array Oper}(rr:∀o i,ops[i]? =some o->nS o i=true)(t:Nat):sU ops [] (Region.schedule true ops t):=by
 simp only[Region.schedule,Bool.true_or,if_true,Region.linearise]
 refine IH rr ops.size t _ [] (by simp) (λi af=>by simp[af]) ?_
 refine Nat.le_trans (List.length_filter_le _ _) (by simp)
section
variable {P:Program} {g gg:Operand->I}
theorem Dr{o:Option Operand}(h:∀x∈o.toArray,g x=gg x):o.map g=o.map gg:=by
 cases o with
 |none=>rfl
 |some x=>simp[h x (by simp)]
theorem xC(o:Oper)(H:J)(h:∀x∈o.op.operands,g x=gg x):cB P o g H=cB P o gg H:=by
 obtain⟨dst,op,type,pos,after,guard⟩:=o
 have Ai:∀ps:Array (Nat×Operand),(∀x∈ps.map (·.2),g x=gg x)->(ps.toList.map λp=>(p.1,g p.2))=(ps.toList.map λp=>(p.1,gg p.2)):=λps aO=>
  List.map_congr_left λp hm=>by rw[aO p.2 (Array.mem_map.2 ⟨p,by simpa using hm,rfl⟩)]
 cases op<;>simp only[Op.operands] at h<;>unfold cB
 case build t ps=>simp only[Ai ps λx aa=>h x (by simpa using aa)]
 case buildSlice t n ps=>simp only[Ai ps λx aa=>h x (by simpa using aa)]
 case makeFunc fn first captured=>
  simp only[List.map_congr_left (l:=first.toList) λx aa=>h x (by simp at aa;simp[aa]),List.map_congr_left (l:=captured.toList) λx aa=>h x (by simp at aa;simp[aa])]
 case call c=>
  have aS:c.args.toList.map g=c.args.toList.map gg:=List.map_congr_left λx aa=>h x (by simp at aa;simp[Call.operands,aa])
  simp only[aS]
  cases ag:c.callee with
  |value f=>have hf:g f=gg f:=h f (by simp[Call.operands,ag]);simp only[hf]
  |invoke r m=>have ak:g r=gg r:=h r (by simp[Call.operands,ag]);simp only[ak]
  |builtin b=>rfl
 case defer c=>
  have aS:c.args.toList.map g=c.args.toList.map gg:=List.map_congr_left λx aa=>h x (by simp at aa;simp[Call.operands,aa])
  simp only[aS]
  cases ag:c.callee with
  |value f=>have hf:g f=gg f:=h f (by simp[Call.operands,ag]);simp only[hf]
  |invoke r m=>rfl
  |builtin b=>rfl
 case makeMap t r=>cases r<;>simp_all
 case slice t x aN af mx=>
  have aA:aN.map g=aN.map gg:=Dr λy aW=>h y (by simp at aW;simp[aW])
  have ay:af.map g=af.map gg:=Dr λy aW=>h y (by simp at aW;simp[aW])
  have bx:mx.map g=mx.map gg:=Dr λy aW=>h y (by simp at aW;simp[aW])
  have ef:g x=gg x:=h x (by simp)
  have ga:∀o:Option Operand,(o.map λo=>kindName (g o))=(o.map g).map kindName:=λo=>by cases o<;>rfl
  have gM:∀o:Option Operand,(o.map λo=>kindName (gg o))=(o.map gg).map kindName:=λo=>by cases o<;>rfl
  simp only[aA,ay,bx,ef,ga,gM]
 all_goals (first|rfl|(simp_all;done))
theorem xD(o:Op)(b:Nat)(h:∀x∈o.operands,g x=gg x):jX P o g b=jX P o gg b:=by
 have Ai:∀ps:Array (Nat×Operand),(∀x∈ps.map (·.2),g x=gg x)->(ps.toList.map λp=>(p.1,g p.2))=(ps.toList.map λp=>(p.1,gg p.2)):=λps aO=>
  List.map_congr_left λp hm=>by rw[aO p.2 (Array.mem_map.2 ⟨p,by simpa using hm,rfl⟩)]
 cases o<;>simp only[Op.operands] at h<;>unfold jX
 case buildSlice t n ps=>simp only[Ai ps λx aa=>h x (by simpa using aa)]
 case makeMap t r=>cases r<;>rfl
 all_goals (first|rfl|(simp_all;done))
theorem Rl{o:Oper}{H aV:J}{v:I}(aq:kindOf P o.op=.pure)(h:cB P o g H=.val v aV):aV=H:=by
 have gQ:∀{w:String} {x:Option I},fC H w x=.val v aV->aV=H:=λ{w x} e=>by
  cases x with
  |none=>cases e
  |some y=>cases e;rfl
 obtain⟨dst,op,type,pos,after,guard⟩:=o
 cases op<;>simp only[kindOf] at aq<;>(try (cases aq;done))<;>unfold cB at h<;>simp only at h
 case move=>cases h;rfl
 case assign=>cases h;rfl
 case pick=>
  split at h
  · cases h;rfl
  · cases h;rfl
  · cases h
 case build=>
  repeat' (first|contradiction|(cases h;rfl)|(cases h;done)|split at h)
 case load=>
  repeat' (first|contradiction|(cases h;rfl)|(cases h;done)|exact gQ h|split at h)
 case nilCheck=>repeat' (first|contradiction|(cases h;rfl)|(cases h;done)|exact gQ h|split at h)
 case binOp=>exact gQ h
 case unOp=>repeat' (first|contradiction|(cases h;rfl)|(cases h;done)|exact gQ h|split at h)
 case convert s d x=>
  have cV:∀e,P.underlying d≠some (.slice e):=λe he=>by rw[he] at aq;cases aq
  unfold iJ at h
  repeat' (first|exact absurd (by assumption) (cV _)|(cases h;rfl)|(cases h;done)|split at h)
 case makeInterface=>repeat' (first|contradiction|(cases h;rfl)|(cases h;done)|exact gQ h|split at h)
 case makeFunc=>repeat' (first|contradiction|(cases h;rfl)|(cases h;done)|exact gQ h|split at h)
 case makeMap r=>cases r<;>cases aq
 case slice=>exact gQ h
 case fieldAddr=>repeat' (first|contradiction|(cases h;rfl)|(cases h;done)|exact gQ h|split at h)
 case field=>repeat' (first|contradiction|(cases h;rfl)|(cases h;done)|exact gQ h|split at h)
 case indexAddr=>repeat' (first|contradiction|(cases h;rfl)|(cases h;done)|exact gQ h|split at h)
 case index=>repeat' (first|contradiction|(cases h;rfl)|(cases h;done)|exact gQ h|split at h)
 case lookup=>exact gQ h
 case typeAssert=>repeat' (first|contradiction|(cases h;rfl)|(cases h;done)|exact gQ h|split at h)
 case extract=>repeat' (first|contradiction|(cases h;rfl)|(cases h;done)|exact gQ h|split at h)
 case call c=>
  cases ag:c.callee with
  |value f=>rw[ag] at aq;cases aq
  |invoke r m=>rw[ag] at aq;cases aq
  |builtin b=>
   rw[ag] at aq h
   simp only at h
   cases b<;>simp only at aq<;>(try (cases aq;done))<;>unfold hY at h<;>simp only at h
   all_goals repeat' (first|contradiction|(cases h;rfl)|(cases h;done)|exact gQ h|split at h)
end
end aM
namespace aM
open Go
def kQ(ops:Array Oper)(S:List Nat)(j:Nat):Prop:=∀o,ops[j]? =some o->∀e∈o.after,Region.binds .any e=true->e.on∈S
def xE(ops:Array Oper)(S:List Nat):Prop:=∀j∈S,kQ ops S j
def Sound(ops:Array Oper)(j m:Nat):Prop:=∀S,xE ops S->kQ ops S j->∀b,Nat.testBit m b=true->b∈S
def xF(ops:Array Oper)(n:Nat)(gB:List Nat):Prop:=∀j,j<n->∃m,nth (n-1-j) gB=some m/\Sound ops j m
theorem Rm(a b:Nat)(h:Nat.testBit (1<<<a) b=true):b=a:=by
 rw[Nat.shiftLeft_eq,Nat.one_mul,Nat.testBit_two_pow] at h
 exact(of_decide_eq_true h).symm
theorem II{gB:List Nat}{n:Nat}:∀(l:List Edge) (s b:Nat),Nat.testBit (l.foldl (λs e=>match Region.binds .any e with
  |true=>s|||1<<<e.on|||(nth (n-1-e.on) gB).getD 0
  |false=>s) s) b=true->Nat.testBit s b=true\/∃e∈l,Region.binds .any e=true/\(b=e.on\/Nat.testBit ((nth (n-1-e.on) gB).getD 0) b=true)
 |[],s,b,h=>.inl h
 |e::l,s,b,h=>by
  rw[List.foldl_cons] at h
  rcases II l _ b h with h|⟨cH,ab,ad⟩
  · cases ae:Region.binds .any e with
    |false=>rw[ae] at h;exact .inl h
    |true=>
     rw[ae] at h
     simp only[Nat.testBit_or,Bool.or_eq_true] at h
     rcases h with(h|h)|h
     · exact .inl h
     · exact .inr ⟨e,by simp,ae,.inl (Rm _ _ h)⟩
     · exact .inr ⟨e,by simp,ae,.inr h⟩
  · exact .inr ⟨cH,by simp[ab],ad⟩
theorem Rn{ops:Array Oper}{gB:List Nat}{n:Nat}{o:Oper}(a2:ops[n]? =some o)(ae:nS o n=true)(hm:xF ops n gB):Sound ops n (wO gB n o):=by
 intro S ib ak b h
 unfold wO at h
 rw[<-Array.foldl_toList] at h
 rcases II _ _ _ h with h|⟨e,ab,ad,ar⟩
 · simp at h
 · have he:e∈o.after:=by simpa using ab
   have o7:=ak o a2 e he ad
   rcases ar with rfl|ar
   · exact o7
   · have b8:e.on<n:=by
       unfold nS at ae
       rw[List.all_eq_true] at ae
       have:=ae e ab
       simpa[ad] using this
     obtain⟨m,Aj,Ak⟩:=hm e.on b8
     rw[Aj] at ar
     exact Ak S ib (ib _ o7) b ar
theorem xF.cons{ops:Array Oper}{gB:List Nat}{n m:Nat}(h:xF ops n gB)(hs:Sound ops n m):xF ops (n+1) (m::gB):=by
 intro j aL
 by_cases e:j=n
 · subst e;exact⟨m,by simp[nth],hs⟩
 · obtain⟨jI,ab,ad⟩:=h j (by omega)
   refine⟨jI,?_,ad⟩
   have:n+1-1-j=(n-1-j)+1:=by omega
   rw[this];exact ab
theorem IJ:∀(l:List Oper) (n:Nat) (loc:List (Nat×Acc)) (k:Nat) (o:Oper),l[k]? =some o->iK (l.take (k+1)) n loc=g9 o (n+k) (iK (l.take k) n loc)
 |[],n,loc,k,o,h=>by simp at h
 |x::l,n,loc,0,o,h=>by simp at h;subst h;simp[iK]
 |x::l,n,loc,k+1,o,h=>by
  have an:l[k]? =some o:=by simpa using h
  have a6:=IJ l (n+1) (g9 x n loc) k o an
  simp only[List.take_succ_cons,iK]
  rw[a6]
  have:n+1+k=n+(k+1):=by omega
  rw[this]
theorem xG{ops:Array Oper}:∀(l:List Oper) (n:Nat) (loc:List (Nat×Acc)) (gB:List Nat),(∀k,l[k]? =ops[n+k]?)->(∀s∈e1 l n loc gB,nS s.o s.i=true)->xF ops n gB->∀(k:Nat) (o:Oper),l[k]? =some o->
  ∃s,(e1 l n loc gB)[k]? =some s/\s.i=n+k/\s.o=o/\s.loc=iK (l.take k) n loc/\Sound ops (n+k) s.eT
 |[],n,loc,gB,aw,he,hm,k,o,h=>by simp at h
 |x::l,n,loc,gB,aw,he,hm,k,o,h=>by
  simp only[e1] at he⊢
  have aa:ops[n]? =some x:=by have:=aw 0;simpa using this.symm
  have ae:nS x n=true:=he ⟨n,x,wO gB n x,loc⟩ (by simp)
  have hs:=Rn aa ae hm
  cases k with
  |zero=>
   simp at h;subst h
   exact⟨_,rfl,rfl,rfl,rfl,hs⟩
  |succ k=>
   obtain⟨s,ab,ad,ar,aJ,bO⟩:=xG l (n+1) (g9 x n loc) (wO gB n x::gB) (λj=>by have:=aw (j+1);simp at this;rw[this];congr 1;omega) (λs hs=>he s (by simp[hs])) (hm.cons hs) k o (by simpa using h)
   exact⟨s,by simpa using ab,by omega,ar,by simpa[iK] using aJ,by rw[show n+(k+1)=n+1+k by omega];exact bO⟩
theorem Ds:∀(l:List Oper) (n:Nat) (loc:List (Nat×Acc)) (gB:List Nat),(e1 l n loc gB).length=l.length
 |[],_,_,_=>rfl
 |x::l,n,loc,gB=>by simp[e1,Ds l]
theorem uQ{ops:Array Oper}:∀{l:List DStep},pR ops l=true->∀s∈l,nS s.o s.i=true
 |[],_,s,h=>by cases h
 |x::l,ao,s,h=>by
  simp only[pR,Bool.and_eq_true] at ao
  rcases List.mem_cons.1 h with rfl|h
  · exact ao.1.1
  · exact uQ ao.2 s h
theorem IK{ops:Array Oper}{s:DStep}:∀{l:List DStep},zD ops s l=true->∀bg∈l,(∃t,s.o.dst=some t/\t∈lD ops bg.o)\/(∃t,bg.o.dst=some t/\t∈lD ops s.o)->Nat.testBit bg.eT s.i=true
 |[],_,bg,h=>by cases h
 |x::l,ao,bg,h=>by
  simp only[zD,Bool.and_eq_true] at ao
  rcases List.mem_cons.1 h with rfl|h
  · intro aK
    have ab:=ao.1
    split at ab
    · exact ab
    · rename_i ag
      exfalso
      rw[Bool.or_eq_false_iff] at ag
      rcases aK with⟨t,e,hm⟩|⟨t,e,hm⟩
      · have:=ag.1;rw[e] at this;simp[hm] at this
      · have:=ag.2;rw[e] at this;simp[hm] at this
  · exact IK ao.2 bg h
theorem IL{ops:Array Oper}:∀{l:List DStep},pR ops l=true->∀(i j:Nat) (s bg:DStep),i<j->l[i]? =some s->l[j]? =some bg->(∃t,s.o.dst=some t/\t∈lD ops bg.o)\/(∃t,bg.o.dst=some t/\t∈lD ops s.o)->Nat.testBit bg.eT s.i=true
 |[],_,i,j,s,bg,_,h,_=>by simp at h
 |x::l,ao,i,j,s,bg,ru,ab,ad=>by
  simp only[pR,Bool.and_eq_true] at ao
  cases j with
  |zero=>omega
  |succ j=>
   have uR:l[j]? =some bg:=by simpa using ad
   cases i with
   |zero=>
    simp at ab;subst ab
    exact IK ao.1.2 bg (List.mem_of_getElem? uR)
   |succ i=>exact IL ao.2 i j s bg (by omega) (by simpa using ab) uR
structure sV where
 env:List I
 d:List bQ
 q:bD
 h:J
 bc:List (Nat×Nat×J)
section
variable {P:Program} {need:Nat} {inR:Bool} {call:aI->List I->J->av} {ops:Array Oper} {r:aY} {cA:Nat}
def lN(P:Program)(need:Nat)(r:aY)(s:DStep)(env:List I):Operand->I:=λx=>dt s.i env r (cE P need s.loc x)
inductive sW(P:Program)(need:Nat)(inR:Bool)(call:aI->List I->J->av)(ops:Array Oper)(r:aY)(cA:Nat)(s:DStep)(st:sV):sV->Prop where
 |uS (aq:kindOf P s.o.op=.alloc) (hw:ep (gL P need ops r s.i st.env s)=some false):sW P need inR call ops r cA s st {st with env:=.aP []::st.env}
 |alloc {v:I} {cq:da} (aq:kindOf P s.o.op=.alloc) (hw:ep (gL P need ops r s.i st.env s)=some true) (aS:jX P s.o.op (lN P need r s st.env) (cA+s.i)=some (v,cq)):
   sW P need inR call ops r cA s st {st with env:=v::st.env,h:=st.h.set (cA+s.i) (some cq)}
 |pure {v:I} {bf:List bQ} {bj:bD} {an:J} (aq:kindOf P s.o.op=.pure) (he:dL P inR call (gL P need ops r s.i st.env s) s.o (lN P need r s st.env) st.d st.q st.h=.ok v bf bj an):
   sW P need inR call ops r cA s st {st with env:=v::st.env}
 |eb {v:I} {bf:List bQ} {bj:bD} {an:J} (aq:kindOf P s.o.op=.eb) (a2:∀e m h0 l,st.bc=(e,m,h0)::l->Nat.testBit s.eT e=true)
   (he:dL P inR call (gL P need ops r s.i st.env s) s.o (lN P need r s st.env) st.d st.q st.h=.ok v bf bj an):sW P need inR call ops r cA s st ⟨v::st.env,bf,bj,an,(s.i,s.eT,st.h)::st.bc⟩
theorem Ro{s:DStep}{rest:List DStep}{st:sV}{x:Cq}(h:gj P need inR call ops r cA (s::rest) st.env st.d st.q st.h st.bc=x)(hf:∀w,x≠ .fail w):
  (∃bZ,sW P need inR call ops r cA s st bZ/\gj P need inR call ops r cA rest bZ.env bZ.d bZ.q bZ.h bZ.bc=x)\/
  (kindOf P s.o.op=.eb/\(∀e m h0 l,st.bc=(e,m,h0)::l->Nat.testBit s.eT e=true)/\rest.all (λbg=>Nat.testBit bg.eT s.i)=true/\
   ∃v bf bj an,dL P inR call (gL P need ops r s.i st.env s) s.o (lN P need r s st.env) st.d st.q st.h=.b4 v bf bj an/\x=.b4 v st.env bf bj an ((s.i,s.eT,st.h)::st.bc)):=by
 simp only[gj] at h
 split at h
 · rename_i aq
   split at h
   · exact absurd h.symm (hf _)
   · rename_i hw;exact .inl ⟨_,.uS aq hw,h⟩
   · rename_i hw
     split at h
     · rename_i v cq aS;exact .inl ⟨_,.alloc aq hw aS,h⟩
     · exact absurd h.symm (hf _)
 · rename_i aq
   split at h
   · rename_i he;exact .inl ⟨_,.pure aq he,h⟩
   · exact absurd h.symm (hf _)
   · exact absurd h.symm (hf _)
 · rename_i aq
   split at h
   · exact absurd h.symm (hf _)
   · rename_i a2
     have ie:∀e m h0 l,st.bc=(e,m,h0)::l->Nat.testBit s.eT e=true:=λe m h0 l hs=>by rw[hs] at a2;exact a2
     split at h
     · rename_i he;exact .inl ⟨_,.eb aq ie he,h⟩
     · rename_i he
       split at h
       · rename_i eg;exact .inr ⟨aq,ie,eg,_,_,_,_,he,h.symm⟩
       · exact absurd h.symm (hf _)
     · exact absurd h.symm (hf _)
theorem IM:∀(l:List DStep) (st:sV) (x:Cq),gj P need inR call ops r cA l st.env st.d st.q st.h st.bc=x->(∀w,x≠ .fail w)->
  ∃(f:Nat->sV) (N:Nat),f 0=st/\N<=l.length/\(∀k s,k<N->l[k]? =some s->sW P need inR call ops r cA s (f k) (f (k+1)))/\
   ((N=l.length/\x=.ok (f N).env (f N).d (f N).q (f N).h (f N).bc)\/
    (∃s,l[N]? =some s/\kindOf P s.o.op=.eb/\(∀e m h0 l,(f N).bc=(e,m,h0)::l->Nat.testBit s.eT e=true)/\(∀k bg,N<k->l[k]? =some bg->Nat.testBit bg.eT s.i=true)/\
     ∃v bf bj an,dL P inR call (gL P need ops r s.i (f N).env s) s.o (lN P need r s (f N).env) (f N).d (f N).q (f N).h=.b4 v bf bj an/\x=.b4 v (f N).env bf bj an ((s.i,s.eT,(f N).h)::(f N).bc)))
 |[],st,x,h,hf=>⟨λ_=>st,0,rfl,Nat.le_refl _,λk s aq=>by omega,.inl ⟨rfl,h.symm⟩⟩
 |s::l,st,x,h,hf=>by
  rcases Ro h hf with⟨bZ,ab,ad⟩|⟨ab,ad,ar,aJ⟩
  · obtain⟨f,N,aj,ax,aC,bK⟩:=IM l bZ x ad hf
    refine⟨λk=>match k with|0=>st|k+1=>f k,N+1,rfl,by simpa using ax,λk bg aq hs=>?_,?_⟩
    · cases k with
      |zero=>simp at hs;subst hs;simp only[Nat.zero_add,aj];exact ab
      |succ k=>exact aC k bg (by omega) (by simpa using hs)
    · rcases bK with⟨aA,ay⟩|⟨s2,aA,ay,bx,ef,ga⟩
      · exact .inl ⟨by simp[aA],ay⟩
      · refine .inr ⟨s2,by simpa using aA,ay,bx,λk bg aq hs=>?_,ga⟩
        cases k with
        |zero=>omega
        |succ k=>exact ef k bg (by omega) (by simpa using hs)
  · refine⟨λ_=>st,0,rfl,by simp,λk s aq=>by omega,.inr ⟨s,rfl,ab,ad,λk bg aq hs=>?_,aJ⟩⟩
    cases k with
    |zero=>omega
    |succ k=>
     rw[List.all_eq_true] at ar
     exact ar bg (List.mem_of_getElem? (by simpa using hs))
mutual
theorem beq_eq:∀(a c:I),I.beq a c=true->a=c
 |.bool a,c,h=>by
  cases c<;>simp only[I.beq] at h<;>first|(cases h;done)|(simp at h;subst h;rfl)
 |.int k n,c,h=>by
  cases c<;>simp only[I.beq] at h<;>first|(cases h;done)|(simp[a8] at h;obtain⟨rfl,rfl⟩:=h;rfl)
 |.str s,c,h=>by
  cases c<;>simp only[I.beq] at h<;>first|(cases h;done)|(rw[nW] at h;simp at h;subst h;rfl)
 |.bb,c,h=>by cases c<;>simp only[I.beq] at h<;>first|(cases h;done)|rfl
 |.ptr x y,c,h=>by
  cases c<;>simp only[I.beq] at h<;>first|(cases h;done)|(rw[Bool.and_eq_true,Nat.beq_eq,Nat.beq_eq] at h;obtain⟨rfl,rfl⟩:=h;rfl)
 |.a0,c,h=>by cases c<;>simp only[I.beq] at h<;>first|(cases h;done)|rfl
 |.slice x y z cap,c,h=>by
  cases c<;>simp only[I.beq] at h<;>(try (cases h;done))
  rename_i Rp OV acp Rq
  simp only[Bool.and_eq_true,Nat.beq_eq] at h
  obtain⟨⟨⟨rfl,rfl⟩,rfl⟩,h⟩:=h
  cases cap<;>cases Rq<;>simp only[b3.beq] at h<;>first|(cases h;done)|(rw[Nat.beq_eq] at h;subst h;rfl)|rfl
 |.hW,c,h=>by cases c<;>simp only[I.beq] at h<;>first|(cases h;done)|rfl
 |.map x,c,h=>by
  cases c<;>simp only[I.beq] at h<;>first|(cases h;done)|(rw[Nat.beq_eq] at h;subst h;rfl)
 |.fL,c,h=>by cases c<;>simp only[I.beq] at h<;>first|(cases h;done)|rfl
 |.fn x as bs,c,h=>by
  cases c<;>simp only[I.beq] at h<;>(try (cases h;done))
  simp only[Bool.and_eq_true,Nat.beq_eq] at h
  obtain⟨⟨rfl,ab⟩,ad⟩:=h
  rw[uT _ _ ab,uT _ _ ad]
 |.dd x,c,h=>by
  cases c<;>simp only[I.beq] at h<;>first|(cases h;done)|(rw[Nat.beq_eq] at h;subst h;rfl)
 |.eS,c,h=>by cases c<;>simp only[I.beq] at h<;>first|(cases h;done)|rfl
 |.iface t v,c,h=>by
  cases c<;>simp only[I.beq] at h<;>(try (cases h;done))
  simp only[Bool.and_eq_true,Nat.beq_eq] at h
  obtain⟨rfl,ab⟩:=h
  rw[beq_eq _ _ ab]
 |.agg cs,c,h=>by
  cases c<;>simp only[I.beq] at h<;>(try (cases h;done))
  rw[uT _ _ h]
 |.aP cs,c,h=>by
  cases c<;>simp only[I.beq] at h<;>(try (cases h;done))
  rw[uT _ _ h]
 |.bad,c,h=>by cases c<;>simp only[I.beq] at h<;>cases h
theorem uT:∀(a c:List I),I.m1 a c=true->a=c
 |[],[],_=>rfl
 |[],_::_,h=>by simp[I.m1] at h
 |_::_,[],h=>by simp[I.m1] at h
 |x::a,y::c,h=>by
  simp only[I.m1,Bool.and_eq_true] at h
  rw[beq_eq _ _ h.1,uT _ _ h.2]
end
end
end aM
