/-
  THE ABSTRACT EVALUATOR (code, functions, rounds, calls): a deterministic semantics of loaded code, and the proof that its runs are runs of the program in the model, whatever the tape draws. No condition.
-/
import Derived.Test.YtjkomfonmcmgdaaGreatDoorAeb
import Derived.Defers
import Derived.Laws.Externs
import Derived.Orders
set_option linter.unusedVariables false
set_option linter.unusedSimpArgs false
namespace bt
open Go
def mG(P:Program)(need:Nat)(ops:Array Oper):List Oper->List (Nat×Acc)->Nat->List Step
 |[],_,_=>[]
 |o::rest,loc,m=>
  match aliasOf o with
  |some (t,x)=>mG P need ops rest ((t,cR P need loc x)::loc) m
  |none=>⟨j0 P need ops loc o,o,loc,m⟩::mG P need ops rest (hC o m loc) (m+1)
def lr(P:Program)(need:Nat)(ops:Array Oper):List Oper->List (Nat×Acc)->Nat->List (Nat×Acc)
 |[],loc,_=>loc
 |o::rest,loc,m=>
  match aliasOf o with
  |some (t,x)=>lr P need ops rest ((t,cR P need loc x)::loc) m
  |none=>lr P need ops rest (hC o m loc) (m+1)
theorem EK(P:Program)(need:Nat)(ops:Array Oper):∀(l:List Oper) (loc:List (Nat×Acc)) (st:List Step) (m:Nat),vF P need ops l loc st m=⟨st.reverse++mG P need ops l loc m,lr P need ops l loc m⟩
 |[],loc,st,m=>by simp[vF,mG,lr]
 |o::rest,loc,st,m=>by
  unfold vF mG lr
  cases aL:aliasOf o with
  |some p=>obtain⟨t,x⟩:=p;simp only[aL];exact EK P need ops rest _ st m
  |none=>simp only[aL];rw[EK P need ops rest];simp
section
variable {P:Program} {need:Nat}
theorem o0(t u:Nat)(a:Acc)(l:List (Nat×Acc)):iy t ((u,a)::l)=if t=u then some a else iy t l:=by
 rw[iy]
 by_cases h:t=u
 · subst h;simp
 · have:Nat.beq t u=false:=by
     cases ae:Nat.beq t u with
     |false=>rfl
     |true=>exact absurd (Nat.eq_of_beq_eq_true ae) h
   rw[this,if_neg h]
def Acc.below(m:Nat):Acc->Prop
 |.env j=>j<m
 |_=>True
theorem S4{m:Nat}{env:List I}{r:a2}{v:I}{a:Acc}(h:a.below m):dI (m+1) (v::env) r a=dI m env r a:=by
 cases a with
 |env j=>
  simp only[Acc.below] at h
  have:m+1-1-j=(m-1-j)+1:=by omega
  simp only[dI,this,nth]
 |reg p=>rfl
 |val v=>rfl
theorem S5{m:Nat}{env:List I}{r:a2}{v:I}:dI (m+1) (v::env) r (.env m)=v:=by
 simp[dI,nth]
def EL(m:Nat)(loc:List (Nat×Acc)):Prop:=∀t a,iy t loc=some a->a.below m
theorem Bx{m:Nat}{loc:List (Nat×Acc)}(h:EL m loc)(x:Operand):(cR P need loc x).below m:=by
 cases x with
 |tmp t=>
  simp only[cR]
  cases hf:iy t loc with
  |some a=>exact h t a hf
  |none=>simp only[];cases Nat.testBit need t<;>trivial
 |const v=>trivial
 |global g=>simp only[cR];cases Nat.blt g P.globals.size<;>trivial
 |func f=>trivial
theorem Acc.J6{m n:Nat}(h:m<=n){a:Acc}(aL:a.below m):a.below n:=by
 cases a with
 |env j=>exact Nat.lt_of_lt_of_le aL h
 |reg p=>trivial
 |val v=>trivial
structure jN(P:Program)(need:Nat)(μ:bz)(r:a2)(m:Nat)(env:List I)(loc:List (Nat×Acc))(cn:Array Value):Prop where
 vW:EL m loc
 rel:∀t,bp μ (dI m env r (cR P need loc (.tmp t))) (cn.getD t undef)
theorem jN.mono{μ a0:bz}{r:a2}{m:Nat}{env:List I}{loc:List (Nat×Acc)}{cn:Array Value}(hle:fi μ a0)(h:jN P need μ r m env loc cn):jN P need a0 r m env loc cn:=⟨h.vW,λt=>(h.rel t).mono hle⟩
theorem jN.eval{μ:bz}{r:a2}{m:Nat}{env:List I}{loc:List (Nat×Acc)}{a:Act}(h:jN P need μ r m env loc a.tmps)(al:hG P μ)(x:Operand):bp μ (dI m env r (cR P need loc x)) (a.eval x):=by
 cases x with
 |tmp t=>exact h.rel t
 |const v=>exact kD μ v
 |global g=>
  simp only[cR,Act.eval]
  cases ae:Nat.blt g P.globals.size with
  |false=>exact trivial
  |true=>
   obtain⟨i,aa,ad,av⟩:=al g (by simpa using ae)
   obtain⟨hF,i0,yy⟩:=i
   simp only at ad av
   subst ad;subst av
   exact⟨_,aa,rfl⟩
 |func f=>exact⟨[],[],rfl,rfl,rfl⟩
theorem jN.init{μ:bz}{r:a2}{cn:Array Value}(h:i_ need μ r cn):jN P need μ r 0 [] [] cn:=
 ⟨λt a h=>by simp[iy] at h,λt=>by
  simp only[cR,iy]
  cases ae:Nat.testBit need t with
  |true=>exact h t ae
  |false=>trivial⟩
theorem yM{cn:Array Value}{d t:Nat}{u:Value}(ao:d<cn.size):(cn.setIfInBounds d u).getD t undef=if t=d then u else cn.getD t undef:=by
 simp only[Array.getD_eq_getD_getElem?,Array.getElem?_setIfInBounds]
 by_cases h:d=t
 · subst h;simp[ao]
 · rw[if_neg h,if_neg (λe=>h e.symm)]
theorem jN.alias{μ:bz}{r:a2}{m:Nat}{env:List I}{loc:List (Nat×Acc)}{a:Act}(h:jN P need μ r m env loc a.tmps)(al:hG P μ){t:Nat}(bc:t<a.tmps.size)(x:Operand):
  jN P need μ r m env ((t,cR P need loc x)::loc) (a.put (some t) (a.eval x)).tmps:=by
 refine⟨λu b hu=>?_,λu=>?_⟩
 · rw[o0] at hu
   split at hu
   · cases hu;exact Bx h.vW x
   · exact h.vW u b hu
 · simp only[cR,o0,Act.put]
   rw[yM bc]
   by_cases e:u=t
   · simp only[e,if_true];exact h.eval al x
   · simp only[e,if_false];exact h.rel u
theorem jN.step{μ:bz}{r:a2}{m:Nat}{env:List I}{loc:List (Nat×Acc)}{a:Act}(h:jN P need μ r m env loc a.tmps){o:Oper}(bc:∀t,o.dst=some t->t<a.tmps.size){v:I}{u:Value}(aD:bp μ v u):
  jN P need μ r (m+1) (v::env) (hC o m loc) (a.put o.dst u).tmps:=by
 have old:∀t,bp μ (dI (m+1) (v::env) r (cR P need loc (.tmp t))) (a.tmps.getD t undef):=λt=>by
  rw[S4 (Bx h.vW _)];exact h.rel t
 unfold hC
 cases ao:o.dst with
 |none=>exact⟨λt b ae=>Acc.J6 (Nat.le_succ m) (h.vW t b ae),old⟩
 |some d=>
  refine⟨λt b ae=>?_,λt=>?_⟩
  · rw[o0] at ae
    split at ae
    · cases ae;exact Nat.lt_succ_self m
    · exact Acc.J6 (Nat.le_succ m) (h.vW t b ae)
  · simp only[Act.put]
    rw[yM (bc d ao)]
    by_cases e:t=d
    · simp only[cR,o0,e,if_true,S5];exact aD
    · have:=old t
      simp only[cR,o0,e,if_false] at this⊢
      exact this
theorem J7{ops:Array Oper}{cn:Array Value}{j t:Nat}(h:(ops[j]?).bind (·.dst)=some t):yielded ops cn j=match cn.getD t undef with
  |.bool b=>some b
  |_=>none:=by
 unfold yielded
 rw[h,Option.bind_some]
 rw[Array.getD_eq_getD_getElem?]
 cases ak:cn[t]? with
 |none=>rfl
 |some v=>simp only[Option.getD_some];cases v<;>rfl
theorem S6{μ:bz}{ops:Array Oper}{loc:List (Nat×Acc)}{o:Oper}{acc:Acc->I}{cn:Array Value}(lZ:∀t,bp μ (acc (cR P need loc (.tmp t))) (cn.getD t undef))(l2:∀v,acc (.val v)=v):
  ∀p8,eK (match j0 P need ops loc o with|none=>none|some (a,b)=>some (acc a,b))=some p8->Region.wanted o (yielded ops cn)=p8:=by
 intro p8 h
 unfold j0 at h
 unfold Region.wanted
 cases al:o.guard with
 |none=>rw[al] at h;simp only[eK] at h;cases h;rfl
 |some p=>
  obtain⟨j,b⟩:=p
  rw[al] at h
  simp only at h⊢
  cases bc:(ops[j]?).bind (·.dst) with
  |none=>rw[bc] at h;simp only[l2,eK] at h;cases h
  |some t=>
   rw[bc] at h
   simp only at h
   have aj:=lZ t
   rw[J7 bc]
   generalize acc (cR P need loc (.tmp t))=v at h aj
   unfold eK at h
   split at h
   · rename_i he;cases he
   · rename_i he;cases he;cases h
     have yN:cn.getD t undef=_:=aj
     rw[yN];rfl
   · rename_i he;cases he;cases h
     obtain⟨l,aw,mH⟩:=aj
     cases mH
     rw[aw];rfl
   · cases h
def EM:List Item->Prop
 |.call _ _ _ _::_=>False
 |_=>True
def o1(P:Program)(need bW:Nat)(μ:bz)(r:a2)(H:J)(w:World)(b:Frame)(k:List Item)(cs0:List Frame)(fq:Machine)(loc:List (Nat×Acc)):na->Prop
 |.ok env bh bn aX=>∃a0 w' cF bT,Steps P fq (lone (b.atR cF k) bT w')/\jN P need a0 r env.length env loc cF.tmps/\cF.tmps.size=bW/\bB a0 aX w'/\cg μ H w a0 aX w'/\gE a0 bh cF.defers/\hU a0 b.kind cs0 bn bT
 |.ca v bh bn aX=>∃a0 w' cF bT u bk,Steps P fq (lone {b.atR cF bk with mode:=.panicking [{v:=u,recovered:=false}]} bT w')/\EM bk/\bp a0 v u/\
   (∀t,iy t loc=none->Nat.testBit need t=true->bp a0 (r.get (hh t)) (cF.tmps.getD t undef))/\cF.tmps.size=bW/\bB a0 aX w'/\cg μ H w a0 aX w'/\gE a0 bh cF.defers/\hU a0 b.kind cs0 bn bT
 |.fail _=>True
theorem o1.of_steps{bW:Nat}{μ h7:bz}{r:a2}{H H1:J}{w cW:World}{b:Frame}{k:List Item}{cs0:List Frame}{fq a5:Machine}{loc:List (Nat×Acc)}{x:na}(ak:bB μ H w)(ju:bB h7 H1 cW)(h:Steps P fq a5)(aL:cg μ H w h7 H1 cW)
  (aa:o1 P need bW h7 r H1 cW b k cs0 a5 loc x):o1 P need bW μ r H w b k cs0 fq loc x:=by
 cases x with
 |ok env d q aX=>
  obtain⟨a0,w',cF,bT,s1,s2,bN,bS,cr,c3⟩:=aa
  exact⟨a0,w',cF,bT,h.trans s1,s2,bN,bS,cg.trans ak ju aL cr,c3⟩
 |ca v d q aX=>
  obtain⟨a0,w',cF,bT,u,bk,s1,ib,s2,bN,bS,cr,c3,dE⟩:=aa
  exact⟨a0,w',cF,bT,u,bk,h.trans s1,ib,s2,bN,bS,cr,cg.trans ak ju aL c3,dE⟩
 |fail s=>trivial
theorem EN{ops:Array Oper}:∀(l:List Oper) (loc:List (Nat×Acc)) (m t:Nat),iy t (lr P need ops l loc m)=none->iy t loc=none
 |[],loc,m,t,h=>h
 |o::rest,loc,m,t,h=>by
  unfold lr at h
  cases aL:aliasOf o with
  |some p=>
   obtain⟨u,x⟩:=p
   rw[aL] at h
   have:=EN rest _ m t h
   rw[o0] at this
   split at this
   · cases this
   · exact this
  |none=>
   rw[aL] at h
   have:=EN rest _ _ t h
   unfold hC at this
   split at this
   · rw[o0] at this
     split at this
     · cases this
     · exact this
   · exact this
theorem S7{o:Oper}{t:Nat}{x:Operand}(h:aliasOf o=some (t,x)):o.guard=none/\o.dst=some t/\∀cD,execOp cD o=pure (.value (cD x)):=by
 unfold aliasOf at h
 split at h
 · rename_i aa ad av;cases h;exact⟨aa,ad,λcD=>by simp[execOp,av]⟩
 · rename_i aa ad av;cases h;exact⟨aa,ad,λcD=>by simp[execOp,av]⟩
 · cases h
theorem yO(a:Act)(dst:Option Tmp)(u:Value):(a.put dst u).tmps.size=a.tmps.size:=by cases dst<;>simp[Act.put]
theorem By{call:eJ->List I->J->a9}(ag:jM P call){bW:Nat}{ops:Array Oper}(kU:∀o∈ops.toList,∀t,o.dst=some t->t<bW){b:Frame}{inR:Bool}(ft:inR=b.roundOf.isSome){r:a2}{k:List Item}{cs0:List Frame}:
  ∀(l:List Oper) (i0:Nat) (loc:List (Nat×Acc)) (m:Nat) (env:List I) (d:List bZ) (q:bL) (μ:bz) (H:J) (w:World) (a:Act) (cs:List Frame),ops.toList.drop i0=l->env.length=m->
   jN P need μ r m env loc a.tmps->a.tmps.size=bW->bB μ H w->hG P μ->gE μ d a.defers->hU μ b.kind cs0 q cs->
   o1 P need bW μ r H w b k cs0 (lone (b.atR a (.inRegion ops (List.range' i0 l.length)::k)) cs w) (lr P need ops l loc m) (iG P need inR call r (mG P need ops l loc m) env d q H)
 |[],i0,loc,m,env,d,q,μ,H,w,a,cs,aw,hm,p9,bA,ak,al,ao,aJ=>by
  subst hm
  exact⟨μ,w,a,cs,.one stepR_region_end,p9,bA,ak,cg.refl _ _ _,ao,aJ⟩
 |o::rest,i0,loc,m,env,d,q,μ,H,w,a,cs,aw,hm,p9,bA,ak,al,ao,aJ=>by
  have aY:ops[i0]? =some o:=by
   have:=congrArg List.head? aw
   simpa[List.head?_drop] using this
  have n7:ops.toList.drop (i0+1)=rest:=by
   have:=congrArg List.tail aw
   simpa[List.tail_drop] using this
  have hl:o∈ops.toList:=by
   rw[<-Array.getElem?_toList] at aY
   exact List.mem_of_getElem? aY
  have Bz:∀t,o.dst=some t->t<a.tmps.size:=λt h=>by rw[bA];exact kU o hl t h
  rw[List.length_cons,List.range'_succ]
  unfold mG lr
  cases aL:aliasOf o with
  |some p=>
   obtain⟨t,x⟩:=p
   simp only
   obtain⟨b6,cU,c8⟩:=S7 aL
   have hw:Region.wanted o (yielded ops a.tmps)=true:=by simp[Region.wanted,b6]
   have cA:=stepGR_op (P:=P) (b:=b) (a:=a) (k:=k) (cs:=cs) (w:=w) (rest:=List.range' (i0+1) rest.length) aY hw
   have tX:o.semAt b.roundOf a.eval=execOp a.eval o:=by
    refine Oper.semAt_eq _ _ _ λc e=>?_
    have:=c8 a.eval
    unfold aliasOf at aL
    rw[e] at aL
    split at aL
    · rename_i h;cases h
    · rename_i h;cases h
    · cases aL
   rw[tX] at cA
   obtain⟨ai,_⟩:=Bt cA
   have hs:=ai (a.eval x) w (by rw[c8];rfl)
   have nn:(b.atR a (.inRegion ops (i0::List.range' (i0+1) rest.length)::k)).finish (a.eval x)=b.atR (a.put (some t) (a.eval x)) (.inRegion ops (List.range' (i0+1) rest.length)::k):=by
    rw[Frame.finish_atR,aY]
    simp only[Option.bind_some,cU]
   rw[nn] at hs
   have bb:=By (k:=k) ag kU ft rest (i0+1) ((t,cR P need loc x)::loc) m env d q μ H w (a.put (some t) (a.eval x)) cs n7 hm (p9.alias al (Bz t cU) x) ((yO _ _ _).trans bA) ak al (by rw[put_defers];exact ao) aJ
   exact bb.of_steps ak ak hs (cg.refl _ _ _)
  |none=>
   simp only[iG]
   have fW:=J4 (P:=P) ag ak al (b:=b) (a:=a) (ops:=ops) (i:=i0) (rest:=List.range' (i0+1) rest.length) (k:=k) (cs0:=cs0) (cs:=cs) aY (gd:=match j0 P need ops loc o with|none=>none|some (x,c)=>some (dI m env r x,c))
    (S6 (acc:=dI m env r) p9.rel (λv=>rfl)) (g:=λx=>dI m env r (cR P need loc x)) (λx=>p9.eval al x) ao aJ ft
   generalize dV P inR call (match j0 P need ops loc o with|none=>none|some (x,c)=>some (dI m env r x,c)) o (λx=>dI m env r (cR P need loc x)) d q H=res at fW⊢
   cases res with
   |ok v bh bn aX=>
    obtain⟨a0,w',u,tW,bT,s1,s2,bN,bS,cr,c3⟩:=fW
    have EO:=(p9.mono bS.le).step (a:=a) (o:=o) Bz s2
    have bb:=By (k:=k) ag kU ft rest (i0+1) (hC o m loc) (m+1) (v::env) bh bn a0 aX w' {tmps:=(a.put o.dst u).tmps,defers:=tW} bT n7 (by simp[hm]) EO ((yO _ _ _).trans bA) bN (al.mono bS.le) cr c3
    exact bb.of_steps ak bN s1 bS
   |ca v bh bn aX=>
    obtain⟨a0,w',u,s1,s2,bN,bS,cr,c3⟩:=fW
    refine⟨a0,w',a,cs,u,_,s1,trivial,s2,λt bc aN=>?_,bA,bN,bS,cr,c3⟩
    have h0:=EN (P:=P) (need:=need) (ops:=ops) rest _ _ t bc
    have aa:iy t loc=none:=by
     unfold hC at h0
     split at h0
     · rw[o0] at h0
       split at h0
       · cases h0
       · exact h0
     · exact h0
    have:=(p9.mono bS.le).rel t
    simp only[cR,aa,aN,dI] at this
    exact this
   |fail s=>trivial
end
end bt
namespace bt
open Go
section
variable {P:Program} {need:Nat}
theorem J8(need m:Nat)(env:List I)(fM:a2):∀(loc:List (Nat×Acc)) (r:a2) (t:Nat),Nat.testBit need t=true->
  (pR need m env fM loc r).get (hh t)=match iy t loc with|some a=>dI m env fM a|none=>r.get (hh t)
 |[],r,t,bc=>rfl
 |(u,a)::l,r,t,bc=>by
  rw[o0]
  simp only[pR]
  by_cases e:t=u
  · subst e
    simp only[bc,if_true,a2.c7]
  · have bb:=J8 need m env fM l r t bc
    cases hu:Nat.testBit need u with
    |true=>simp only[a2.c7,if_neg e,bb]
    |false=>simp only[if_neg e,bb]
theorem J9:∀(loc:List (Nat×Acc)) (r:a2) (t:Nat),(vG loc r).get (hh t)=match iy t loc with|some a=>.bad|none=>r.get (hh t)
 |[],r,t=>rfl
 |(u,a)::l,r,t=>by
  rw[o0]
  simp only[vG,a2.c7]
  by_cases e:t=u
  · simp only[e,if_true]
  · simp only[if_neg e,J9 l r t]
theorem jN.outs{μ:bz}{r:a2}{m:Nat}{env:List I}{loc:List (Nat×Acc)}{cn:Array Value}(h:jN P need μ r m env loc cn):i_ need μ (pR need m env r loc r) cn:=by
 intro t bc
 rw[J8 need m env r loc r t bc]
 have:=h.rel t
 simp only[cR,bc] at this
 cases hf:iy t loc with
 |some a=>rw[hf] at this;exact this
 |none=>rw[hf] at this;exact this
theorem tZ{e:bu}{r:a2}{d:List bZ}{q:bL}{h:J}{f:a2->List bZ->bL->J->jZ}(he:e≠ .nrm):qQ (.ok e r d q h) f=.ok e r d q h:=by
 cases e<;>first|rfl|exact absurd rfl he
def sy(P:Program)(μ:bz)(fq:Machine)(b:Frame)(k:List Item)(cs:List Frame)(a:Act)(w:World):bu->Prop
 |.nrm=>Steps P fq (lone (b.atR a k) cs w)
 |.exit id=>∃bk,exitTo id bk=exitTo id k/\Steps P fq (lone (b.atR a (.code (.exit id)::bk)) cs w)
 |.ret=>∃bk,Steps P fq (lone (b.atR a (.code .ret::bk)) cs w)
 |.goto _=>False
 |.ca v=>∃bk u,(bp μ v u/\EM bk)/\Steps P fq (lone {b.atR a bk with mode:=.panicking [{v:=u,recovered:=false}]} cs w)
theorem sy.of_steps{μ:bz}{fq a5:Machine}{b:Frame}{k:List Item}{cs:List Frame}{a:Act}{w:World}{e:bu}(h:Steps P fq a5)(an:sy P μ a5 b k cs a w e):sy P μ fq b k cs a w e:=by
 cases e with
 |nrm=>exact h.trans an
 |exit id=>obtain⟨bk,aa,ad⟩:=an;exact⟨bk,aa,h.trans ad⟩
 |ret=>obtain⟨bk,ad⟩:=an;exact⟨bk,h.trans ad⟩
 |goto l=>exact an
 |ca v=>obtain⟨bk,u,aa,ad⟩:=an;exact⟨bk,u,aa,h.trans ad⟩
theorem sy.pass{μ:bz}{fq:Machine}{b:Frame}{x:Item}{k:List Item}{cs:List Frame}{a:Act}{w:World}{e:bu}(ab:∀id,x≠ .inBlock id)(he:e≠ .nrm)(h:sy P μ fq b (x::k) cs a w e):sy P μ fq b k cs a w e:=by
 cases e with
 |nrm=>exact absurd rfl he
 |exit id=>
  obtain⟨bk,aa,ad⟩:=h
  refine⟨bk,aa.trans ?_,ad⟩
  cases x<;>first|rfl|exact absurd rfl (ab _)
 |ret=>exact h
 |goto l=>exact h
 |ca v=>exact h
def lu(P:Program)(need bW:Nat)(μ:bz)(H:J)(w:World)(b:Frame)(k:List Item)(cs0:List Frame)(fq:Machine):jZ->Prop
 |.ok e r' bh bn aX=>∃a0 w' cF bT,sy P a0 fq b k bT cF w' e/\i_ need a0 r' cF.tmps/\cF.tmps.size=bW/\bB a0 aX w'/\cg μ H w a0 aX w'/\gE a0 bh cF.defers/\hU a0 b.kind cs0 bn bT
 |.fail _=>True
theorem lu.of_steps{bW:Nat}{μ h7:bz}{H H1:J}{w cW:World}{b:Frame}{k:List Item}{cs0:List Frame}{fq a5:Machine}{x:jZ}(ak:bB μ H w)(ju:bB h7 H1 cW)(h:Steps P fq a5)(aL:cg μ H w h7 H1 cW)
  (aa:lu P need bW h7 H1 cW b k cs0 a5 x):lu P need bW μ H w b k cs0 fq x:=by
 cases x with
 |ok e r d q aX=>
  obtain⟨a0,w',cF,bT,s1,s2,bN,bS,cr,c3⟩:=aa
  exact⟨a0,w',cF,bT,s1.of_steps h,s2,bN,bS,cg.trans ak ju aL cr,c3⟩
 |fail s=>trivial
def nq(μ:bz)(b:Frame):Option Nat->Prop
 |none=>b.roundOf=none
 |some l=>∃i,μ l=some i/\b.roundOf=some i.bo
theorem nq.mono{μ a0:bz}(hle:fi μ a0){b:Frame}{rd:Option Nat}(h:nq μ b rd):nq a0 b rd:=by
 cases rd with
 |none=>exact h
 |some l=>obtain⟨i,aa,ad⟩:=h;exact⟨i,hle _ _ aa,ad⟩
theorem nq.isSome{μ:bz}{b:Frame}{rd:Option Nat}(h:nq μ b rd):rd.isSome=b.roundOf.isSome:=by
 cases rd with
 |none=>have:b.roundOf=none:=h;simp[this]
 |some l=>obtain⟨i,aa,ad⟩:=h;simp[ad]
def nr(P:Program)(need bW:Nat)(call:eJ->List I->J->a9):Prop:=
 ∀(ops:Array Oper) (id:Nat),(∀o∈ops.toList,∀t,o.dst=some t->t<bW)->qT ops (fh ops.toList 0 [] [])=true->
  ∀(b:Frame) (inR:Bool) (r:a2) (d:List bZ) (q:bL) (H:J) (μ:bz) (w:World) (a:Act) (k:List Item) (cs0 cs:List Frame),inR=b.roundOf.isSome->i_ need μ r a.tmps->a.tmps.size=bW->bB μ H w->hG P μ->gE μ d a.defers->hU μ b.kind cs0 q cs->
   o1 P need bW μ r H w b k cs0 (lone (b.atR a (.code (.region id ops true)::k)) cs w) (jt ops.toList 0 []) (tD P need inR call ops r d q H)
def J_(P:Program)(need bW:Nat)(call:eJ->List I->J->a9):Prop:=
 ∀(f:Operand) (ps:Array Nat) (as cy:Code),hQ bW (.rangeFunc f ps as cy)=true->∀(b:Frame) (rd:Option Nat) (r:a2) (d:List bZ) (q:bL) (H:J) (μ:bz) (w:World) (a:Act) (k:List Item) (cs0 cs:List Frame),nq μ b rd->i_ need μ r a.tmps->a.tmps.size=bW->bB μ H w->hG P μ->gE μ d a.defers->hU μ b.kind cs0 q cs->
  lu P need bW μ H w b k cs0 (lone (b.atR a (.code (.rangeFunc f ps as cy)::k)) cs w) (dJ P need rd call (.rangeFunc f ps as cy) r d q H)
theorem S8{b:Frame}{a:Act}{c:Code}{k:List Item}{cs:List Frame}{w:World}:step P (lone (b.atR a (.inScope c::k)) cs w)=.next (lone (b.atR a k) cs w):=
 step_lone_go (by simp[stepG,stepG.exec,Frame.atR])
theorem Ka{b:Frame}{a:Act}{c:Code}{k:List Item}{cs:List Frame}{w:World}:step P (lone (b.atR a (.code (.scope c)::k)) cs w)=.next (lone (b.atR a (.code c::.inScope c::k)) cs w):=
 step_lone_go (by simp[stepG,stepG.exec,Frame.atR])
theorem o1.code{bW:Nat}{μ:bz}{r:a2}{H:J}{w:World}{b:Frame}{k:List Item}{cs0:List Frame}{fq:Machine}{loc:List (Nat×Acc)}{x:na}(h:o1 P need bW μ r H w b k cs0 fq loc x):
  lu P need bW μ H w b k cs0 fq (nd need r loc x):=by
 cases x with
 |ok env d q aX=>
  obtain⟨a0,w',cF,bT,s1,s2,bN,bS,cr,c3⟩:=h
  exact⟨a0,w',cF,bT,s1,s2.outs,bN,bS,cr,c3⟩
 |ca v d q aX=>
  obtain⟨a0,w',cF,bT,u,bk,s1,ib,s2,bN,bS,cr,c3,dE⟩:=h
  refine⟨a0,w',cF,bT,⟨bk,u,⟨s2,ib⟩,s1⟩,λt bc=>?_,bS,cr,c3,dE⟩
  rw[J9]
  cases hf:iy t loc with
  |some x=>trivial
  |none=>exact bN t hf bc
 |fail s=>trivial
def Kb(P:Program)(need bW:Nat)(call:eJ->List I->J->a9)(rd:Option Nat)(c:Code):Prop:=
 ∀(b:Frame) (r:a2) (d:List bZ) (q:bL) (H:J) (μ:bz) (w:World) (a:Act) (k:List Item) (cs0 cs:List Frame),nq μ b rd->i_ need μ r a.tmps->a.tmps.size=bW->bB μ H w->hG P μ->gE μ d a.defers->hU μ b.kind cs0 q cs->
  lu P need bW μ H w b k cs0 (lone (b.atR a (.code c::k)) cs w) (dJ P need rd call c r d q H)
theorem Kc{bW:Nat}{call:eJ->List I->J->a9}{rd:Option Nat}{c:Code}(fN:Kb P need bW call rd c)(b:Frame)(k:List Item)(cs0:List Frame):∀(n:Nat) (r:a2) (d:List bZ) (q:bL) (H:J) (μ:bz) (w:World) (a:Act) (cs:List Frame),nq μ b rd->i_ need μ r a.tmps->a.tmps.size=bW->bB μ H w->hG P μ->gE μ d a.defers->hU μ b.kind cs0 q cs->
  lu P need bW μ H w b k cs0 (lone (b.atR a (.code c::.inLoop c::k)) cs w) (pS (dJ P need rd call c) n r d q H)
 |0,r,d,q,H,μ,w,a,cs,cK,aj,bA,ak,al,ao,aJ=>trivial
 |n+1,r,d,q,H,μ,w,a,cs,cK,aj,bA,ak,al,ao,aJ=>by
  have aa:=fN b r d q H μ w a (.inLoop c::k) cs0 cs cK aj bA ak al ao aJ
  unfold pS
  cases ab:dJ P need rd call c r d q H with
  |fail s=>trivial
  |ok e r' bh bn aX=>
   rw[ab] at aa
   obtain⟨a0,w',cF,bT,s1,s2,bN,bS,cr,c3,dE⟩:=aa
   by_cases he:e=.nrm
   · subst he
     have bb:=Kc fN b k cs0 n r' bh bn aX a0 w' cF bT (cK.mono cr.le) s2 bN bS (al.mono cr.le) c3 dE
     exact bb.of_steps ak bS (Steps.trans s1 (.one stepR_inLoop)) cr
   · rw[tZ he]
     exact⟨a0,w',cF,bT,s1.pass (λid h=>by cases h) he,s2,bN,bS,cr,c3,dE⟩
theorem o2{bW:Nat}{call:eJ->List I->J->a9}(ag:jM P call)(hdr:nr P need bW call)(mC:J_ P need bW call)(rd:Option Nat):∀(c:Code),hQ bW c=true->Kb P need bW call rd c
 |.skip,_=>λb r d q H μ w a k cs0 cs cK aj bA ak al ao aJ=>⟨μ,w,a,cs,.one stepR_skip,aj,bA,ak,cg.refl _ _ _,ao,aJ⟩
 |.label l,_=>λb r d q H μ w a k cs0 cs cK aj bA ak al ao aJ=>⟨μ,w,a,cs,.one stepR_label,aj,bA,ak,cg.refl _ _ _,ao,aJ⟩
 |.exit id,_=>λb r d q H μ w a k cs0 cs cK aj bA ak al ao aJ=>⟨μ,w,a,cs,⟨k,rfl,Steps.refl _ _⟩,aj,bA,ak,cg.refl _ _ _,ao,aJ⟩
 |.ret,_=>λb r d q H μ w a k cs0 cs cK aj bA ak al ao aJ=>⟨μ,w,a,cs,⟨k,Steps.refl _ _⟩,aj,bA,ak,cg.refl _ _ _,ao,aJ⟩
 |.goto l,_=>λb r d q H μ w a k cs0 cs cK aj bA ak al ao aJ=>trivial
 |.refuse s,_=>λb r d q H μ w a k cs0 cs cK aj bA ak al ao aJ=>trivial
 |.region id ops draw,dq=>λb r d q H μ w a k cs0 cs cK aj bA ak al ao aJ=>by
  simp only[hQ,Bool.and_eq_true,List.all_eq_true] at dq
  have kU:∀o∈ops.toList,∀t,o.dst=some t->t<bW:=λo aY t bc=>by
   have:=dq.1 o aY
   rw[bc] at this
   simpa using this
  cases draw with
  |false=>
   have h:=By (P:=P) (need:=need) (k:=k) ag kU (b:=b) (inR:=rd.isSome) cK.isSome (r:=r) (cs0:=cs0) ops.toList 0 [] 0 [] d q μ H w a cs rfl rfl (jN.init aj) bA ak al ao aJ
   have aw:List.range' 0 ops.toList.length=List.range ops.size:=by rw[List.range_eq_range'];simp
   rw[aw] at h
   have ad:=o1.code h
   have hj:pQ P need ops=⟨mG P need ops ops.toList [] 0,lr P need ops ops.toList [] 0⟩:=by
    unfold pQ;rw[EK];simp
   simp only[dJ,hj]
   exact lu.of_steps ak ak (.one stepR_region) (cg.refl _ _ _) ad
  |true=>
   have ra:qT ops (fh ops.toList 0 [] [])=true:=by simpa using dq.2
   have h:=hdr ops id kU ra b rd.isSome r d q H μ w a k cs0 cs cK.isSome aj bA ak al ao aJ
   simp only[dJ]
   exact o1.code h
 |.seq x y,dq=>λb r d q H μ w a k cs0 cs cK aj bA ak al ao aJ=>by
  simp only[hQ,Bool.and_eq_true] at dq
  have aa:=o2 ag hdr mC rd x dq.1 b r d q H μ w a (.code y::k) cs0 cs cK aj bA ak al ao aJ
  simp only[dJ]
  cases ab:dJ P need rd call x r d q H with
  |fail s=>trivial
  |ok e r' bh bn aX=>
   rw[ab] at aa
   obtain⟨a0,w',cF,bT,s1,s2,bN,bS,cr,c3,dE⟩:=aa
   by_cases he:e=.nrm
   · subst he
     have ad:=o2 ag hdr mC rd y dq.2 b r' bh bn aX a0 w' cF k cs0 bT (cK.mono cr.le) s2 bN bS (al.mono cr.le) c3 dE
     exact ad.of_steps ak bS (Steps.head stepR_seq s1) cr
   · rw[tZ he]
     exact⟨a0,w',cF,bT,(s1.pass (λid h=>by cases h) he).of_steps (.one stepR_seq),s2,bN,bS,cr,c3,dE⟩
 |.cond c x y,dq=>λb r d q H μ w a k cs0 cs cK aj bA ak al ao aJ=>by
  simp only[hQ,Bool.and_eq_true] at dq
  simp only[dJ]
  have fA:=(jN.init (P:=P) aj).eval (a:=a) al c
  split
  · rename_i oW
    rw[oW] at fA
    have h:=o2 ag hdr mC rd x dq.1 b r d q H μ w a k cs0 cs cK aj bA ak al ao aJ
    exact h.of_steps ak ak (.one (stepR_cond (t:=true) fA)) (cg.refl _ _ _)
  · rename_i oW
    rw[oW] at fA
    have h:=o2 ag hdr mC rd y dq.2 b r d q H μ w a k cs0 cs cK aj bA ak al ao aJ
    exact h.of_steps ak ak (.one (stepR_cond (t:=false) fA)) (cg.refl _ _ _)
  · trivial
 |.block id c,dq=>λb r d q H μ w a k cs0 cs cK aj bA ak al ao aJ=>by
  have aa:=o2 ag hdr mC rd c dq b r d q H μ w a (.inBlock id::k) cs0 cs cK aj bA ak al ao aJ
  simp only[dJ]
  cases ab:dJ P need rd call c r d q H with
  |fail s=>trivial
  |ok e r' bh bn aX=>
   rw[ab] at aa
   obtain⟨a0,w',cF,bT,s1,s2,bN,bS,cr,c3,dE⟩:=aa
   cases e with
   |nrm=>exact⟨a0,w',cF,bT,Steps.head stepR_block (Steps.trans s1 (.one stepR_inBlock)),s2,bN,bS,cr,c3,dE⟩
   |exit i=>
    obtain⟨bk,aA,ax⟩:=s1
    by_cases hn:i=id
    · simp only[hn,if_true]
      subst hn
      have bD:exitTo i bk=some k:=by rw[aA];simp[exitTo]
      exact⟨a0,w',cF,bT,Steps.head stepR_block (Steps.trans ax (.one (stepR_exit bD))),s2,bN,bS,cr,c3,dE⟩
    · simp only[if_neg hn]
      have:(id==i)=false:=by simp;exactλh=>hn h.symm
      exact⟨a0,w',cF,bT,⟨bk,aA.trans (by simp[exitTo,this]),Steps.head stepR_block ax⟩,s2,bN,bS,cr,c3,dE⟩
   |ret=>obtain⟨bk,ax⟩:=s1;exact⟨a0,w',cF,bT,⟨bk,Steps.head stepR_block ax⟩,s2,bN,bS,cr,c3,dE⟩
   |goto l=>exact s1.elim
   |ca v=>obtain⟨bk,u,aA,ax⟩:=s1;exact⟨a0,w',cF,bT,⟨bk,u,aA,Steps.head stepR_block ax⟩,s2,bN,bS,cr,c3,dE⟩
 |.loop c,dq=>λb r d q H μ w a k cs0 cs cK aj bA ak al ao aJ=>by
  have h:=Kc (o2 ag hdr mC rd c dq) b k cs0 100000 r d q H μ w a cs cK aj bA ak al ao aJ
  simp only[dJ]
  exact h.of_steps ak ak (.one stepR_loop) (cg.refl _ _ _)
 |.scope c,dq=>λb r d q H μ w a k cs0 cs cK aj bA ak al ao aJ=>by
  have aa:=o2 ag hdr mC rd c dq b r d q H μ w a (.inScope c::k) cs0 cs cK aj bA ak al ao aJ
  simp only[dJ]
  cases ab:dJ P need rd call c r d q H with
  |fail s=>trivial
  |ok e r' bh bn aX=>
   rw[ab] at aa
   obtain⟨a0,w',cF,bT,s1,s2,bN,bS,cr,c3,dE⟩:=aa
   by_cases he:e=.nrm
   · subst he
     exact⟨a0,w',cF,bT,Steps.head Ka (Steps.trans s1 (.one S8)),s2,bN,bS,cr,c3,dE⟩
   · exact⟨a0,w',cF,bT,(s1.pass (λid h=>by cases h) he).of_steps (.one Ka),s2,bN,bS,cr,c3,dE⟩
 |.rangeFunc f ps as cy,dq=>λb r d q H μ w a k cs0 cs cK aj bA ak al ao aJ=>mC f ps as cy dq b rd r d q H μ w a k cs0 cs cK aj bA ak al ao aJ
end
end bt
namespace bt
open Go
section
variable {P:Program} {need:Nat}
theorem S9{w g_:World}{cs:List Frame}{b:Frame}{a:Act}{l:Nat}{k:List Item}{s:Sem Next}{BA:Frame}
  (cA:(stepG P true {frame:=BA,callers:=cs,status:=.running,dying:=none} g_).bare=(stepG.apply P true (b.atR a (.inRangeFunc l::k)) cs none s w).bare):
  (∀v w',s.run P w=.ok (.value v) w'->Steps P (lone BA cs g_) (lone ((b.atR a (.inRangeFunc l::k)).finish v) cs w'))/\
  (∀f args w',s.run P w=.ok (.enter f args) w'->Steps P (lone BA cs g_) (lone (Frame.enter P f args .normal) (b.atR a (.inRangeFunc l::k)::cs) w'))/\
  (∀oZ f tmps assign body w',s.run P w=.ok (.round oZ f tmps assign body) w'->Steps P (lone BA cs g_) (lone (Frame.round oZ f tmps assign body .normal) (b.atR a (.inRangeFunc l::k)::cs) w')):=by
 refine⟨λv w' aj=>.one (step_lone_go ?_),λf args w' aj=>.one (step_lone_go ?_),λl f tmps assign body w' aj=>.one (step_lone_go ?_)⟩
 · rw[cA];simp[stepG.apply,aj]
 · rw[cA];simp[stepG.apply,aj,Frame.atR]
 · rw[cA];simp[stepG.apply,aj]
theorem S_{b:Frame}{a:Act}{f:Operand}{ps:Array Nat}{as cy:Code}{k:List Item}{cs:List Frame}{w cW:World}{l:Nat}{mark:List Deferred}(he:(Instr.enterLoop b.fn a.tmps ps as cy b.roundOf).run P w=.ok (l,mark) cW):
  (stepG P true {frame:=b.atR a (.code (.rangeFunc f ps as cy)::k),callers:=cs,status:=.running,dying:=none} w).bare=
   (stepG.apply P true (b.atR {tmps:=a.tmps,defers:=mark++a.defers} (.inRangeFunc l::k)) cs none (do let d<-Deferred.ofValue (a.eval f) #[.func (.yield l) #[] #[]];invoke d.target d.args) cW).bare:=by
 have BB:=Frame.eval_atR b {tmps:=a.tmps,defers:=mark++a.defers} (.inRangeFunc l::k)
 simp only[Frame.atR] at BB
 have Ta:({tmps:=a.tmps,defers:=mark++a.defers}:Act).eval=a.eval:=funext λx=>by cases x<;>rfl
 simp only[stepG,stepG.exec,Frame.atR,Sem.runT_eq,he,GStep.bare_after]
 have Tb:resolve a.eval {callee:=.value f,args:=#[.const (.func (.yield l) #[] #[])],argTypes:=#[]} 0=Deferred.ofValue (a.eval f) #[.func (.yield l) #[] #[]]:=by simp[resolve,Act.eval]
 rw[BB,Ta,Tb]
theorem Tc{b:Frame}{a:Act}{l:Nat}{k:List Item}{cs:List Frame}{w w':World}{oi:Option Code}(he:(Instr.endLoop l).run P w=.ok oi w'):
  step P (lone (b.atR a (.endRangeFunc l::k)) cs w)=.next (lone (b.atR a ((oi.map Item.code).toList++k)) cs w'):=
 step_lone_go (by simp[stepG,stepG.exec,Frame.atR,Sem.runT_eq,he])
theorem Td{bW:Nat}{b:Frame}{a:Act}{r:a2}{ps:Array Nat}{as cy:Code}(dq:hQ bW as=true/\hQ bW cy=true/\∀t∈ps.toList,t<bW){μ:bz}{H:J}{w:World}{rd:Option Nat}(cK:nq μ b rd)(aj:i_ need μ r a.tmps)(bA:a.tmps.size=bW)(ak:bB μ H w)
  {d:List bZ}(ao:gE μ d a.defers){l:Nat}{bh:List bZ}{H1:J}
  (aw:l=oR rd H.n)(he:x5 need rd r ps.toList as cy d H=some (bh,H1)):
  ∃a0 w' mark i,(Instr.enterLoop b.fn a.tmps ps as cy b.roundOf).run P w=.ok (i.bo,mark) w'/\a0 l=some i/\bB a0 H1 w'/\cg μ H w a0 H1 w'/\gE a0 bh (mark++a.defers):=by
 subst bA
 unfold oR at aw
 unfold x5 at he
 cases rd with
 |none=>
  have ae:b.roundOf=none:=cK
  cases he
  obtain⟨r1,r2⟩:=ak.alloc (.defrd (some [])) (.deferred (some [])) 0 ⟨[],World.heap_alloc_new _ _,rfl⟩
  have hu:fE μ H.n ⟨w.heap.size,0,0⟩ H.n=some ⟨w.heap.size,0,0⟩:=gI _ _ _
  have BC:=r1.oV ⟨(w.alloc (.deferred (some []))).heap.size,0,0⟩
  obtain⟨ba,a1⟩:=r1.alloc (.loop .ready none need r ps.toList as cy H.n) (.loop {state:=.ready,pending:=none,fn:=b.fn,tmps:=a.tmps,params:=ps,assign:=as,body:=cy,defers:=w.heap.size}) 0
   ⟨a.tmps,⟨w.heap.size,0,0⟩,b.fn,BC _ _ hu,World.heap_alloc_new _ _,aj.mono (r2.le.trans BC),dq.1,dq.2.1,dq.2.2⟩
  refine⟨_,_,[{target:=.collected w.heap.size,args:=#[]}],⟨(w.alloc (.deferred (some []))).heap.size,0,0⟩,?_,?_,ba,cg.trans ak r1 r2 a1,⟨_,_,rfl,.collected _ ⟨w.heap.size,0,0⟩ (BC _ _ hu),ao.mono (r2.le.trans BC)⟩⟩
  · rw[ae]
    simp only[Instr.enterLoop,Sem.run_bind,run_newObj,Result.andThen_ok,Sem.run_pure]
    rfl
  · rw[aw];exact gI _ _ _
 |some D5=>
  obtain⟨j,aK,ae⟩:=cK
  simp only at aw he
  subst aw
  cases al:H.get D5 with
  |none=>rw[al] at he;cases he
  |some EP=>
  rw[al] at he
  cases EP<;>try (cases he;done)
  case loop nt Kd afs aft Ke Kf Kg eU=>
   cases he
   obtain⟨cn,h6,fn,aA,ax,_⟩:=ak.rel _ _ j al aK
   have hle:=ak.oV ⟨w.heap.size,0,0⟩
   obtain⟨ba,a1⟩:=ak.alloc (.loop .ready none need r ps.toList as cy eU) (.loop {state:=.ready,pending:=none,fn:=b.fn,tmps:=a.tmps,params:=ps,assign:=as,body:=cy,defers:=h6.bo}) 0
    ⟨a.tmps,h6,b.fn,hle _ _ aA,World.heap_alloc_new _ _,aj.mono hle,dq.1,dq.2.1,dq.2.2⟩
   refine⟨_,_,[],⟨w.heap.size,0,0⟩,?_,?_,ba,a1,ao.mono hle⟩
   · rw[ae]
     have nk:(Instr.getLoop j.bo).run P w=.ok {state:=nt,pending:=Kd,fn:=fn,tmps:=cn,params:=⟨Ke⟩,assign:=Kf,body:=Kg,defers:=h6.bo} w:=by
      have:(getObj j.bo).run P w=.ok (.loop {state:=nt,pending:=Kd,fn:=fn,tmps:=cn,params:=⟨Ke⟩,assign:=Kf,body:=Kg,defers:=h6.bo}) w:=by simp[getObj,Sem.run,ax]
      simp only[Instr.getLoop,Sem.run_bind,this];rfl
     simp only[Instr.enterLoop,Sem.run_bind,nk,Result.andThen_ok,Sem.run_pure,run_newObj]
     rfl
   · exact gI _ _ _
theorem Te{μ:bz}{H:J}{w:World}(ak:bB μ H w){l:Nat}{i:eX}(aw:μ l=some i){st:LoopState}{gf:Option Code}{hi:Nat}{rg:a2}{ps:List Nat}{as cy:Code}{eU:Nat}(al:H.get l=some (.loop st gf hi rg ps as cy eU))(cA:st≠ .busy):
  ∃w',(Instr.endLoop i.bo).run P w=.ok gf w'/\bB μ (H.set l (some (.loop .exhausted gf hi rg ps as cy eU))) w'/\cg μ H w μ (H.set l (some (.loop .exhausted gf hi rg ps as cy eU))) w':=by
 obtain⟨cn,h6,fn,aA,ax,bD⟩:=ak.rel _ _ i al aw
 have ch:=(ak.lt _ _ aw).2
 obtain⟨r1,r2⟩:=ak.update (w':={w with heap:=w.heap.setIfInBounds i.bo (.loop {state:=.exhausted,pending:=gf,fn:=fn,tmps:=cn,params:=⟨ps⟩,assign:=as,body:=cy,defers:=h6.bo})}) (o':=.loop .exhausted gf hi rg ps as cy eU) al rfl aw (by simp) (λr aj=>by simp[Array.getElem?_setIfInBounds];intro e;exact absurd e.symm aj) rfl rfl rfl
  ⟨cn,h6,fn,aA,by simp[ch],bD⟩
 refine⟨_,?_,r1,r2⟩
 have je:(getObj i.bo).run P w=.ok (.loop {state:=st,pending:=gf,fn:=fn,tmps:=cn,params:=⟨ps⟩,assign:=as,body:=cy,defers:=h6.bo}) w:=by simp[getObj,Sem.run,ax]
 have eR:(setObj i.bo (.loop {state:=.exhausted,pending:=gf,fn:=fn,tmps:=cn,params:=⟨ps⟩,assign:=as,body:=cy,defers:=h6.bo})).run P w=.ok () {w with heap:=w.heap.setIfInBounds i.bo (.loop {state:=.exhausted,pending:=gf,fn:=fn,tmps:=cn,params:=⟨ps⟩,assign:=as,body:=cy,defers:=h6.bo})}:=by simp[setObj,Sem.run,ax]
 have ae:(st==LoopState.busy)=false:=by cases st<;>first|rfl|exact absurd rfl cA
 simp only[Instr.endLoop,Instr.getLoop,Sem.run_bind,je,Result.andThen_ok,Sem.run_pure,ae,Bool.false_eq_true,if_false,eR]
theorem BD{bW:Nat}{call:eJ->List I->J->a9}(ag:jM P call):J_ P need bW call:=by
 intro f ps as cy dq b rd r d q H μ w a k cs0 cs cK aj bA ak al ao aJ
 simp only[hQ,Bool.and_eq_true,List.all_eq_true] at dq
 have o3:∀t∈ps.toList,t<bW:=λt bc=>by simpa using dq.1.1 t bc
 have fA:=(jN.init (P:=P) aj).eval (a:=a) al f
 simp only[dJ]
 cases cA:x5 need rd r ps.toList as cy d H with
 |none=>trivial
 |some p=>
  obtain⟨bh,H1⟩:=p
  simp only
  obtain⟨h7,cW,mark,i,aa,ad,av,aG,bI⟩:=Td (P:=P) (b:=b) (a:=a) (ps:=ps) ⟨dq.1.2,dq.2,o3⟩ cK aj bA ak ao rfl cA
  have Tf:=fA.mono aG.le
  have Tg:=S_ (P:=P) (f:=f) (k:=k) (cs:=cs) aa
  obtain⟨ai,au,ay⟩:=S9 Tg
  have oW:=JY (P:=P) (w:=cW) av Tf (args:=[.dt (oR rd H.n)]) (vs:=[.func (.yield i.bo) #[] #[]]) ⟨_,_,rfl,⟨i,ad,rfl⟩,rfl⟩
  have fin:∀(res:a9),sx P (lone (b.atR a (.code (.rangeFunc f ps as cy)::k)) cs w) (b.atR {tmps:=a.tmps,defers:=mark++a.defers} (.inRangeFunc i.bo::k)) cs (Ends h7 H1 cW res)->
    lu P need bW μ H w b k cs0 (lone (b.atR a (.code (.rangeFunc f ps as cy)::k)) cs w) (n4 (oR rd H.n) r bh q res):=by
   intro res aw
   obtain⟨e,ki,fG,iH⟩:=aw
   cases res with
   |fail s=>trivial
   |ca v bm=>
    obtain⟨a0,u,rfl,ba,a1,b7⟩:=fG
    exact⟨a0,ki,{tmps:=a.tmps,defers:=mark++a.defers},cs,⟨.inRangeFunc i.bo::k,u,⟨ba,trivial⟩,iH⟩,aj.mono (aG.le.trans b7.le),bA,a1,cg.trans ak av aG b7,bI.mono b7.le,aJ.mono (aG.le.trans b7.le)⟩
   |ret v bm=>
    obtain⟨a0,u,rfl,ba,a1,b7⟩:=fG
    have nn:(b.atR {tmps:=a.tmps,defers:=mark++a.defers} (.inRangeFunc i.bo::k)).finish u=b.atR {tmps:=a.tmps,defers:=mark++a.defers} (.endRangeFunc i.bo::k):=rfl
    simp only[nn] at iH
    unfold n4
    simp only
    cases gL:bm.get (oR rd H.n) with
    |none=>trivial
    |some EP=>
     cases EP<;>try trivial
     case loop st gf hi rg Th A0 A1 eU=>
      simp only
      by_cases ae:st=.busy
      · subst ae;trivial
      · obtain⟨rb,aA,ax,bD⟩:=Te (P:=P) a1 (b7.le _ _ ad) gL ae
        have kH:=Steps.trans iH (.one (Tc (b:=b) (a:={tmps:=a.tmps,defers:=mark++a.defers}) (k:=k) (cs:=cs) aA))
        have hle:=aG.le.trans (b7.le.trans bD.le)
        have kV:=cg.trans ak a1 (cg.trans ak av aG b7) bD
        have done:∀(e:bu),sy P a0 (lone (b.atR a (.code (.rangeFunc f ps as cy)::k)) cs w) b k cs {tmps:=a.tmps,defers:=mark++a.defers} rb e->
          lu P need bW μ H w b k cs0 (lone (b.atR a (.code (.rangeFunc f ps as cy)::k)) cs w) (.ok e r bh q (bm.set (oR rd H.n) (some (.loop .exhausted gf hi rg Th A0 A1 eU)))):=λe he=>
         ⟨a0,rb,{tmps:=a.tmps,defers:=mark++a.defers},cs,he,aj.mono hle,bA,ax,kV,bI.mono (b7.le.trans bD.le),aJ.mono hle⟩
        have afu:∀X:jZ,(match st with|.busy=>jZ.fail "rangeFunc: busy" |_=>X)=X:=λX=>by cases st<;>first|rfl|exact absurd rfl ae
        cases st<;>first
         |exact absurd rfl ae
         |(cases gf with
          |none=>exact done .nrm kH
          |some c=>
           cases c<;>first
            |trivial
            |exact done .ret ⟨k,kH⟩
            |exact done (.exit _) ⟨k,rfl,kH⟩)
  cases Kh:tC (dI 0 [] r (cR P need [] f)) [.dt (oR rd H.n)] H1 with
  |call g args aM=>
   rw[Kh] at oW
   obtain⟨rfl,vs,aA,ax⟩:=oW
   simp only
   cases cb:(call (.fn g) args aM).lq with
   |false=>obtain⟨s,hs⟩:=Bv cb;rw[hs];trivial
   |true=>
    apply fin
    rcases ag.fn g args aM cb h7 cW vs av (al.mono aG.le) ax with⟨v,w',ba,a1⟩|⟨ba,a1⟩
    · rw[<-aA] at ba
      exact⟨_,_,a1,ai _ _ ba⟩
    · rw[<-aA] at ba
      exact(J2 (Bw cb) a1 _ _).of_steps (au _ _ _ ba)
  |dt bV args aM=>
   rw[Kh] at oW
   obtain⟨rfl,eC,vs,mH,aA,ax⟩:=oW
   simp only
   cases cb:(call (.dt bV) args aM).lq with
   |false=>obtain⟨s,hs⟩:=Bv cb;rw[hs];trivial
   |true=>
    apply fin
    obtain⟨ER,tmps,A0,A1,ba,a1⟩:=ag.dt bV args aM cb h7 cW eC vs av (al.mono aG.le) mH ax
    rw[<-aA] at ba
    exact(a1 _ _).of_steps (ay _ _ _ _ _ _ ba)
  |val v aM=>trivial
  |ca v aM=>trivial
  |lT x=>trivial
  |tx=>trivial
  |fail s=>trivial
end
end bt
namespace bt
open Go
section
variable {P:Program}
theorem ES:∀(l:List I) (i:Nat) (r:a2) (t:Nat),(n5 i l r).get (hh t)=if i<=t/\t<i+l.length then(l[t-i]?).getD .bad else r.get (hh t)
 |[],i,r,t=>by
  simp only[n5,List.length_nil]
  rw[if_neg (by omega)]
 |v::l,i,r,t=>by
  simp only[n5,ES l (i+1),a2.c7,List.length_cons]
  by_cases h:i+1<=t/\t<i+1+l.length
  · rw[if_pos h,if_pos (by omega)]
    have:t-i=(t-(i+1))+1:=by omega
    rw[this];simp
  · rw[if_neg h]
    by_cases e:t=i
    · subst e;rw[if_pos rfl,if_pos (by omega)];simp
    · rw[if_neg e,if_neg (by omega)]
theorem Ki{need:Nat}{μ:bz}{args:List I}{vs:List Value}(h:cm μ args vs)(n:Nat):i_ need μ (n5 0 args .leaf) (⟨vs⟩++Array.replicate n undef):=by
 intro t _
 rw[ES]
 have aw:=h.length
 by_cases bc:t<args.length
 · rw[if_pos (by omega)]
   simp only[Nat.sub_zero]
   obtain⟨v,aD,aj⟩:=h.get (List.getElem?_eq_getElem bc)
   rw[List.getElem?_eq_getElem bc]
   rw[Array.getD_eq_getD_getElem?,Array.getElem?_append_left (by simp;omega)]
   simp only[List.getElem?_toArray,aD,Option.getD_some]
   exact aj
 · rw[if_neg (by omega),a2.n6];trivial
theorem Ti{need:Nat}{μ:bz}{H:J}{w:World}(ak:bB μ H w){r:a2}{cn:Array Value}(aj:i_ need μ r cn){x:ResultVar}{v:I}(h:r6 P need r H x=some v):
  ∃u,((match x with|.tmp t=>pure (cn.getD t undef)|.cell a t=>do loadVar t (<-asAddr (cn.getD a undef)):Sem Value)).run P w=.ok u w/\bp μ v u:=by
 unfold r6 at h
 cases x with
 |tmp t=>
  simp only at h
  split at h
  · rename_i ae;cases h;exact⟨_,rfl,aj t ae⟩
  · cases h
 |cell t ty=>
  simp only at h
  split at h
  · rename_i ae
    have aa:=aj t ae
    split at h
    · rename_i b off n aQ aL aN
      rw[aQ] at aa
      obtain⟨i,af,aD⟩:=aa
      split at h
      · rename_i cs aw
        cases h
        obtain⟨us,ba,a1⟩:=se (P:=P) ak af aw
        refine⟨.agg ⟨us⟩,?_,us,rfl,a1⟩
        simp[aD,asAddr,loadVar,vO aL,run_sizeOf aN,ba]
      · cases h
    · rename_i b off aQ aL
      rw[aQ] at aa
      obtain⟨i,af,aD⟩:=aa
      obtain⟨u,ba,a1⟩:=Ec (P:=P) ak af h
      refine⟨u,?_,a1⟩
      simp only[aD,asAddr,loadVar,Sem.run_bind,Sem.run_pure,Result.andThen_ok,vO aL,Bool.false_eq_true,if_false,ba]
    · cases h
  · cases h
theorem ET{need:Nat}{μ:bz}{H:J}{w:World}(ak:bB μ H w){r:a2}{cn:Array Value}(aj:i_ need μ r cn):∀(l:List ResultVar) (vs:List I),pU (r6 P need r H) l=some vs->
  ∃us:List Value,(l.mapM (λx=>(match x with|.tmp t=>pure (cn.getD t undef)|.cell a t=>do loadVar t (<-asAddr (cn.getD a undef)):Sem Value))).run P w=.ok us w/\cm μ vs us
 |[],vs,h=>by cases h;exact⟨[],rfl,rfl⟩
 |x::l,vs,h=>by
  simp only[pU] at h
  split at h
  · rename_i v sA aa ad
    cases h
    obtain⟨u,ba,a1⟩:=Ti ak aj aa
    obtain⟨us,b7,fv⟩:=ET ak aj l sA ad
    refine⟨u::us,?_,⟨_,_,rfl,a1,fv⟩⟩
    rw[List.mapM_cons]
    simp only[Sem.run_bind]
    rw[ba]
    simp only[Result.andThen_ok,Sem.run_bind,b7,Sem.run_pure]
  · cases h
theorem Kj{need:Nat}{μ:bz}{H:J}{w:World}(ak:bB μ H w){fn:Func}{r:a2}{cn:Array Value}(aj:i_ need μ r cn){v:I}(h:qR P need fn r H=some v):
  ∃u,(results fn cn).run P w=.ok u w/\bp μ v u:=by
 unfold qR at h
 have jx:∀us:List Value,(fn.results.toList.mapM (λx=>(match x with|.tmp t=>pure (cn.getD t undef)|.cell a t=>do loadVar t (<-asAddr (cn.getD a undef)):Sem Value))).run P w=.ok us w->
   (results fn cn).run P w=.ok (if h:(⟨us⟩:Array Value).size=1 then(⟨us⟩:Array Value)[0] else .tuple ⟨us⟩) w:=by
  intro us jw
  have hm:(fn.results.mapM (λx=>(match x with|.tmp t=>pure (cn.getD t undef)|.cell a t=>do loadVar t (<-asAddr (cn.getD a undef)):Sem Value))).run P w=.ok ⟨us⟩ w:=by
   rw[Array.mapM_eq_mapM_toList]
   simp only[map_eq_pure_bind,Sem.run_bind]
   rw[jw];rfl
  unfold results
  simp only[Sem.run_bind]
  refine Eq.trans (congrArg (λq=>Result.andThen q _) hm) ?_
  rfl
 split at h
 · rename_i v' aL
   cases h
   obtain⟨us,ba,a1⟩:=ET ak aj _ _ aL
   obtain⟨u,sm,rfl,b7,fv⟩:=a1
   cases fv
   exact⟨_,jx _ ba,b7⟩
 · rename_i vs cX aL
   cases h
   obtain⟨us,ba,a1⟩:=ET ak aj _ _ aL
   refine⟨_,jx _ ba,?_⟩
   have:¬((⟨us⟩:Array Value).size=1):=by
    intro e
    have aw:=a1.length
    have cI:us.length=1:=e
    rw[cI] at aw
    obtain⟨x,ab⟩:=List.length_eq_one_iff.1 aw
    exact cX x ab
   rw[dif_neg this]
   exact⟨us,rfl,a1⟩
 · cases h
theorem Kk{call:eJ->List I->J->a9}(ag:jM P call)(hdr:∀need bW,nr P need bW call){f:FuncId}{fn:Func}(hf:P.funcs[f]? =some fn){kind:CallKind}{c:Code}(ae:fn.body=some c)(dq:hQ fn.ntmps c=true)
  {args:List I}{vs:List Value}{q:bL}{H:J}{μ:bz}{w:World}{cs0 cs:List Frame}(aD:cm μ args vs)(ak:bB μ H w)(al:hG P μ)(aJ:hU μ kind cs0 q cs):
  lu P (dR fn) fn.ntmps μ H w {(default:Frame) with fn:=f,kind:=kind} [] cs0 (lone (Frame.enter P f ⟨vs⟩ kind) cs w) (nf P call fn args q H):=by
 unfold nf
 rw[ae]
 simp only
 cases hle:Nat.ble args.length fn.ntmps with
 |false=>trivial
 |true=>
  have Bj:args.length<=fn.ntmps:=by simpa using hle
  have hlen:=aD.length
  simp only
  have EU:Frame.enter P f ⟨vs⟩ kind=({(default:Frame) with fn:=f,kind:=kind}:Frame).atR {tmps:=⟨vs⟩++Array.replicate (fn.ntmps-vs.length) undef,defers:=[]} [.code c]:=by
   simp[Frame.enter,Frame.atR,hf,ae]
   rfl
  rw[EU]
  exact o2 ag (hdr _ _) (BD ag) none c dq {(default:Frame) with fn:=f,kind:=kind} (n5 0 args .leaf) [] q H μ w {tmps:=⟨vs⟩++Array.replicate (fn.ntmps-vs.length) undef,defers:=[]} [] cs0 cs rfl (Ki aD _) (by simp;omega) ak al rfl aJ
def vX(P:Program):Prop:=∀(g:FuncId) (hP:Func) (gc:Code),P.funcs[g]? =some hP->hP.body=some gc->hQ hP.ntmps gc=true/\(hP.name== "runtime.NumGoroutine")=false
theorem BE{f:FuncId}{fn:Func}{c:Code}(hf:P.funcs[f]? =some fn)(ae:fn.body=some c)(aN:(fn.name== "runtime.NumGoroutine")=false)(args:Array Value)(w:World):(callFunc f args).run P w=.ok (.enter f args) w:=by
 have oj:¬fn.name= "runtime.NumGoroutine" :=by simpa using aN
 simp[callFunc,hf,oj,ae]
def nu(μ:bz):Option I->FrameMode->Prop
 |none,m=>m=.returning
 |some v,m=>∃u,m=.panicking [{v:=u,recovered:=false}]/\bp μ v u
theorem nu.mono{μ a0:bz}(hle:fi μ a0){et:Option I}{m:FrameMode}(h:nu μ et m):nu a0 et m:=by
 cases et with
 |none=>exact h
 |some v=>obtain⟨u,aa,ad⟩:=h;exact⟨u,aa,ad.mono hle⟩
theorem nu.run{μ:bz}{et:Option I}{m:FrameMode}(h:nu μ et m):m≠ .run:=by
 cases et with
 |none=>intro e;cases h.symm.trans e
 |some v=>obtain⟨u,aa,_⟩:=h;intro e;cases aa.symm.trans e
theorem nu.q{μ:bz}{et:Option I}{c:Frame}{cs:List Frame}(h:nu μ et c.mode):hU μ .deferred (c::cs) (vH et) (c::cs):=by
 cases et with
 |none=>
  refine⟨rfl,λdj aq=>?_⟩
  have an:c.mode=.returning:=h
  simp only[tryRecover,aq,an]
 |some v=>obtain⟨u,aa,ad⟩:=h;exact⟨rfl,rfl,c,cs,u,rfl,aa,ad⟩
theorem Tj{μ:bz}{H:J}{w:World}(ak:bB μ H w){r:Nat}{i:eX}(af:μ r=some i){cs:List bZ}(al:H.get r=some (.defrd (some cs))):
  ∃w' l,(Instr.takeDeferred i.bo).run P w=.ok l w'/\gE μ cs l/\bB μ (H.set r (some (.defrd none))) w'/\cg μ H w μ (H.set r (some (.defrd none))) w':=by
 obtain⟨l,aA,ax⟩:=ak.rel _ _ i al af
 have ch:=(ak.lt _ _ af).2
 obtain⟨r1,r2⟩:=ak.update (w':={w with heap:=w.heap.setIfInBounds i.bo (.deferred none)}) (o':=.defrd none) al rfl af (by simp) (λr aj=>by simp[Array.getElem?_setIfInBounds];intro e;exact absurd e.symm aj) rfl rfl rfl
  (show({w with heap:=w.heap.setIfInBounds i.bo (.deferred none)}:World).heap[i.bo]? =some (.deferred none) by simp[ch])
 refine⟨_,l,?_,ax,r1,r2⟩
 have je:(getObj i.bo).run P w=.ok (.deferred (some l)) w:=by simp[getObj,Sem.run,aA]
 have eR:(setObj i.bo (.deferred none)).run P w=.ok () {w with heap:=w.heap.setIfInBounds i.bo (.deferred none)}:=by simp[setObj,Sem.run,aA]
 simp only[Instr.takeDeferred,Sem.run_bind,je,Result.andThen_ok,eR,Sem.run_pure]
end
end bt
namespace bt
open Go
section
variable {P:Program}
theorem step_take{dj:Frame}{cs:List Frame}{w w':World}{b:Nat}{args:Array Value}{ds calls:List Deferred}(hm:dj.mode≠ .run)(ao:dj.defers={target:=.collected b,args:=args}::ds)(bc:(Instr.takeDeferred b).run P w=.ok calls w'):
  step P (lone dj cs w)=.next (lone {dj with defers:=calls++ds} cs w'):=by
 refine step_lone_go ?_
 cases EV:dj.mode with
 |run=>exact absurd EV hm
 |returning=>simp[stepG,unwind,EV,ao,Sem.runT_eq,bc]
 |panicking chain=>simp[stepG,unwind,EV,ao,Sem.runT_eq,bc]
theorem Ends.trans{μ h7:bz}{H H1:J}{w cW:World}{x:a9}{e:Ending}{w':World}(ak:bB μ H w)(ju:bB h7 H1 cW)(aL:cg μ H w h7 H1 cW)(h:Ends h7 H1 cW x e w'):Ends μ H w x e w':=by
 cases x with
 |ret v aX=>obtain⟨a0,u,aa,ad,av,aG⟩:=h;exact⟨a0,u,aa,ad,av,cg.trans ak ju aL aG⟩
 |ca v aX=>obtain⟨a0,u,aa,ad,av,aG⟩:=h;exact⟨a0,u,aa,ad,av,cg.trans ak ju aL aG⟩
 |fail s=>trivial
theorem BF{call:eJ->List I->J->a9}(ag:jM P call)(hdr:∀need bW,nr P need bW call)(eB:vX P){need:Nat}{fn:Func}{r:a2}:
  ∀(k:Nat) (et:Option I) (ds:List bZ) (H:J) (μ:bz) (w:World) (dj:Frame) (cs:List Frame),(jJ P call need fn r k et ds H).lq=true->bB μ H w->hG P μ->i_ need μ r dj.tmps->P.funcs[dj.fn]? =some fn->dj.kind=.normal->
   gE μ ds dj.defers->nu μ et dj.mode->∃e w' EW,Ends μ H w (jJ P call need fn r k et ds H) e w'/\Steps P (lone dj cs w) (lone EW cs w')/\EW.fn=dj.fn/\EW.leaving P w' e
 |0,et,ds,H,μ,w,dj,cs,cb,ak,al,aj,hf,aq,ao,aQ=>by cases cb
 |k+1,et,[],H,μ,w,dj,cs,cb,ak,al,aj,hf,aq,ao,aQ=>by
  have o4:dj.defers=[]:=ao
  cases et with
  |none=>
   simp only[jJ] at cb⊢
   cases jx:qR P need fn r H with
   |none=>rw[jx] at cb;cases cb
   |some v=>
    obtain⟨u,ba,a1⟩:=Kj (P:=P) ak aj jx
    exact⟨.returned u,w,dj,⟨μ,u,rfl,a1,ak,cg.refl _ _ _⟩,Steps.refl _ _,rfl,aQ,o4,aq,fn,hf,ba⟩
  |some v=>
   obtain⟨u,aa,ad⟩:=aQ
   exact⟨.panicked _,w,dj,⟨μ,u,rfl,ad,ak,cg.refl _ _ _⟩,Steps.refl _ _,rfl,aa,o4,fn,hf⟩
 |k+1,et,.collected b::ds,H,μ,w,dj,cs,cb,ak,al,aj,hf,aq,ao,aQ=>by
  obtain⟨ss,dl,yA,aa,ad⟩:=ao
  cases aa with
  |collected _ i af=>
  simp only[jJ] at cb⊢
  cases EX:H.get b with
  |none=>rw[EX] at cb;cases cb
  |some o=>
   rw[EX] at cb
   cases o<;>try (cases cb;done)
   case defrd calls=>
    cases calls with
    |none=>cases cb
    |some Tk=>
     simp only at cb⊢
     obtain⟨w',l,aA,ax,bD,ed⟩:=Tj (P:=P) ak af EX
     have hs:=step_take (cs:=cs) aQ.run yA aA
     obtain⟨e,cN,kj,r1,r2,dS,eZ⟩:=BF ag hdr eB k et (Tk++ds) _ μ w' {dj with defers:=l++dl} cs cb bD al aj hf aq (ax.append ad) aQ
     refine⟨e,cN,kj,?_,Steps.head hs r2,dS,eZ⟩
     exact Ends.trans ak bD ed r1
 |k+1,et,.call g args::ds,H,μ,w,dj,cs,cb,ak,al,aj,hf,aq,ao,aQ=>by
  obtain⟨ss,dl,yA,aa,ad⟩:=ao
  cases aa with
  |call _ _ cap vs Tl=>
  simp only[jJ] at cb⊢
  cases sB:P.funcs[g]? with
  |none=>rw[sB] at cb;cases cb
  |some hP=>
   rw[sB] at cb
   simp only at cb⊢
   cases vY:hP.body with
   |none=>
    have:nf P call hP args (vH et) H=.fail "no body" :=by simp[nf,vY]
    rw[this] at cb;cases cb
   |some gc=>
    obtain⟨kW,re⟩:=eB g hP gc sB vY
    have aJ:hU μ .deferred ({dj with defers:=dl}::cs) (vH et) ({dj with defers:=dl}::cs):=nu.q (c:={dj with defers:=dl}) aQ
    have ae:=Kk (P:=P) ag hdr sB (kind:=.deferred) vY kW (args:=args) (vs:=vs++cap) (q:=vH et) Tl ak al aJ
    have hinv:(invoke (.fn (.func g) ⟨cap⟩) ⟨vs⟩).run P w=.ok (.enter g ⟨vs++cap⟩) w:=by
     have:=BE (P:=P) sB vY re (⟨vs⟩++⟨cap⟩) w
     simpa[invoke] using this
    have BG:=step_defer (P:=P) (cs:=cs) aQ.run yA (d:={target:=.fn (.func g) ⟨cap⟩,args:=⟨vs⟩}) rfl hinv
    cases ab:nf P call hP args (vH et) H with
    |fail s=>rw[ab] at cb;cases cb
    |ok e r' bh bn aX=>
     rw[ab] at cb ae
     obtain⟨a0,w',cF,bT,s1,s2,bN,bS,cr,c3,dE⟩:=ae
     simp only[IU] at cb⊢
     cases jx:qR P (dR hP) hP r' aX with
     |none=>rw[jx] at cb;cases e<;>cases bh<;>cases cb
     |some afv=>
      rw[jx] at cb
      obtain⟨u,ba,a1⟩:=Kj (P:=P) bS s2 jx
      have main:∀(he:e=.nrm\/e=.ret) (o4:bh=[]) (gK:(jJ P call need fn r k (x6 bn et) ds aX).lq=true),
        ∃ax cN kj,Ends μ H w (jJ P call need fn r k (x6 bn et) ds aX) ax cN/\Steps P (lone dj cs w) (lone kj cs cN)/\kj.fn=dj.fn/\kj.leaving P cN ax:=by
       intro he o4 gK
       subst o4
       have yP:cF.defers=[]:=c3
       have yQ:∃todo,Steps P (lone (Frame.enter P g ⟨vs++cap⟩ .deferred) ({dj with defers:=dl}::cs) w) (lone {({(default:Frame) with fn:=g,kind:=.deferred}:Frame).atR cF todo with mode:=.returning} bT w'):=by
        rcases he with rfl|rfl
        · exact⟨_,Steps.trans s1 (.one (stepR_end rfl))⟩
        · obtain⟨bk,t_⟩:=s1
          exact⟨_,Steps.trans t_ (.one (stepR_ret rfl))⟩
       obtain⟨todo,yQ⟩:=yQ
       have je:({({(default:Frame) with fn:=g,kind:=.deferred}:Frame).atR cF todo with mode:=.returning}:Frame).going P w' (.returned u):=⟨rfl,yP,hP,sB,ba⟩
       have caller:∃m,bT={({dj with defers:=dl}:Frame) with mode:=m}::cs/\nu a0 (x6 bn et) (settle m):=by
        have bO:nu a0 et (settle dj.mode):=by
         have yR:=aQ.mono cr.le
         cases et with
         |none=>have:dj.mode=.returning:=yR;rw[this];rfl
         |some v=>obtain⟨u,aa,ad⟩:=yR;rw[aa];exact⟨u,rfl,ad⟩
        cases bn with
        |none=>exact⟨dj.mode,dE.1,bO⟩
        |act v=>exact⟨dj.mode,dE.1,bO⟩
        |done v=>
         obtain⟨_,c,rest,u,aA,ax,bD,ed⟩:=dE
         cases aA
         exact⟨_,ed,rfl⟩
       obtain⟨m,rfl,Tm⟩:=caller
       have av:=step_going_returned (P:=P) (c:={({dj with defers:=dl}:Frame) with mode:=m}) (cs:=cs) rfl je
       obtain⟨ax,cN,kj,r1,r2,dS,eZ⟩:=BF ag hdr eB k (x6 bn et) ds aX a0 w' {dj with defers:=dl,mode:=settle m} cs gK bS (al.mono cr.le) (aj.mono cr.le) hf aq (ad.mono cr.le) Tm
       exact⟨ax,cN,kj,Ends.trans ak bS cr r1,Steps.head BG (Steps.trans yQ (Steps.head av r2)),dS,eZ⟩
      cases bh with
      |cons x xs=>cases e<;>cases cb
      |nil=>
       cases e with
       |nrm=>exact main (.inl rfl) rfl cb
       |ret=>exact main (.inr rfl) rfl cb
       |exit id=>cases cb
       |goto l=>cases cb
       |ca v=>cases cb
theorem Kl{P:Program}{m j5:Machine}{e:Ending}(h:Steps P m j5)(he:e≠ .outgrown):Comes P m j5 e:=by
 cases e with
 |outgrown=>exact absurd rfl he
 |_=>exact h
theorem Tn{call:eJ->List I->J->a9}(ag:jM P call)(hdr:∀need bW,nr P need bW call)(eB:vX P){f:FuncId}{fn:Func}{c:Code}(hf:P.funcs[f]? =some fn)(ae:fn.body=some c)
  {args:List I}{vs:List Value}{H:J}{μ:bz}{w:World}(aD:cm μ args vs)(ak:bB μ H w)(al:hG P μ)(cb:(pV P call fn (nf P call fn args .none H)).lq=true):
  Calls P f ⟨vs⟩ w (Ends μ H w (pV P call fn (nf P call fn args .none H))):=by
 intro cs
 obtain⟨kW,re⟩:=eB f fn c hf ae
 have aJ:hU μ .normal cs .none cs:=⟨rfl,λdj aq=>by simp[tryRecover,aq]⟩
 have fu:=Kk (P:=P) ag hdr hf (kind:=.normal) ae kW aD ak al aJ
 generalize ab:nf P call fn args .none H=x at cb fu⊢
 cases x with
 |fail s=>cases cb
 |ok e r d q aX=>
  obtain⟨a0,w',cF,bT,s1,s2,bN,bS,cr,c3,dE⟩:=fu
  have fN:bT=cs:=by
   cases q with
   |none=>exact dE.1
   |act v=>exact dE.1
   |done v=>exact absurd dE.1 (by intro h;cases h)
  subst fN
  have main:∀(et:Option I) (dj:Frame),dj.fn=f->dj.tmps=cF.tmps->dj.defers=cF.defers->dj.kind=.normal->nu a0 et dj.mode->Steps P (lone (Frame.enter P f ⟨vs⟩ .normal) bT w) (lone dj bT w')->
    (jJ P call (dR fn) fn r 100 et d aX).lq=true->∃e cN kj,Ends μ H w (jJ P call (dR fn) fn r 100 et d aX) e cN/\Comes P (lone (Frame.enter P f ⟨vs⟩ .normal) bT w) (lone kj bT cN) e/\kj.fn=f/\kj.leaving P cN e:=by
   intro et dj aa ad av aG bI cq gK
   subst aa
   obtain⟨ax,cN,kj,r1,r2,dS,eZ⟩:=BF ag hdr eB 100 et d aX a0 w' dj bT gK bS (al.mono cr.le) (by rw[ad];exact s2) hf aG (by rw[av];exact c3) bI
   have ua:=Ends.trans ak bS cr r1
   exact⟨ax,cN,kj,ua,Kl (cq.trans r2) (λe=>Bw gK _ (e▸ua)),dS,eZ⟩
  cases e with
  |nrm=>exact main none {({(default:Frame) with fn:=f,kind:=.normal}:Frame).atR cF [] with mode:=.returning} rfl rfl rfl rfl rfl (Steps.trans s1 (.one (stepR_end rfl))) cb
  |ret=>obtain⟨bk,t_⟩:=s1;exact main none {({(default:Frame) with fn:=f,kind:=.normal}:Frame).atR cF (.code .ret::bk) with mode:=.returning} rfl rfl rfl rfl rfl (Steps.trans t_ (.one (stepR_ret rfl))) cb
  |ca v=>obtain⟨bk,u,aa,ad⟩:=s1;exact main (some v) _ rfl rfl rfl rfl ⟨u,rfl,aa.1⟩ ad cb
  |exit id=>cases cb
  |goto l=>cases cb
end
end bt
namespace bt
open Go
section
variable {P:Program}
theorem Km{need:Nat}{μ:bz}:∀(ps:List Nat) (args:List I) (vs:List Value) (r fM:a2) (cn:Array Value),(∀t∈ps,t<cn.size)->i_ need μ r cn->cm μ args vs->vJ ps args r=some fM->
  i_ need μ fM ((ps.zip vs).foldl (λcn (p:Nat×Value)=>cn.setIfInBounds p.1 p.2) cn)/\((ps.zip vs).foldl (λcn (p:Nat×Value)=>cn.setIfInBounds p.1 p.2) cn).size=cn.size/\ps.length=vs.length
 |[],[],vs,r,fM,cn,aQ,aj,aD,h=>by cases aD;cases h;exact⟨aj,rfl,rfl⟩
 |t::ck,v::args,vs,r,fM,cn,aQ,aj,aD,h=>by
  obtain⟨u,us,rfl,aa,ad⟩:=aD
  simp only[vJ] at h
  have q8:i_ need μ (r.set (hh t) v) (cn.setIfInBounds t u):=λs hs=>by
   rw[a2.c7,yM (aQ t (by simp))]
   by_cases e:s=t
   · rw[if_pos e,if_pos e];exact aa
   · rw[if_neg e,if_neg e];exact aj s hs
  obtain⟨ba,a1,b7⟩:=Km ck args us _ fM (cn.setIfInBounds t u) (λs hs=>by simp;exact aQ s (by simp[hs])) q8 ad h
  exact⟨ba,by rw[List.zip_cons_cons,List.foldl_cons];rw[a1];simp,by simp[b7]⟩
 |[],_::_,vs,r,fM,cn,aQ,aj,aD,h=>by cases h
 |_::_,[],vs,r,fM,cn,aQ,aj,aD,h=>by cases h
theorem EY{μ:bz}{H:J}{w:World}(ak:bB μ H w){l:Nat}{i:eX}(aw:μ l=some i){st:LoopState}{gf:Option Code}{hi:Nat}{rg:a2}{ps:List Nat}{as cy:Code}{eU:Nat}(al:H.get l=some (.loop st gf hi rg ps as cy eU)):
  ∃cn h6 fn,μ eU=some h6/\(Instr.getLoop i.bo).run P w=.ok {state:=st,pending:=gf,fn:=fn,tmps:=cn,params:=⟨ps⟩,assign:=as,body:=cy,defers:=h6.bo} w/\i_ hi μ rg cn/\hQ cn.size as=true/\hQ cn.size cy=true/\(∀t∈ps,t<cn.size)/\
   ∀b5 vZ,∃w',(setObj i.bo (.loop {state:=b5,pending:=vZ,fn:=fn,tmps:=cn,params:=⟨ps⟩,assign:=as,body:=cy,defers:=h6.bo})).run P w=.ok () w'/\
    bB μ (H.set l (some (.loop b5 vZ hi rg ps as cy eU))) w'/\cg μ H w μ (H.set l (some (.loop b5 vZ hi rg ps as cy eU))) w':=by
 obtain⟨cn,h6,fn,aA,ax,bD,ed,fF,gu⟩:=ak.rel _ _ i al aw
 have ch:=(ak.lt _ _ aw).2
 have je:(getObj i.bo).run P w=.ok (.loop {state:=st,pending:=gf,fn:=fn,tmps:=cn,params:=⟨ps⟩,assign:=as,body:=cy,defers:=h6.bo}) w:=by simp[getObj,Sem.run,ax]
 refine⟨cn,h6,fn,aA,?_,bD,ed,fF,gu,λb5 vZ=>?_⟩
 · simp only[Instr.getLoop,Sem.run_bind,je,Result.andThen_ok,Sem.run_pure]
 · obtain⟨r1,r2⟩:=ak.update (w':={w with heap:=w.heap.setIfInBounds i.bo (.loop {state:=b5,pending:=vZ,fn:=fn,tmps:=cn,params:=⟨ps⟩,assign:=as,body:=cy,defers:=h6.bo})}) (o':=.loop b5 vZ hi rg ps as cy eU) al rfl aw (by simp) (λr aj=>by simp[Array.getElem?_setIfInBounds];intro e;exact absurd e.symm aj) rfl rfl rfl
     ⟨cn,h6,fn,aA,by simp[ch],bD,ed,fF,gu⟩
   exact⟨_,by simp[setObj,Sem.run,ax],r1,r2⟩
theorem To{b:Frame}{a:Act}{bk:List Item}{c:Frame}{cs:List Frame}{w:World}{chain:List PanicEntry}(ao:a.defers=[])(aN:EM bk):
  step P (lone {b.atR a bk with mode:=.panicking chain} (c::cs) w)=.next (lone (c.raise chain) cs w):=by
 have Tp:({b.atR a bk with mode:=.panicking chain}:Frame).catches P=false:=by
  unfold Frame.catches
  cases hf:P.funcs[b.fn]? with
  |some fn=>simp[Frame.atR,hf]
  |none=>
   cases bk with
   |nil=>simp[Frame.atR,hf]
   |cons x t=>cases x<;>first|exact aN.elim|simp[Frame.atR,hf]
 refine step_lone_go ?_
 have Kn:=Tp
 simp only[Frame.atR,ao] at Kn⊢
 simp[stepG,unwind,Kn]
theorem Tq{μ:bz}{H:J}{w:World}{l:Nat}{i:eX}(aw:μ l=some i){b:Frame}(ae:b.roundOf=some i.bo)(aq:b.kind=.normal){need bW:Nat}{c:Frame}{cs:List Frame}{fq:Machine}{x:jZ}(ab:lu P need bW μ H w b [] (c::cs) fq x)(afw:∀dj:Frame,dj.kind=b.kind->tryRecover dj (c::cs)=none)(cb:(x7 l x).lq=true)(ak:bB μ H w):
  sx P fq c cs (Ends μ H w (x7 l x)):=by
 cases x with
 |fail s=>cases cb
 |ok e r d q aX=>
  obtain⟨a0,w',cF,bT,s1,s2,bN,bS,cr,c3,dE⟩:=ab
  have fN:bT=c::cs:=by
   cases q with
   |none=>exact dE.1
   |act v=>exact dE.1
   |done v=>exact absurd (aq.symm.trans dE.1) (by intro h;cases h)
  subst fN
  cases d with
  |cons y ys=>cases cb
  |nil=>
   have yP:cF.defers=[]:=c3
   simp only[x7] at cb⊢
   cases al:aX.get l with
   |none=>rw[al] at cb;cases cb
   |some o=>
    rw[al] at cb
    cases o<;>try (cases cb;done)
    case loop st gf hi rg ps as cy eU=>
     cases st<;>try (cases cb;done)
     simp only at cb⊢
     obtain⟨cn,h6,fn,ai,au,_,_,_,_,ay⟩:=EY (P:=P) bS (cr.le _ _ aw) al
     have fin:∀oi:Option Code,∃cN,(Instr.endRound i.bo oi).run P w'=.ok (.bool oi.isNone) cN/\bB a0 (aX.set l (some (.loop (if oi.isNone then .ready else .done) oi hi rg ps as cy eU))) cN/\cg a0 aX w' a0 (aX.set l (some (.loop (if oi.isNone then .ready else .done) oi hi rg ps as cy eU))) cN:=λoi=>by
      obtain⟨cN,ba,a1,b7⟩:=ay (if oi.isNone then .ready else .done) oi
      refine⟨cN,?_,a1,b7⟩
      simp only[Instr.endRound,Sem.run_bind,au,Result.andThen_ok,ba,Sem.run_pure]
     cases e with
     |nrm=>
      obtain⟨cN,ba,a1,b7⟩:=fin none
      exact⟨.returned (.bool true),cN,⟨a0,_,rfl,rfl,a1,cg.trans ak bS cr b7⟩,Steps.trans s1 (.one (stepR_round_end ae aq ba))⟩
     |ret=>
      obtain⟨bk,s1⟩:=s1
      obtain⟨cN,ba,a1,b7⟩:=fin (some .ret)
      exact⟨.returned (.bool false),cN,⟨a0,_,rfl,rfl,a1,cg.trans ak bS cr b7⟩,Steps.trans s1 (.one (stepR_round_ret ae aq ba))⟩
     |exit id=>
      obtain⟨bk,t_,s1⟩:=s1
      obtain⟨cN,ba,a1,b7⟩:=fin (some (.exit id))
      exact⟨.returned (.bool false),cN,⟨a0,_,rfl,rfl,a1,cg.trans ak bS cr b7⟩,Steps.trans s1 (.one (stepR_round_exit ae aq (t_.trans rfl) ba))⟩
     |ca v=>
      obtain⟨bk,u,⟨aa,ad⟩,s1⟩:=s1
      exact⟨.panicked _,w',⟨a0,u,rfl,aa,bS,cr⟩,Steps.trans s1 (.one (To yP ad))⟩
     |goto t=>cases cb
theorem Tr{call:eJ->List I->J->a9}(ag:jM P call)(hdr:∀need bW,nr P need bW call){l:Nat}{args:List I}{H:J}{μ:bz}{w:World}{i:eX}{vs:List Value}(cb:(tE P call l args H).lq=true)(ak:bB μ H w)(nk:hG P μ)(aw:μ l=some i)(aD:cm μ args vs):
  J1 P i.bo vs w (Ends μ H w (tE P call l args H)):=by
 unfold tE at cb⊢
 cases al:H.get l with
 |none=>rw[al] at cb;cases cb
 |some o=>
  rw[al] at cb
  cases o<;>try (cases cb;done)
  case loop st gf hi rg ps as cy eU=>
   cases st<;>try (cases cb;done)
   simp only at cb⊢
   cases aW:vJ ps args rg with
   |none=>rw[aW] at cb;cases cb
   |some fM=>
    rw[aW] at cb
    simp only at cb⊢
    obtain⟨cn,h6,fn,ai,au,ay,bg,bF,dk,dX⟩:=EY (P:=P) ak aw al
    obtain⟨eu,fI,lo⟩:=Km ps args vs rg fM cn dk ay aD aW
    obtain⟨v3,Ko⟩:∃v3,(ps.zip vs).foldl (λcn (p:Nat×Value)=>cn.setIfInBounds p.1 p.2) cn=v3:=⟨_,rfl⟩
    rw[Ko] at eu fI
    refine⟨fn,v3,as,cy,?_,λc cs=>?_⟩
    · simp only[Instr.yield,Sem.run_bind,au,Result.andThen_ok]
      rw[if_neg (by simp;omega)]
      simp only[Sem.run_bind,Sem.run_pure,Result.andThen_ok]
      rw[<-Ko]
      simp
    · have Ts:Frame.round i.bo fn v3 as cy .normal=({(default:Frame) with fn:=fn,kind:=.normal,roundOf:=some i.bo}:Frame).atR {tmps:=v3,defers:=[]} [.code as,.beginRound,.code cy]:=rfl
      rw[Ts]
      have aJ:hU μ .normal (c::cs) .none (c::cs):=⟨rfl,λdj aq=>by simp[tryRecover,aq]⟩
      have cK:nq μ ({(default:Frame) with fn:=fn,kind:=.normal,roundOf:=some i.bo}:Frame) (some l):=⟨i,aw,rfl⟩
      have aa:=o2 ag (hdr hi cn.size) (BD ag) (some l) as bg {(default:Frame) with fn:=fn,kind:=.normal,roundOf:=some i.bo} fM [] .none H μ w {tmps:=v3,defers:=[]} [.beginRound,.code cy] (c::cs) (c::cs) cK eu fI ak nk rfl aJ
      generalize dJ P hi (some l) call as fM [] .none H=x at aa cb⊢
      cases x with
      |fail s=>cases cb
      |ok e r1 d1 ba H1=>
       cases e<;>try (cases cb;done)
       case nrm=>
        cases d1<;>try (cases cb;done)
        case nil=>
         obtain⟨h7,cW,b6,kk,s1,s2,bN,bS,cr,c3,dE⟩:=aa
         have fN:kk=c::cs:=by
          cases ba with
          |none=>exact dE.1
          |act v=>exact dE.1
          |done v=>exact absurd dE.1 (by intro h;cases h)
         subst fN
         simp only[D6] at cb⊢
         cases ee:H1.get l with
         |none=>rw[ee] at cb;cases cb
         |some dA=>
          rw[ee] at cb
          cases dA<;>try (cases cb;done)
          case loop kX Tt afx afy afz afA EZ afB=>
           cases kX<;>try (cases cb;done)
           simp only at cb⊢
           obtain⟨afC,afD,afE,bJ,bQ,ez,gV,fX,iI,yS⟩:=EY (P:=P) bS (cr.le _ _ aw) ee
           obtain⟨cN,br,a3,dm⟩:=yS .busy Tt
           have yK:(Instr.beginRound i.bo).run P cW=.ok () cN:=by
            simp only[Instr.beginRound,Sem.run_bind,bQ,Result.andThen_ok,br,Sem.run_pure]
           have cA:=stepR_beginRound (P:=P) (b:={(default:Frame) with fn:=fn,kind:=.normal,roundOf:=some i.bo}) (a:=b6) (k:=[.code cy]) (cs:=c::cs) rfl yK
           have rf:hU h7 .normal (c::cs) .none (c::cs):=⟨rfl,λdj aq=>by simp[tryRecover,aq]⟩
           have Tu:nq h7 ({(default:Frame) with fn:=fn,kind:=.normal,roundOf:=some i.bo}:Frame) (some l):=⟨i,cr.le _ _ aw,rfl⟩
           have yP:gE h7 [] b6.defers:=c3
           have ad:=o2 ag (hdr hi cn.size) (BD ag) (some l) cy bF {(default:Frame) with fn:=fn,kind:=.normal,roundOf:=some i.bo} r1 [] .none _ h7 cN b6 [] (c::cs) (c::cs) Tu s2 bN a3 (nk.mono cr.le) yP rf
           have av:=ad.of_steps ak a3 (Steps.trans s1 (.one cA)) (cg.trans ak bS cr dm)
           exact Tq aw rfl rfl av (λdj aq=>by simp[tryRecover,aq]) cb ak
end
end bt
namespace bt
open Go
section
variable {P:Program}
def sC:List String:=["internal/abi.NoEscape","internal/bytealg.MakeNoZero","internal/bytealg.IndexByteString","maps.clone"]
def BH(P:Program):Prop:=∀(g:FuncId) (hP:Func),P.funcs[g]? =some hP->hP.body=none->hP.name∈sC->Extern.findNext hP=none
theorem Kp:∀(n t:Nat) (acc:Array Value),(Extern.BytealgMakeNoZero.digits n t acc).size=acc.size+n
 |0,t,acc=>rfl
 |n+1,t,acc=>by rw[Extern.BytealgMakeNoZero.digits,Kp n];simp;omega
theorem Tv{fn:Func}(aN:fn.name= "internal/abi.NoEscape"):Extern.find fn=some Extern.AbiNoEscape.same:=by
 have aa:Extern.allGenericRows.lookup "internal/abi.NoEscape" =none:=by rfl
 have ad:Extern.allTypedRows.lookup "internal/abi.NoEscape" =none:=by rfl
 have av:Extern.allRows.lookup "internal/abi.NoEscape" =some Extern.AbiNoEscape.same:=by rfl
 simp[Extern.find,aN,aa,ad,av]
theorem Tw{fn:Func}(aN:fn.name= "internal/bytealg.MakeNoZero"):Extern.find fn=some (Extern.BytealgMakeNoZero.makeNoZero fn.params fn.resultTypes):=by
 have aa:Extern.allGenericRows.lookup "internal/bytealg.MakeNoZero" =none:=by rfl
 have ad:Extern.allTypedRows.lookup "internal/bytealg.MakeNoZero" =some Extern.BytealgMakeNoZero.makeNoZero:=by rfl
 simp[Extern.find,aN,aa,ad]
theorem Tx{fn:Func}(aN:fn.name= "internal/bytealg.IndexByteString"):Extern.find fn=some Extern.BytealgIndexByte.indexByte:=by
 have aa:Extern.allGenericRows.lookup "internal/bytealg.IndexByteString" =none:=by rfl
 have ad:Extern.allTypedRows.lookup "internal/bytealg.IndexByteString" =none:=by rfl
 have av:Extern.allRows.lookup "internal/bytealg.IndexByteString" =some Extern.BytealgIndexByte.indexByte:=by rfl
 simp[Extern.find,aN,aa,ad,av]
theorem Ty{fn:Func}(aN:fn.name= "maps.clone"):Extern.find fn=some Extern.MapsClone.clone:=by
 have aa:Extern.allGenericRows.lookup "maps.clone" =none:=by rfl
 have ad:Extern.allTypedRows.lookup "maps.clone" =none:=by rfl
 have av:Extern.allRows.lookup "maps.clone" =some Extern.MapsClone.clone:=by rfl
 simp[Extern.find,aN,aa,ad,av]
theorem Kq(c:Nat):∀(l:List UInt8) (i:Nat),oS c l i=match l.findIdx? (λb=>Nat.beq b.toNat c) with
  |some j=>((i+j:Nat):Int)
  |none=>-1
 |[],i=>rfl
 |b::l,i=>by
  rw[oS,List.findIdx?_cons]
  cases Nat.beq b.toNat c with
  |true=>simp
  |false=>
   simp only[Kq c l (i+1)]
   cases l.findIdx? (λb=>Nat.beq b.toNat c) with
   |none=>rfl
   |some j=>
    simp only[Option.map_some]
    have:((i+(j+1):Nat):Int)=((i+1+j:Nat):Int):=by congr 1;omega
    exact this.symm
theorem Tz(b:ByteArray)(p:UInt8->Bool):(List.range b.size).find? (λi=>p b[i]!)=b.data.toList.findIdx? p:=by
 have bA:b.data.toList.length=b.size:=Array.length_toList
 have h8:∀(i:Nat) (af:i<b.data.toList.length),b[i]! =b.data.toList[i]:=λi af=>by
  have eY:i<b.size:=by omega
  rw[getElem!_pos b i eY];rfl
 cases hf:b.data.toList.findIdx? p with
 |none=>
  rw[List.find?_eq_none]
  intro i af
  have eY:i<b.data.toList.length:=by rw[bA];simpa using af
  rw[h8 i eY]
  have:=List.findIdx?_eq_none_iff.1 hf _ (List.getElem_mem eY)
  rw[this];exact Bool.false_ne_true
 |some j=>
  obtain⟨aK,aQ,ch⟩:=List.findIdx?_eq_some_iff_getElem.1 hf
  rw[List.find?_range_eq_some]
  refine⟨?_,by simp;omega,λi af=>?_⟩
  · rw[h8 j aK];exact aQ
  · rw[h8 i (by omega)]
    have:=ch i af
    simpa using this
theorem TA{α:Type}(n:Int)(f:Int->α)(g:Array Value->α):Extern.BytealgMakeNoZero.makeNoZero.match_3 (λ_=>α) #[.int .i64 n] f g=f n:=rfl
theorem TB{α:Type}(t:TypeId)(r:Nat)(f:TypeId->Nat->α)(e:TypeId->α)(g:Array Value->α):Extern.MapsClone.clone.match_2 (λ_=>α) #[.iface t (.map (some r))] f e g=f t r:=rfl
theorem TC{α:Type}(b c:Value)(f:Value->Value->α)(g:Array Value->α):Extern.BytealgIndexByte.indexByte.match_2 (λ_=>α) #[b,c] f g=f b c:=rfl
theorem TD{f:FuncId}{fn:Func}(hf:P.funcs[f]? =some fn)(ae:fn.body=none)(v5:BH P){args:List I}{H aX:J}{v:I}(h:r7 P fn fn.name args H=some (v,aX))
  {μ:bz}{w:World}{vs:List Value}(ak:bB μ H w)(aD:cm μ args vs):
  ∃u w',(callFunc f ⟨vs⟩).run P w=.ok (.value u) w'/\Ends μ H w (.ret v aX) (.returned u) w':=by
 have call:∀e:Array Value->Sem Value,fn.name∈sC->Extern.find fn=some e->(callFunc f ⟨vs⟩).run P w=(do let v<-e ⟨vs⟩;pure (.value v):Sem Next).run P w:=by
  intro e hm he
  have aN:=v5 f fn hf ae hm
  have E0:(fn.name== "runtime.NumGoroutine")=false:=by
   simp only[sC,List.mem_cons,List.mem_nil_iff,or_false] at hm
   rcases hm with h|h|h|h<;>rw[h]<;>decide
  rw[run_callFunc_extern hf E0 (by rw[ae];rfl) aN he];simp only[Sem.run_bind];rfl
 unfold r7 at h
 split at h
 · rename_i n
   split at h
   · rename_i o5
     split at h
     · rename_i t bc
       split at h
       · rename_i e hu
         split at h
         · rename_i hle
           cases h
           have Bj:n<=1099511627776:=by simpa using hle
           obtain⟨u,us,rfl,aa,ad⟩:=aD
           cases aa;cases ad
           have bA:∀(t:TypeId),(Question.appendCap n 0 t).forced=false:=λ_=>rfl
           obtain⟨cap,l0,Kr⟩:∃cap,(Question.appendCap n 0 e).cut (w.tape w.drawn (Question.appendCap n 0 e))=cap/\n<=cap:=⟨_,rfl,by simp[Question.cut]⟩
           obtain⟨Ks,mI⟩:∃x,(Question.extern "internal/bytealg.MakeNoZero.bytes" 0).cut (w.drew.tape w.drew.drawn (Question.extern "internal/bytealg.MakeNoZero.bytes" 0))=x:=⟨_,rfl⟩
           have ao:=Kp cap Ks #[]
           have sD:=ak.drew.drew
           obtain⟨r1,r2⟩:=sD.alloc (.cells (List.replicate n .bad) e .aR 0 0) (.cells (Extern.BytealgMakeNoZero.digits cap Ks #[]) e) cap
            ⟨_,0,0,World.heap_alloc_new _ _,λj v aK=>by
              have gH:j<n:=by
               rcases Nat.lt_or_ge j n with h|h
               · exact h
               · rw[List.getElem?_eq_none (by simpa using h)] at aK;cases aK
              rw[List.getElem?_replicate,if_pos gH] at aK
              cases aK
              refine⟨_,Array.getElem?_eq_getElem (by rw[Nat.zero_add,ao];simp;omega),trivial⟩,by rw[ao];simp,by simpa using Kr,λj _ _ h=>by omega⟩
           refine⟨_,_,?_,fE μ H.n ⟨w.drew.drew.heap.size,0,cap⟩,_,rfl,⟨_,gI _ _ _,cap,rfl,Kr,by simp⟩,r1,cg.trans ak ak.drew cg.drew (cg.trans ak.drew sD cg.drew r2)⟩
           rw[call _ (by rw[o5];simp[sC]) (Tw o5)]
           have TE:¬((Int.ofNat n<0||Int.ofNat n>2^48)=true):=by
            have ad:(2:Int)^48=281474976710656:=by rfl
            have av:Int.ofNat n=(n:Int):=rfl
            rw[ad,av];simp only[Bool.or_eq_true,decide_eq_true_eq];omega
           have TF:(Question.extern "internal/bytealg.MakeNoZero.bytes" 0).forced=false:=rfl
           have yT:(Int.ofNat n).toNat=n:=rfl
           delta Extern.BytealgMakeNoZero.makeNoZero
           rw[TA]
           simp only[Sem.run_bind,bc,Sem.run_pure,b4 hu,Result.andThen_ok]
           rw[if_neg TE]
           simp only[Sem.run_bind,run_choose,yT,bA,TF,Bool.false_eq_true,if_false,World.drew_eq,l0,Result.andThen_ok,run_askRoom,mI,Sem.run_pure]
           rfl
         · cases h
       · cases h
     · cases h
   · cases h
 · rename_i x _
   obtain⟨u,us,rfl,aa,ad⟩:=aD
   cases ad
   split at h
   · rename_i o5
     cases h
     refine⟨u,w,?_,μ,u,rfl,aa,ak,cg.refl _ _ _⟩
     rw[call _ (by rw[o5];simp[sC]) (Tv o5)]
     rfl
   · split at h
     · rename_i o5
       split at h
       · rename_i t r
         split at h
         · rename_i es c al
           cases h
           obtain⟨y,rfl,i,af,rfl⟩:=aa
           obtain⟨ents,aA,ax⟩:=ak.rel _ _ i al af
           have hle:=ak.oV ⟨w.heap.size,0,0⟩
           obtain⟨r1,r2⟩:=ak.alloc (.map es c) (.map ⟨ents⟩ c) 0 ⟨ents,World.heap_alloc_new _ _,ax.mono hle⟩
           refine⟨_,_,?_,fE μ H.n ⟨w.heap.size,0,0⟩,.iface _ (.map (some w.heap.size)),rfl,⟨.map (some w.heap.size),rfl,⟨w.heap.size,0,0⟩,gI _ _ _,rfl⟩,r1,r2⟩
           rw[call _ (by rw[o5];simp[sC]) (Ty o5)]
           have je:(getObj i.bo).run P w=.ok (.map ⟨ents⟩ c) w:=by simp[getObj,Sem.run,aA]
           simp only[Sem.run_bind]
           rw[show(⟨[Value.iface _ (Value.map (some i.bo))]⟩:Array Value)=#[.iface _ (.map (some i.bo))] from rfl]
           delta Extern.MapsClone.clone
           rw[TB]
           simp only[Sem.run_bind,je,Result.andThen_ok,run_newObj,Sem.run_pure]
           rfl
         · cases h
       · cases h
     · cases h
 · rename_i s c
   split at h
   · rename_i o5
     split at h
     · rename_i ag
       cases h
       have pY:c<256:=by simpa using ag
       obtain⟨u,us,rfl,aa,ad⟩:=aD
       obtain⟨p6,afF,rfl,av,aG⟩:=ad
       cases av;cases aG
       obtain⟨t,rfl,rfl⟩:=aa
       refine⟨_,w,?_,μ,_,rfl,rfl,ak,cg.refl _ _ _⟩
       rw[call _ (by rw[o5];simp[sC]) (Tx o5)]
       have mI:(Int.ofNat c).toNat.toUInt8=UInt8.ofNat c:=rfl
       have heq:∀b:UInt8,(b==UInt8.ofNat c)=Nat.beq b.toNat c:=λb=>by
        rw[Bool.eq_iff_iff,beq_iff_eq,Nat.beq_eq,<-UInt8.toNat_inj]
        simp[Nat.mod_eq_of_lt pY]
       delta Extern.BytealgIndexByte.indexByte
       rw[TC]
       simp only[Sem.run_bind,Extern.Bytes.bytesOf,Extern.Bytes.asByte,Sem.run_pure,Result.andThen_ok,mI,heq]
       have hf:=Tz t (λb=>Nat.beq b.toNat c)
       rw[hf,Kq]
       cases t.data.toList.findIdx? (λb=>Nat.beq b.toNat c) with
       |none=>rfl
       |some j=>
        simp only[Nat.zero_add]
        rfl
     · cases h
   · cases h
 · cases h
def om(P:Program)(intr:Nat->List I->J->Option (I×J)):Prop:=
 ∀f args H v aX,intr f args H=some (v,aX)->∀μ w (vs:List Value),bB μ H w->hG P μ->cm μ args vs->tV P f vs w (Ends μ H w (.ret v aX))
theorem TG(P:Program):om P (λ_ _ _=>none):=λ_ _ _ _ _ h=>by cases h
theorem TH{call:eJ->List I->J->a9}(ag:jM P call)(hdr:∀need bW,nr P need bW call)(eB:vX P)(v5:BH P){f:Nat}{args:List I}{H:J}(cb:(qS P call f args H).lq=true)
  {μ:bz}{w:World}{vs:List Value}(ak:bB μ H w)(al:hG P μ)(aD:cm μ args vs):tV P f vs w (Ends μ H w (qS P call f args H)):=by
 unfold qS at cb⊢
 cases hf:P.funcs[f]? with
 |none=>rw[hf] at cb;cases cb
 |some fn=>
  rw[hf] at cb
  simp only at cb⊢
  cases ae:fn.body with
  |none=>
   rw[ae] at cb
   simp only at cb⊢
   cases ab:r7 P fn fn.name args H with
   |none=>rw[ab] at cb;cases cb
   |some p=>
    obtain⟨v,aX⟩:=p
    obtain⟨u,w',aa,ad⟩:=TD hf ae v5 ab ak aD
    exact .inl ⟨u,w',aa,ad⟩
  |some c=>
   rw[ae] at cb
   simp only at cb⊢
   obtain⟨kW,re⟩:=eB f fn c hf ae
   exact .inr ⟨BE hf ae re _ _,Tn ag hdr eB hf ae aD ak al cb⟩
theorem Kt{intr:Nat->List I->J->Option (I×J)}(af:om P intr)(hdr:∀call,jM P call->∀need bW,nr P need bW call)(eB:vX P)(v5:BH P):∀n,jM P (fp P intr n)
 |0=>⟨λf args H al=>(by cases al),λl args H al=>(by cases al)⟩
 |n+1=>by
  have bb:=Kt af hdr eB v5 n
  refine⟨λf args H cb μ w vs ak al aD=>?_,λl args H cb μ w i vs ak al aw aD=>?_⟩
  · simp only[fp] at cb⊢
    cases ab:intr f args H with
    |some p=>
     obtain⟨v,aX⟩:=p
     exact af f args H v aX ab μ w vs ak al aD
    |none=>
     rw[ab] at cb
     exact TH bb (hdr _ bb) eB v5 cb ak al aD
  · simp only[fp] at cb⊢
    exact Tr bb (hdr _ bb) cb ak al aw aD
end
end bt
namespace bt
open Go
def ub(ops:Array Oper)(S:List Nat):List Nat->Prop
 |[]=>∀i,i<ops.size->i∈S
 |i::rest=>i<ops.size/\i∉S/\(∀o,ops[i]? =some o->∀e∈o.after,Region.binds .any e=true->e.on∈S)/\ub ops (i::S) rest
theorem filter_lt{p q:Nat->Bool}(E1:∀x,q x=true->p x=true):∀(l:List Nat) {i:Nat},i∈l->p i=true->q i=false->(l.filter q).length<(l.filter p).length
 |[],i,h,_,_=>by cases h
 |a::l,i,h,aQ,aJ=>by
  have hle:∀l:List Nat,(l.filter q).length<=(l.filter p).length:=λl=>by
   induction l with
   |nil=>simp
   |cons b l bb=>
    simp only[List.filter_cons]
    cases ae:q b with
    |true=>simp[E1 b ae];exact bb
    |false=>cases p b<;>simp<;>omega
  rcases List.mem_cons.1 h with rfl|h
  · have:=hle l
    simp only[List.filter_cons,aQ,aJ,if_true,Bool.false_eq_true,if_false,List.length_cons];omega
  · have bb:=filter_lt E1 l h aQ aJ
    simp only[List.filter_cons]
    cases ae:q a with
    |true=>simp[E1 a ae];exact bb
    |false=>cases p a<;>simp<;>omega
theorem TI{ops:Array Oper}(sE:∀o i,ops[i]? =some o->oT o i=true){listed:Array Bool}(bA:listed.size=ops.size)(aj:Region.ready .any ops listed=[]):∀i,i<ops.size->listed.getD i true=true:=by
 intro i
 induction i using Nat.strongRecOn with
 |ind i bb=>
  intro af
  cases aw:listed.getD i true with
  |true=>rfl
  |false=>
   have aY:ops[i]? =some ops[i]:=Array.getElem?_eq_getElem af
   have:i∈Region.ready .any ops listed:=mem_ready.2 ⟨aw,ops[i],aY,λe he ae=>by
    have:=sE _ _ aY
    unfold oT at this
    rw[List.all_eq_true] at this
    have ad:=this e (by simpa using he)
    simp only[ae,Bool.not_true,Bool.false_or,Nat.blt_eq] at ad
    have av:=bb e.on ad (by omega)
    have ch:e.on<listed.size:=by omega
    simp[ch] at av⊢
    exact av⟩
   rw[aj] at this;cases this
theorem Ku{ops:Array Oper}(sE:∀o i,ops[i]? =some o->oT o i=true):∀(fuel t:Nat) (listed:Array Bool) (S:List Nat),listed.size=ops.size->(∀i,i<ops.size->(listed.getD i true=true<->i∈S))->
  ((List.range ops.size).filter λi=>!listed.getD i true).length<=fuel->ub ops S (Region.linearise.go .any ops fuel t listed [])
 |0,t,listed,S,bA,iH,hf=>by
  simp only[Region.linearise.go,List.reverse_nil,ub]
  intro i af
  rw[<-iH i af]
  have h0:((List.range ops.size).filter λi=>!listed.getD i true)=[]:=List.length_eq_zero_iff.1 (Nat.le_zero.1 hf)
  rw[List.filter_eq_nil_iff] at h0
  have:=h0 i (List.mem_range.2 af)
  simpa using this
 |fuel+1,t,listed,S,bA,iH,hf=>by
  simp only[Region.linearise.go]
  change ub ops S (match(Region.ready .any ops listed)[t %(Region.ready .any ops listed).length]? with
   |some i=>Region.linearise.go .any ops fuel (t/(Region.ready .any ops listed).length) (listed.setIfInBounds i true) [i]
   |none=>[].reverse)
  cases af:(Region.ready .any ops listed)[t %(Region.ready .any ops listed).length]? with
  |none=>
   have rh:Region.ready .any ops listed=[]:=by
    cases aj:Region.ready .any ops listed with
    |nil=>rfl
    |cons x xs=>
     rw[aj] at af
     have ch:t %(x::xs).length<(x::xs).length:=Nat.mod_lt _ (by simp)
     rw[List.getElem?_eq_getElem ch] at af;cases af
   simp only[List.reverse_nil,ub]
   exactλi h=>(iH i h).1 (TI sE bA rh i h)
  |some i=>
   simp only[]
   rw[linearise_go_acc,List.reverse_singleton,List.singleton_append]
   obtain⟨aa,o,ad,av⟩:=mem_ready.1 (List.mem_of_getElem? af)
   have ch:i<ops.size:=(Array.getElem?_eq_some_iff.1 ad).1
   have ym:i<listed.size:=by omega
   have q8:∀j d,(listed.setIfInBounds i true).getD j d=if j=i then true else listed.getD j d:=λj d=>by
    simp only[Array.getD_eq_getD_getElem?,Array.getElem?_setIfInBounds]
    by_cases e:i=j
    · subst e;simp[ym]
    · rw[if_neg e,if_neg (λh=>e h.symm)]
   refine⟨ch,λh=>?_,λo' iJ e he ae=>?_,Ku sE fuel _ _ _ (by simpa using bA) (λj aK=>?_) ?_⟩
   · have:=(iH i ch).2 h
     rw[aa] at this;cases this
   · rw[ad] at iJ;cases iJ
     have aG:=av e he ae
     have kY:e.on<listed.size:=by
      rcases Nat.lt_or_ge e.on listed.size with h|h
      · exact h
      · simp[Array.getElem?_eq_none h] at aG
     rw[<-iH e.on (by omega)]
     simp[kY] at aG⊢
     exact aG
   · rw[q8,List.mem_cons]
     by_cases e:j=i
     · simp[e]
     · rw[if_neg e,iH j aK];simp[e]
   · have afG:((List.range ops.size).filter λj=>!(listed.setIfInBounds i true).getD j true).length<((List.range ops.size).filter λj=>!listed.getD j true).length:=
       filter_lt (λx ab=>by
        rw[q8] at ab
        by_cases e:x=i
        · rw[if_pos e] at ab;cases ab
        · rw[if_neg e] at ab;exact ab) _ (List.mem_range.2 ch) (by rw[aa];rfl) (by rw[q8,if_pos rfl];rfl)
     omega
theorem TJ{ops:Array Oper}(sE:∀o i,ops[i]? =some o->oT o i=true)(t:Nat):ub ops [] (Region.schedule true ops t):=by
 simp only[Region.schedule,Bool.true_or,if_true,Region.linearise]
 refine Ku sE ops.size t _ [] (by simp) (λi af=>by simp[af]) ?_
 refine Nat.le_trans (List.length_filter_le _ _) (by simp)
section
variable {P:Program} {g gw:Operand->I}
theorem E2{o:Option Operand}(h:∀x∈o.toArray,g x=gw x):o.map g=o.map gw:=by
 cases o with
 |none=>rfl
 |some x=>simp[h x (by simp)]
theorem yU(o:Oper)(H:J)(h:∀x∈o.op.operands,g x=gw x):cP P o g H=cP P o gw H:=by
 obtain⟨dst,op,type,pos,after,guard⟩:=o
 have BI:∀ps:Array (Nat×Operand),(∀x∈ps.map (·.2),g x=gw x)->(ps.toList.map λp=>(p.1,g p.2))=(ps.toList.map λp=>(p.1,gw p.2)):=λps aQ=>
  List.map_congr_left λp hm=>by rw[aQ p.2 (Array.mem_map.2 ⟨p,by simpa using hm,rfl⟩)]
 cases op<;>simp only[Op.operands] at h<;>unfold cP
 case build t ps=>simp only[BI ps λx ab=>h x (by simpa using ab)]
 case buildSlice t n ps=>simp only[BI ps λx ab=>h x (by simpa using ab)]
 case makeFunc fn first captured=>
  simp only[List.map_congr_left (l:=first.toList) λx ab=>h x (by simp at ab;simp[ab]),List.map_congr_left (l:=captured.toList) λx ab=>h x (by simp at ab;simp[ab])]
 case call c=>
  have aL:c.args.toList.map g=c.args.toList.map gw:=List.map_congr_left λx ab=>h x (by simp at ab;simp[Call.operands,ab])
  simp only[aL]
  cases ag:c.callee with
  |value f=>have hf:g f=gw f:=h f (by simp[Call.operands,ag]);simp only[hf]
  |invoke r m=>have aj:g r=gw r:=h r (by simp[Call.operands,ag]);simp only[aj]
  |builtin b=>rfl
 case defer c=>
  have aL:c.args.toList.map g=c.args.toList.map gw:=List.map_congr_left λx ab=>h x (by simp at ab;simp[Call.operands,ab])
  simp only[aL]
  cases ag:c.callee with
  |value f=>have hf:g f=gw f:=h f (by simp[Call.operands,ag]);simp only[hf]
  |invoke r m=>rfl
  |builtin b=>rfl
 case makeMap t r=>cases r<;>simp_all
 case slice t x aI af mx=>
  have aA:aI.map g=aI.map gw:=E2 λy aU=>h y (by simp at aU;simp[aU])
  have ax:af.map g=af.map gw:=E2 λy aU=>h y (by simp at aU;simp[aU])
  have bD:mx.map g=mx.map gw:=E2 λy aU=>h y (by simp at aU;simp[aU])
  have ed:g x=gw x:=h x (by simp)
  have fF:∀o:Option Operand,(o.map λo=>kindName (g o))=(o.map g).map kindName:=λo=>by cases o<;>rfl
  have gu:∀o:Option Operand,(o.map λo=>kindName (gw o))=(o.map gw).map kindName:=λo=>by cases o<;>rfl
  simp only[aA,ax,bD,ed,fF,gu]
 all_goals (first|rfl|(simp_all;done))
theorem yV(o:Op)(b:Nat)(h:∀x∈o.operands,g x=gw x):kC P o g b=kC P o gw b:=by
 have BI:∀ps:Array (Nat×Operand),(∀x∈ps.map (·.2),g x=gw x)->(ps.toList.map λp=>(p.1,g p.2))=(ps.toList.map λp=>(p.1,gw p.2)):=λps aQ=>
  List.map_congr_left λp hm=>by rw[aQ p.2 (Array.mem_map.2 ⟨p,by simpa using hm,rfl⟩)]
 cases o<;>simp only[Op.operands] at h<;>unfold kC
 case buildSlice t n ps=>simp only[BI ps λx ab=>h x (by simpa using ab)]
 case makeMap t r=>cases r<;>rfl
 all_goals (first|rfl|(simp_all;done))
theorem TK{o:Oper}{H aX:J}{v:I}(aq:kindOf P o.op=.pure)(h:cP P o g H=.val v aX):aX=H:=by
 have ha:∀{w:String} {x:Option I},fT H w x=.val v aX->aX=H:=λ{w x} e=>by
  cases x with
  |none=>cases e
  |some y=>cases e;rfl
 obtain⟨dst,op,type,pos,after,guard⟩:=o
 cases op<;>simp only[kindOf] at aq<;>(try (cases aq;done))<;>unfold cP at h<;>simp only at h
 case move=>cases h;rfl
 case assign=>cases h;rfl
 case pick=>
  split at h
  · cases h;rfl
  · cases h;rfl
  · cases h
 case build=>
  repeat' (first|contradiction|(cases h;rfl)|(cases h;done)|split at h)
 case load=>
  repeat' (first|contradiction|(cases h;rfl)|(cases h;done)|exact ha h|split at h)
 case nilCheck=>repeat' (first|contradiction|(cases h;rfl)|(cases h;done)|exact ha h|split at h)
 case binOp=>exact ha h
 case unOp=>repeat' (first|contradiction|(cases h;rfl)|(cases h;done)|exact ha h|split at h)
 case convert s d x=>
  have cX:∀e,P.underlying d≠some (.slice e):=λe he=>by rw[he] at aq;cases aq
  unfold iZ at h
  repeat' (first|exact absurd (by assumption) (cX _)|(cases h;rfl)|(cases h;done)|split at h)
 case makeInterface=>repeat' (first|contradiction|(cases h;rfl)|(cases h;done)|exact ha h|split at h)
 case makeFunc=>repeat' (first|contradiction|(cases h;rfl)|(cases h;done)|exact ha h|split at h)
 case makeMap r=>cases r<;>cases aq
 case slice=>exact ha h
 case fieldAddr=>repeat' (first|contradiction|(cases h;rfl)|(cases h;done)|exact ha h|split at h)
 case field=>repeat' (first|contradiction|(cases h;rfl)|(cases h;done)|exact ha h|split at h)
 case indexAddr=>repeat' (first|contradiction|(cases h;rfl)|(cases h;done)|exact ha h|split at h)
 case index=>repeat' (first|contradiction|(cases h;rfl)|(cases h;done)|exact ha h|split at h)
 case lookup=>exact ha h
 case typeAssert=>repeat' (first|contradiction|(cases h;rfl)|(cases h;done)|exact ha h|split at h)
 case extract=>repeat' (first|contradiction|(cases h;rfl)|(cases h;done)|exact ha h|split at h)
 case call c=>
  cases ag:c.callee with
  |value f=>rw[ag] at aq;cases aq
  |invoke r m=>rw[ag] at aq;cases aq
  |builtin b=>
   rw[ag] at aq h
   simp only at h
   cases b<;>simp only at aq<;>(try (cases aq;done))<;>unfold iz at h<;>simp only at h
   all_goals repeat' (first|contradiction|(cases h;rfl)|(cases h;done)|exact ha h|split at h)
end
end bt
namespace bt
open Go
def lv(ops:Array Oper)(S:List Nat)(j:Nat):Prop:=∀o,ops[j]? =some o->∀e∈o.after,Region.binds .any e=true->e.on∈S
def yW(ops:Array Oper)(S:List Nat):Prop:=∀j∈S,lv ops S j
def Sound(ops:Array Oper)(j m:Nat):Prop:=∀S,yW ops S->lv ops S j->∀b,Nat.testBit m b=true->b∈S
def yX(ops:Array Oper)(n:Nat)(gU:List Nat):Prop:=∀j,j<n->∃m,nth (n-1-j) gU=some m/\Sound ops j m
theorem TL(a b:Nat)(h:Nat.testBit (1<<<a) b=true):b=a:=by
 rw[Nat.shiftLeft_eq,Nat.one_mul,Nat.testBit_two_pow] at h
 exact(of_decide_eq_true h).symm
theorem Kv{gU:List Nat}{n:Nat}:∀(l:List Edge) (s b:Nat),Nat.testBit (l.foldl (λs e=>match Region.binds .any e with
  |true=>s|||1<<<e.on|||(nth (n-1-e.on) gU).getD 0
  |false=>s) s) b=true->Nat.testBit s b=true\/∃e∈l,Region.binds .any e=true/\(b=e.on\/Nat.testBit ((nth (n-1-e.on) gU).getD 0) b=true)
 |[],s,b,h=>.inl h
 |e::l,s,b,h=>by
  rw[List.foldl_cons] at h
  rcases Kv l _ b h with h|⟨cI,aa,ad⟩
  · cases ae:Region.binds .any e with
    |false=>rw[ae] at h;exact .inl h
    |true=>
     rw[ae] at h
     simp only[Nat.testBit_or,Bool.or_eq_true] at h
     rcases h with(h|h)|h
     · exact .inl h
     · exact .inr ⟨e,by simp,ae,.inl (TL _ _ h)⟩
     · exact .inr ⟨e,by simp,ae,.inr h⟩
  · exact .inr ⟨cI,by simp[aa],ad⟩
theorem TM{ops:Array Oper}{gU:List Nat}{n:Nat}{o:Oper}(aY:ops[n]? =some o)(ae:oT o n=true)(hm:yX ops n gU):Sound ops n (x4 gU n o):=by
 intro S iH aj b h
 unfold x4 at h
 rw[<-Array.foldl_toList] at h
 rcases Kv _ _ _ h with h|⟨e,aa,ad,av⟩
 · simp at h
 · have he:e∈o.after:=by simpa using aa
   have kY:=aj o aY e he ad
   rcases av with rfl|av
   · exact kY
   · have ch:e.on<n:=by
       unfold oT at ae
       rw[List.all_eq_true] at ae
       have:=ae e aa
       simpa[ad] using this
     obtain⟨m,BJ,BK⟩:=hm e.on ch
     rw[BJ] at av
     exact BK S iH (iH _ kY) b av
theorem yX.cons{ops:Array Oper}{gU:List Nat}{n m:Nat}(h:yX ops n gU)(hs:Sound ops n m):yX ops (n+1) (m::gU):=by
 intro j aK
 by_cases e:j=n
 · subst e;exact⟨m,by simp[nth],hs⟩
 · obtain⟨j5,aa,ad⟩:=h j (by omega)
   refine⟨j5,?_,ad⟩
   have:n+1-1-j=(n-1-j)+1:=by omega
   rw[this];exact aa
theorem Kw:∀(l:List Oper) (n:Nat) (loc:List (Nat×Acc)) (k:Nat) (o:Oper),l[k]? =some o->jt (l.take (k+1)) n loc=hC o (n+k) (jt (l.take k) n loc)
 |[],n,loc,k,o,h=>by simp at h
 |x::l,n,loc,0,o,h=>by simp at h;subst h;simp[jt]
 |x::l,n,loc,k+1,o,h=>by
  have an:l[k]? =some o:=by simpa using h
  have bb:=Kw l (n+1) (hC x n loc) k o an
  simp only[List.take_succ_cons,jt]
  rw[bb]
  have:n+1+k=n+(k+1):=by omega
  rw[this]
theorem yY{ops:Array Oper}:∀(l:List Oper) (n:Nat) (loc:List (Nat×Acc)) (gU:List Nat),(∀k,l[k]? =ops[n+k]?)->(∀s∈fh l n loc gU,oT s.o s.i=true)->yX ops n gU->∀(k:Nat) (o:Oper),l[k]? =some o->
  ∃s,(fh l n loc gU)[k]? =some s/\s.i=n+k/\s.o=o/\s.loc=jt (l.take k) n loc/\Sound ops (n+k) s.e8
 |[],n,loc,gU,aw,he,hm,k,o,h=>by simp at h
 |x::l,n,loc,gU,aw,he,hm,k,o,h=>by
  simp only[fh] at he⊢
  have ab:ops[n]? =some x:=by have:=aw 0;simpa using this.symm
  have ae:oT x n=true:=he ⟨n,x,x4 gU n x,loc⟩ (by simp)
  have hs:=TM ab ae hm
  cases k with
  |zero=>
   simp at h;subst h
   exact⟨_,rfl,rfl,rfl,rfl,hs⟩
  |succ k=>
   obtain⟨s,aa,ad,av,aG,bI⟩:=yY l (n+1) (hC x n loc) (x4 gU n x::gU) (λj=>by have:=aw (j+1);simp at this;rw[this];congr 1;omega) (λs hs=>he s (by simp[hs])) (hm.cons hs) k o (by simpa using h)
   exact⟨s,by simpa using aa,by omega,av,by simpa[jt] using aG,by rw[show n+(k+1)=n+1+k by omega];exact bI⟩
theorem E3:∀(l:List Oper) (n:Nat) (loc:List (Nat×Acc)) (gU:List Nat),(fh l n loc gU).length=l.length
 |[],_,_,_=>rfl
 |x::l,n,loc,gU=>by simp[fh,E3 l]
theorem v7{ops:Array Oper}:∀{l:List DStep},qT ops l=true->∀s∈l,oT s.o s.i=true
 |[],_,s,h=>by cases h
 |x::l,ao,s,h=>by
  simp only[qT,Bool.and_eq_true] at ao
  rcases List.mem_cons.1 h with rfl|h
  · exact ao.1.1
  · exact v7 ao.2 s h
theorem Kx{ops:Array Oper}{s:DStep}:∀{l:List DStep},A2 ops s l=true->∀bd∈l,(∃t,s.o.dst=some t/\t∈mw ops bd.o)\/(∃t,bd.o.dst=some t/\t∈mw ops s.o)->Nat.testBit bd.e8 s.i=true
 |[],_,bd,h=>by cases h
 |x::l,ao,bd,h=>by
  simp only[A2,Bool.and_eq_true] at ao
  rcases List.mem_cons.1 h with rfl|h
  · intro aN
    have aa:=ao.1
    split at aa
    · exact aa
    · rename_i ag
      exfalso
      rw[Bool.or_eq_false_iff] at ag
      rcases aN with⟨t,e,hm⟩|⟨t,e,hm⟩
      · have:=ag.1;rw[e] at this;simp[hm] at this
      · have:=ag.2;rw[e] at this;simp[hm] at this
  · exact Kx ao.2 bd h
theorem Ky{ops:Array Oper}:∀{l:List DStep},qT ops l=true->∀(i j:Nat) (s bd:DStep),i<j->l[i]? =some s->l[j]? =some bd->(∃t,s.o.dst=some t/\t∈mw ops bd.o)\/(∃t,bd.o.dst=some t/\t∈mw ops s.o)->Nat.testBit bd.e8 s.i=true
 |[],_,i,j,s,bd,_,h,_=>by simp at h
 |x::l,ao,i,j,s,bd,sF,aa,ad=>by
  simp only[qT,Bool.and_eq_true] at ao
  cases j with
  |zero=>omega
  |succ j=>
   have p_:l[j]? =some bd:=by simpa using ad
   cases i with
   |zero=>
    simp at aa;subst aa
    exact Kx ao.1.2 bd (List.mem_of_getElem? p_)
   |succ i=>exact Ky ao.2 i j s bd (by omega) (by simpa using aa) p_
structure uc where
 env:List I
 d:List bZ
 q:bL
 h:J
 bj:List (Nat×Nat×J)
section
variable {P:Program} {need:Nat} {inR:Bool} {call:eJ->List I->J->a9} {ops:Array Oper} {r:a2} {cJ:Nat}
def mJ(P:Program)(need:Nat)(r:a2)(s:DStep)(env:List I):Operand->I:=λx=>dI s.i env r (cR P need s.loc x)
inductive ud(P:Program)(need:Nat)(inR:Bool)(call:eJ->List I->J->a9)(ops:Array Oper)(r:a2)(cJ:Nat)(s:DStep)(st:uc):uc->Prop where
 |v8 (aq:kindOf P s.o.op=.alloc) (hw:eK (g9 P need ops r s.i st.env s)=some false):ud P need inR call ops r cJ s st {st with env:=.aO []::st.env}
 |alloc {v:I} {ob:dr} (aq:kindOf P s.o.op=.alloc) (hw:eK (g9 P need ops r s.i st.env s)=some true) (aL:kC P s.o.op (mJ P need r s st.env) (cJ+s.i)=some (v,ob)):
   ud P need inR call ops r cJ s st {st with env:=v::st.env,h:=st.h.set (cJ+s.i) (some ob)}
 |pure {v:I} {bh:List bZ} {bn:bL} {an:J} (aq:kindOf P s.o.op=.pure) (he:dV P inR call (g9 P need ops r s.i st.env s) s.o (mJ P need r s st.env) st.d st.q st.h=.ok v bh bn an):
   ud P need inR call ops r cJ s st {st with env:=v::st.env}
 |ew {v:I} {bh:List bZ} {bn:bL} {an:J} (aq:kindOf P s.o.op=.ew) (aY:∀e m h0 l,st.bj=(e,m,h0)::l->Nat.testBit s.e8 e=true)
   (he:dV P inR call (g9 P need ops r s.i st.env s) s.o (mJ P need r s st.env) st.d st.q st.h=.ok v bh bn an):ud P need inR call ops r cJ s st ⟨v::st.env,bh,bn,an,(s.i,s.e8,st.h)::st.bj⟩
theorem TN{s:DStep}{rest:List DStep}{st:uc}{x:D4}(h:gC P need inR call ops r cJ (s::rest) st.env st.d st.q st.h st.bj=x)(hf:∀w,x≠ .fail w):
  (∃b5,ud P need inR call ops r cJ s st b5/\gC P need inR call ops r cJ rest b5.env b5.d b5.q b5.h b5.bj=x)\/
  (kindOf P s.o.op=.ew/\(∀e m h0 l,st.bj=(e,m,h0)::l->Nat.testBit s.e8 e=true)/\rest.all (λbd=>Nat.testBit bd.e8 s.i)=true/\
   ∃v bh bn an,dV P inR call (g9 P need ops r s.i st.env s) s.o (mJ P need r s st.env) st.d st.q st.h=.ca v bh bn an/\x=.ca v st.env bh bn an ((s.i,s.e8,st.h)::st.bj)):=by
 simp only[gC] at h
 split at h
 · rename_i aq
   split at h
   · exact absurd h.symm (hf _)
   · rename_i hw;exact .inl ⟨_,.v8 aq hw,h⟩
   · rename_i hw
     split at h
     · rename_i v ob aL;exact .inl ⟨_,.alloc aq hw aL,h⟩
     · exact absurd h.symm (hf _)
 · rename_i aq
   split at h
   · rename_i he;exact .inl ⟨_,.pure aq he,h⟩
   · exact absurd h.symm (hf _)
   · exact absurd h.symm (hf _)
 · rename_i aq
   split at h
   · exact absurd h.symm (hf _)
   · rename_i aY
     have iJ:∀e m h0 l,st.bj=(e,m,h0)::l->Nat.testBit s.e8 e=true:=λe m h0 l hs=>by rw[hs] at aY;exact aY
     split at h
     · rename_i he;exact .inl ⟨_,.ew aq iJ he,h⟩
     · rename_i he
       split at h
       · rename_i eB;exact .inr ⟨aq,iJ,eB,_,_,_,_,he,h.symm⟩
       · exact absurd h.symm (hf _)
     · exact absurd h.symm (hf _)
theorem Kz:∀(l:List DStep) (st:uc) (x:D4),gC P need inR call ops r cJ l st.env st.d st.q st.h st.bj=x->(∀w,x≠ .fail w)->
  ∃(f:Nat->uc) (N:Nat),f 0=st/\N<=l.length/\(∀k s,k<N->l[k]? =some s->ud P need inR call ops r cJ s (f k) (f (k+1)))/\
   ((N=l.length/\x=.ok (f N).env (f N).d (f N).q (f N).h (f N).bj)\/
    (∃s,l[N]? =some s/\kindOf P s.o.op=.ew/\(∀e m h0 l,(f N).bj=(e,m,h0)::l->Nat.testBit s.e8 e=true)/\(∀k bd,N<k->l[k]? =some bd->Nat.testBit bd.e8 s.i=true)/\
     ∃v bh bn an,dV P inR call (g9 P need ops r s.i (f N).env s) s.o (mJ P need r s (f N).env) (f N).d (f N).q (f N).h=.ca v bh bn an/\x=.ca v (f N).env bh bn an ((s.i,s.e8,(f N).h)::(f N).bj)))
 |[],st,x,h,hf=>⟨λ_=>st,0,rfl,Nat.le_refl _,λk s aq=>by omega,.inl ⟨rfl,h.symm⟩⟩
 |s::l,st,x,h,hf=>by
  rcases TN h hf with⟨b5,aa,ad⟩|⟨aa,ad,av,aG⟩
  · obtain⟨f,N,ai,au,ay,bg⟩:=Kz l b5 x ad hf
    refine⟨λk=>match k with|0=>st|k+1=>f k,N+1,rfl,by simpa using au,λk bd aq hs=>?_,?_⟩
    · cases k with
      |zero=>simp at hs;subst hs;simp only[Nat.zero_add,ai];exact aa
      |succ k=>exact ay k bd (by omega) (by simpa using hs)
    · rcases bg with⟨aA,ax⟩|⟨s2,aA,ax,bD,ed,fF⟩
      · exact .inl ⟨by simp[aA],ax⟩
      · refine .inr ⟨s2,by simpa using aA,ax,bD,λk bd aq hs=>?_,fF⟩
        cases k with
        |zero=>omega
        |succ k=>exact ed k bd (by omega) (by simpa using hs)
  · refine⟨λ_=>st,0,rfl,by simp,λk s aq=>by omega,.inr ⟨s,rfl,aa,ad,λk bd aq hs=>?_,aG⟩⟩
    cases k with
    |zero=>omega
    |succ k=>
     rw[List.all_eq_true] at av
     exact av bd (List.mem_of_getElem? (by simpa using hs))
mutual
theorem beq_eq:∀(a c:I),I.beq a c=true->a=c
 |.bool a,c,h=>by
  cases c<;>simp only[I.beq] at h<;>first|(cases h;done)|(simp at h;subst h;rfl)
 |.int k n,c,h=>by
  cases c<;>simp only[I.beq] at h<;>first|(cases h;done)|(simp[a8] at h;obtain⟨rfl,rfl⟩:=h;rfl)
 |.str s,c,h=>by
  cases c<;>simp only[I.beq] at h<;>first|(cases h;done)|(rw[n_] at h;simp at h;subst h;rfl)
 |.aZ,c,h=>by cases c<;>simp only[I.beq] at h<;>first|(cases h;done)|rfl
 |.ptr x y,c,h=>by
  cases c<;>simp only[I.beq] at h<;>first|(cases h;done)|(rw[Bool.and_eq_true,Nat.beq_eq,Nat.beq_eq] at h;obtain⟨rfl,rfl⟩:=h;rfl)
 |.aS,c,h=>by cases c<;>simp only[I.beq] at h<;>first|(cases h;done)|rfl
 |.slice x y z cap,c,h=>by
  cases c<;>simp only[I.beq] at h<;>(try (cases h;done))
  rename_i E4 Rj afH TO
  simp only[Bool.and_eq_true,Nat.beq_eq] at h
  obtain⟨⟨⟨rfl,rfl⟩,rfl⟩,h⟩:=h
  cases cap<;>cases TO<;>simp only[bR.beq] at h<;>first|(cases h;done)|(rw[Nat.beq_eq] at h;subst h;rfl)|rfl
 |.ix,c,h=>by cases c<;>simp only[I.beq] at h<;>first|(cases h;done)|rfl
 |.map x,c,h=>by
  cases c<;>simp only[I.beq] at h<;>first|(cases h;done)|(rw[Nat.beq_eq] at h;subst h;rfl)
 |.gb,c,h=>by cases c<;>simp only[I.beq] at h<;>first|(cases h;done)|rfl
 |.fn x as bs,c,h=>by
  cases c<;>simp only[I.beq] at h<;>(try (cases h;done))
  simp only[Bool.and_eq_true,Nat.beq_eq] at h
  obtain⟨⟨rfl,aa⟩,ad⟩:=h
  rw[v9 _ _ aa,v9 _ _ ad]
 |.dt x,c,h=>by
  cases c<;>simp only[I.beq] at h<;>first|(cases h;done)|(rw[Nat.beq_eq] at h;subst h;rfl)
 |.e7,c,h=>by cases c<;>simp only[I.beq] at h<;>first|(cases h;done)|rfl
 |.iface t v,c,h=>by
  cases c<;>simp only[I.beq] at h<;>(try (cases h;done))
  simp only[Bool.and_eq_true,Nat.beq_eq] at h
  obtain⟨rfl,aa⟩:=h
  rw[beq_eq _ _ aa]
 |.agg cs,c,h=>by
  cases c<;>simp only[I.beq] at h<;>(try (cases h;done))
  rw[v9 _ _ h]
 |.aO cs,c,h=>by
  cases c<;>simp only[I.beq] at h<;>(try (cases h;done))
  rw[v9 _ _ h]
 |.bad,c,h=>by cases c<;>simp only[I.beq] at h<;>cases h
theorem v9:∀(a c:List I),I.n3 a c=true->a=c
 |[],[],_=>rfl
 |[],_::_,h=>by simp[I.n3] at h
 |_::_,[],h=>by simp[I.n3] at h
 |x::a,y::c,h=>by
  simp only[I.n3,Bool.and_eq_true] at h
  rw[beq_eq _ _ h.1,v9 _ _ h.2]
end
end
end bt
