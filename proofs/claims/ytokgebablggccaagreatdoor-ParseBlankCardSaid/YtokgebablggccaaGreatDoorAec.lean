/-
  THE ABSTRACT EVALUATOR (code, functions, rounds, calls): a deterministic semantics of loaded code, and the proof that its runs are runs of the program in the model, whatever the tape draws. No condition.
-/
import Derived.Test.YtokgebablggccaaGreatDoorAeb
import Derived.Defers
import Derived.Laws.Externs
import Derived.Orders
set_option linter.unusedVariables false
set_option linter.unusedSimpArgs false
namespace aJ
open Go
variable {a:Act}{cH:Array Value}{env:List aa}{loc:List (Nat×Acc)}{m t:Nat}{o:Oper}{r:bf}{v:aa}{μ:bG}
def wg(P:Program)(need:Nat)(ops:Array Oper):List Oper->List (Nat×Acc)->Nat->List Step
 |[],_,_=>[]
 |o::rest,loc,m=>
  match aliasOf o with
  |some (t,x)=>wg P need ops rest ((t,c7 P need loc x)::loc) m
  |none=>⟨lE P need ops loc o,o,loc,m⟩::wg P need ops rest (o4 o m loc) (m+1)
def tj(P:Program)(need:Nat)(ops:Array Oper):List Oper->List (Nat×Acc)->Nat->List (Nat×Acc)
 |[],loc,_=>loc
 |o::rest,loc,m=>
  match aliasOf o with
  |some (t,x)=>tj P need ops rest ((t,c7 P need loc x)::loc) m
  |none=>tj P need ops rest (o4 o m loc) (m+1)
theorem Jm(P:Program)(need:Nat)(ops:Array Oper):∀(l:List Oper) (loc:List (Nat×Acc)) (st:List Step) (m:Nat),zT P need ops l loc st m=⟨st.reverse++wg P need ops l loc m,tj P need ops l loc m⟩
 |[],loc,st,m=>by simp[zT,wg,tj]
 |o::rest,loc,st,m=>by
  unfold zT wg tj
  cases a_:aliasOf o with
  |some p=>obtain⟨t,x⟩:=p;simp only[a_];exact Jm P need ops rest _ st m
  |none=>simp only[a_];rw[Jm P need ops rest];simp
section
variable {P:Program} {need:Nat}
theorem sb(t u:Nat)(a:Acc)(l:List (Nat×Acc)):kD t ((u,a)::l)=if t=u then some a else kD t l:=by
 rw[kD]
 by_cases h:t=u
 · subst h;simp
 · have:Nat.beq t u=false:=by
     cases ag:Nat.beq t u with
     |false=>rfl
     |true=>exact absurd (Nat.eq_of_beq_eq_true ag) h
   rw[this,if_neg h]
def Acc.below(m:Nat):Acc->Prop
 |.env j=>j<m
 |_=>True
theorem Yc{a:Acc}(h:a.below m):ed (m+1) (v::env) r a=ed m env r a:=by
 cases a with
 |env j=>
  simp only[Acc.below] at h
  have:m+1-1-j=(m-1-j)+1:=by omega
  simp only[ed,this,nth]
 |o3 p=>rfl
 |val v=>rfl
theorem Yd:ed (m+1) (v::env) r (.env m)=v:=by
 simp[ed,nth]
def Jn(m:Nat)(loc:List (Nat×Acc)):Prop:=∀t a,kD t loc=some a->a.below m
theorem z_(h:Jn m loc)(x:Operand):(c7 P need loc x).below m:=by
 cases x with
 |tmp t=>
  simp only[c7]
  cases aM:kD t loc with
  |some a=>exact h t a aM
  |none=>simp only[];cases Nat.testBit need t<;>trivial
 |const v=>trivial
 |global g=>simp only[c7];cases Nat.blt g P.globals.size<;>trivial
 |func f=>trivial
theorem Acc.O9{n:Nat}(h:m<=n){a:Acc}(a_:a.below m):a.below n:=by
 cases a with
 |env j=>exact Nat.lt_of_lt_of_le a_ h
 |o3 p=>trivial
 |val v=>trivial
structure lK(P:Program)(need:Nat)(μ:bG)(r:bf)(m:Nat)(env:List aa)(loc:List (Nat×Acc))(cH:Array Value):Prop where
 Aa:Jn m loc
 rel:∀t,bq μ (ed m env r (c7 P need loc (.tmp t))) (cH.getD t undef)
theorem lK.mono{a2:bG}(hle:fE μ a2)(h:lK P need μ r m env loc cH):lK P need a2 r m env loc cH:=⟨h.Aa,λt=>(h.rel t).mono hle⟩
theorem lK.eval(h:lK P need μ r m env loc a.tmps)(aB:j1 P μ)(x:Operand):bq μ (ed m env r (c7 P need loc x)) (a.eval x):=by
 cases x with
 |tmp t=>exact h.rel t
 |const v=>exact mu μ v
 |global g=>
  simp only[c7,Act.eval]
  cases ag:Nat.blt g P.globals.size with
  |false=>exact trivial
  |true=>
   obtain⟨i,J,ae,aq⟩:=aB g (by simpa using ag)
   obtain⟨kH,i0,Fy⟩:=i
   simp only at ae aq
   subst ae;subst aq
   exact⟨_,J,rfl⟩
 |func f=>exact⟨[],[],rfl,rfl,rfl⟩
theorem lK.init(h:lj need μ r cH):lK P need μ r 0 [] [] cH:=
 ⟨λt a h=>by simp[kD] at h,λt=>by
  simp only[c7,kD]
  cases ag:Nat.testBit need t with
  |true=>exact h t ag
  |false=>trivial⟩
theorem Cs{d:Nat}{u:Value}(aH:d<cH.size):(cH.setIfInBounds d u).getD t undef=if t=d then u else cH.getD t undef:=by
 simp only[Array.getD_eq_getD_getElem?,Array.getElem?_setIfInBounds]
 by_cases h:d=t
 · subst h;simp[aH]
 · rw[if_neg h,if_neg (λe=>h e.symm)]
theorem lK.alias(h:lK P need μ r m env loc a.tmps)(aB:j1 P μ)(aI:t<a.tmps.size)(x:Operand):
  lK P need μ r m env ((t,c7 P need loc x)::loc) (a.put (some t) (a.eval x)).tmps:=by
 refine⟨λu b hu=>?_,λu=>?_⟩
 · rw[sb] at hu
   split at hu
   · cases hu;exact z_ h.Aa x
   · exact h.Aa u b hu
 · simp only[c7,sb,Act.put]
   rw[Cs aI]
   by_cases e:u=t
   · simp only[e,if_true];exact h.eval aB x
   · simp only[e,if_false];exact h.rel u
theorem lK.step(h:lK P need μ r m env loc a.tmps)(aI:∀t,o.dst=some t->t<a.tmps.size){u:Value}(aW:bq μ v u):
  lK P need μ r (m+1) (v::env) (o4 o m loc) (a.put o.dst u).tmps:=by
 have old:∀t,bq μ (ed (m+1) (v::env) r (c7 P need loc (.tmp t))) (a.tmps.getD t undef):=λt=>by
  rw[Yc (z_ h.Aa _)];exact h.rel t
 unfold o4
 cases aH:o.dst with
 |none=>exact⟨λt b ag=>Acc.O9 (Nat.le_succ m) (h.Aa t b ag),old⟩
 |some d=>
  refine⟨λt b ag=>?_,λt=>?_⟩
  · rw[sb] at ag
    split at ag
    · cases ag;exact Nat.lt_succ_self m
    · exact Acc.O9 (Nat.le_succ m) (h.Aa t b ag)
  · simp only[Act.put]
    rw[Cs (aI d aH)]
    by_cases e:t=d
    · simp only[c7,sb,e,if_true,Yd];exact aW
    · have:=old t
      simp only[c7,sb,e,if_false] at this⊢
      exact this
theorem O_{ops:Array Oper}{j:Nat}(h:(ops[j]?).bind (·.dst)=some t):yielded ops cH j=match cH.getD t undef with
  |.bool b=>some b
  |_=>none:=by
 unfold yielded
 rw[h,Option.bind_some]
 rw[Array.getD_eq_getD_getElem?]
 cases ar:cH[t]? with
 |none=>rfl
 |some v=>simp only[Option.getD_some];cases v<;>rfl
theorem Ye{ops:Array Oper}{acc:Acc->aa}(oo:∀t,bq μ (acc (c7 P need loc (.tmp t))) (cH.getD t undef))(ot:∀v,acc (.val v)=v):
  ∀pg,fj (match lE P need ops loc o with|none=>none|some (a,b)=>some (acc a,b))=some pg->Region.wanted o (yielded ops cH)=pg:=by
 intro pg h
 unfold lE at h
 unfold Region.wanted
 cases aB:o.guard with
 |none=>rw[aB] at h;simp only[fj] at h;cases h;rfl
 |some p=>
  obtain⟨j,b⟩:=p
  rw[aB] at h
  simp only at h⊢
  cases aI:(ops[j]?).bind (·.dst) with
  |none=>rw[aI] at h;simp only[ot,fj] at h;cases h
  |some t=>
   rw[aI] at h
   simp only at h
   have aj:=oo t
   rw[O_ aI]
   generalize acc (c7 P need loc (.tmp t))=v at h aj
   unfold fj at h
   split at h
   · rename_i he;cases he
   · rename_i he;cases he;cases h
     have gh:cH.getD t undef=_:=aj
     rw[gh];rfl
   · rename_i he;cases he;cases h
     obtain⟨l,aA,hT⟩:=aj
     cases hT
     rw[aA];rfl
   · cases h
def Jo:List Item->Prop
 |.call _ _ _ _::_=>False
 |_=>True
def tk(P:Program)(need cQ:Nat)(μ:bG)(r:bf)(H:I)(w:World)(b:Frame)(k:List Item)(cs0:List Frame)(ir:Machine)(loc:List (Nat×Acc)):pV->Prop
 |.ok env bT bZ a7=>∃a2 w' a6 cq,Steps P ir (lone (b.atR a6 k) cq w')/\lK P need a2 r env.length env loc a6.tmps/\a6.tmps.size=cQ/\bI a2 a7 w'/\cD μ H w a2 a7 w'/\iB a2 bT a6.defers/\kn a2 b.kind cs0 bZ cq
 |.aK v bT bZ a7=>∃a2 w' a6 cq u d_,Steps P ir (lone {b.atR a6 d_ with mode:=.panicking [{v:=u,recovered:=false}]} cq w')/\Jo d_/\bq a2 v u/\
   (∀t,kD t loc=none->Nat.testBit need t=true->bq a2 (r.get (jB t)) (a6.tmps.getD t undef))/\a6.tmps.size=cQ/\bI a2 a7 w'/\cD μ H w a2 a7 w'/\iB a2 bT a6.defers/\kn a2 b.kind cs0 bZ cq
 |.fail _=>True
theorem tk.of_steps{cQ:Nat}{gy:bG}{H H1:I}{w b_:World}{b:Frame}{k:List Item}{cs0:List Frame}{ir cR:Machine}{x:pV}(ar:bI μ H w)(fR:bI gy H1 b_)(h:Steps P ir cR)(a_:cD μ H w gy H1 b_)
  (J:tk P need cQ gy r H1 b_ b k cs0 cR loc x):tk P need cQ μ r H w b k cs0 ir loc x:=by
 cases x with
 |ok env d q a7=>
  obtain⟨a2,w',a6,cq,s1,s2,c4,c0,dq,eO⟩:=J
  exact⟨a2,w',a6,cq,h.trans s1,s2,c4,c0,cD.trans ar fR a_ dq,eO⟩
 |aK v d q a7=>
  obtain⟨a2,w',a6,cq,u,d_,s1,az,s2,c4,c0,dq,eO,gM⟩:=J
  exact⟨a2,w',a6,cq,u,d_,h.trans s1,az,s2,c4,c0,dq,cD.trans ar fR a_ eO,gM⟩
 |fail s=>trivial
theorem Jp{ops:Array Oper}:∀(l:List Oper) (loc:List (Nat×Acc)) (m t:Nat),kD t (tj P need ops l loc m)=none->kD t loc=none
 |[],loc,m,t,h=>h
 |o::rest,loc,m,t,h=>by
  unfold tj at h
  cases a_:aliasOf o with
  |some p=>
   obtain⟨u,x⟩:=p
   rw[a_] at h
   have:=Jp rest _ m t h
   rw[sb] at this
   split at this
   · cases this
   · exact this
  |none=>
   rw[a_] at h
   have:=Jp rest _ _ t h
   unfold o4 at this
   split at this
   · rw[sb] at this
     split at this
     · cases this
     · exact this
   · exact this
theorem Yf{x:Operand}(h:aliasOf o=some (t,x)):o.guard=none/\o.dst=some t/\∀cT,execOp cT o=pure (.value (cT x)):=by
 unfold aliasOf at h
 split at h
 · rename_i J ae aq;cases h;exact⟨J,ae,λcT=>by simp[execOp,aq]⟩
 · rename_i J ae aq;cases h;exact⟨J,ae,λcT=>by simp[execOp,aq]⟩
 · cases h
theorem FG(a:Act)(dst:Option Tmp)(u:Value):(a.put dst u).tmps.size=a.tmps.size:=by cases dst<;>simp[Act.put]
theorem Jq{call:ht->List aa->I->a8}(ak:pf P call){cQ:Nat}{ops:Array Oper}(tl:∀o∈ops.toList,∀t,o.dst=some t->t<cQ){b:Frame}{inR:Bool}(eF:inR=b.roundOf.isSome){r:bf}{k:List Item}{cs0:List Frame}:
  ∀(l:List Oper) (i0:Nat) (loc:List (Nat×Acc)) (m:Nat) (env:List aa) (d:List cc) (q:cm) (μ:bG) (H:I) (w:World) (a:Act) (cs:List Frame),ops.toList.drop i0=l->env.length=m->
   lK P need μ r m env loc a.tmps->a.tmps.size=cQ->bI μ H w->j1 P μ->iB μ d a.defers->kn μ b.kind cs0 q cs->
   tk P need cQ μ r H w b k cs0 (lone (b.atR a (.inRegion ops (List.range' i0 l.length)::k)) cs w) (tj P need ops l loc m) (mq P need inR call r (wg P need ops l loc m) env d q H)
 |[],i0,loc,m,env,d,q,μ,H,w,a,cs,aA,hm,x8,bQ,ar,aB,aH,bB=>by
  subst hm
  exact⟨μ,w,a,cs,.one stepR_region_end,x8,bQ,ar,cD.refl _ _ _,aH,bB⟩
 |o::rest,i0,loc,m,env,d,q,μ,H,w,a,cs,aA,hm,x8,bQ,ar,aB,aH,bB=>by
  have bg:ops[i0]? =some o:=by
   have:=congrArg List.head? aA
   simpa[List.head?_drop] using this
  have vX:ops.toList.drop (i0+1)=rest:=by
   have:=congrArg List.tail aA
   simpa[List.tail_drop] using this
  have FH:o∈ops.toList:=by
   rw[<-Array.getElem?_toList] at bg
   exact List.mem_of_getElem? bg
  have Pa:∀t,o.dst=some t->t<a.tmps.size:=λt h=>by rw[bQ];exact tl o FH t h
  rw[List.length_cons,List.range'_succ]
  unfold wg tj
  cases a_:aliasOf o with
  |some p=>
   obtain⟨t,x⟩:=p
   simp only
   obtain⟨c8,c9,gf⟩:=Yf a_
   have hw:Region.wanted o (yielded ops a.tmps)=true:=by simp[Region.wanted,c8]
   have dp:=stepGR_op (P:=P) (b:=b) (a:=a) (k:=k) (cs:=cs) (w:=w) (rest:=List.range' (i0+1) rest.length) bg hw
   have x7:o.semAt b.roundOf a.eval=execOp a.eval o:=by
    refine Oper.semAt_eq _ _ _ λc e=>?_
    have:=gf a.eval
    unfold aliasOf at a_
    rw[e] at a_
    split at a_
    · rename_i h;cases h
    · rename_i h;cases h
    · cases a_
   rw[x7] at dp
   obtain⟨al,_⟩:=FE dp
   have ah:=al (a.eval x) w (by rw[gf];rfl)
   have p3:(b.atR a (.inRegion ops (i0::List.range' (i0+1) rest.length)::k)).finish (a.eval x)=b.atR (a.put (some t) (a.eval x)) (.inRegion ops (List.range' (i0+1) rest.length)::k):=by
    rw[Frame.finish_atR,bg]
    simp only[Option.bind_some,c9]
   rw[p3] at ah
   have bM:=Jq (k:=k) ak tl eF rest (i0+1) ((t,c7 P need loc x)::loc) m env d q μ H w (a.put (some t) (a.eval x)) cs vX hm (x8.alias aB (Pa t c9) x) ((FG _ _ _).trans bQ) ar aB (by rw[put_defers];exact aH) bB
   exact bM.of_steps ar ar ah (cD.refl _ _ _)
  |none=>
   simp only[mq]
   have gU:=O7 (P:=P) ak ar aB (b:=b) (a:=a) (ops:=ops) (i:=i0) (rest:=List.range' (i0+1) rest.length) (k:=k) (cs0:=cs0) (cs:=cs) bg (gd:=match lE P need ops loc o with|none=>none|some (x,c)=>some (ed m env r x,c))
    (Ye (acc:=ed m env r) x8.rel (λv=>rfl)) (g:=λx=>ed m env r (c7 P need loc x)) (λx=>x8.eval aB x) aH bB eF
   generalize e4 P inR call (match lE P need ops loc o with|none=>none|some (x,c)=>some (ed m env r x,c)) o (λx=>ed m env r (c7 P need loc x)) d q H=res at gU⊢
   cases res with
   |ok v bT bZ a7=>
    obtain⟨a2,w',u,x5,cq,s1,s2,c4,c0,dq,eO⟩:=gU
    have Yg:=(x8.mono c0.le).step (a:=a) (o:=o) Pa s2
    have bM:=Jq (k:=k) ak tl eF rest (i0+1) (o4 o m loc) (m+1) (v::env) bT bZ a2 a7 w' {tmps:=(a.put o.dst u).tmps,defers:=x5} cq vX (by simp[hm]) Yg ((FG _ _ _).trans bQ) c4 (aB.mono c0.le) dq eO
    exact bM.of_steps ar c4 s1 c0
   |aK v bT bZ a7=>
    obtain⟨a2,w',u,s1,s2,c4,c0,dq,eO⟩:=gU
    refine⟨a2,w',a,cs,u,_,s1,trivial,s2,λt aI aT=>?_,bQ,c4,c0,dq,eO⟩
    have h0:=Jp (P:=P) (need:=need) (ops:=ops) rest _ _ t aI
    have J:kD t loc=none:=by
     unfold o4 at h0
     split at h0
     · rw[sb] at h0
       split at h0
       · cases h0
       · exact h0
     · exact h0
    have:=(x8.mono c0.le).rel t
    simp only[c7,J,aT,ed] at this
    exact this
   |fail s=>trivial
end
end aJ
namespace aJ
open Go
variable {a:Act}{b:Frame}{cs:List Frame}{e:cl}{ir:Machine}{k:List Item}{r:bf}{w:World}{μ:bG}
section
variable {P:Program} {need:Nat}
theorem Pb(need m:Nat)(env:List aa)(jO:bf):∀(loc:List (Nat×Acc)) (r:bf) (t:Nat),Nat.testBit need t=true->
  (uq need m env jO loc r).get (jB t)=match kD t loc with|some a=>ed m env jO a|none=>r.get (jB t)
 |[],r,t,aI=>rfl
 |(u,a)::l,r,t,aI=>by
  rw[sb]
  simp only[uq]
  by_cases e:t=u
  · subst e
    simp only[aI,if_true,bf.fk]
  · have bM:=Pb need m env jO l r t aI
    cases hu:Nat.testBit need u with
    |true=>simp only[bf.fk,if_neg e,bM]
    |false=>simp only[if_neg e,bM]
theorem Pc:∀(loc:List (Nat×Acc)) (r:bf) (t:Nat),(zU loc r).get (jB t)=match kD t loc with|some a=>.bad|none=>r.get (jB t)
 |[],r,t=>rfl
 |(u,a)::l,r,t=>by
  rw[sb]
  simp only[zU,bf.fk]
  by_cases e:t=u
  · simp only[e,if_true]
  · simp only[if_neg e,Pc l r t]
theorem lK.outs{m:Nat}{env:List aa}{loc:List (Nat×Acc)}{cH:Array Value}(h:lK P need μ r m env loc cH):lj need μ (uq need m env r loc r) cH:=by
 intro t aI
 rw[Pb need m env r loc r t aI]
 have:=h.rel t
 simp only[c7,aI] at this
 cases aM:kD t loc with
 |some a=>rw[aM] at this;exact this
 |none=>rw[aM] at this;exact this
theorem Ab{d:List cc}{q:cm}{h:I}{f:bf->List cc->cm->I->lD}(he:e≠ .nrm):vJ (.ok e r d q h) f=.ok e r d q h:=by
 cases e<;>first|rfl|exact absurd rfl he
def wh(P:Program)(μ:bG)(ir:Machine)(b:Frame)(k:List Item)(cs:List Frame)(a:Act)(w:World):cl->Prop
 |.nrm=>Steps P ir (lone (b.atR a k) cs w)
 |.exit id=>∃d_,exitTo id d_=exitTo id k/\Steps P ir (lone (b.atR a (.code (.exit id)::d_)) cs w)
 |.ret=>∃d_,Steps P ir (lone (b.atR a (.code .ret::d_)) cs w)
 |.goto _=>False
 |.aK v=>∃d_ u,(bq μ v u/\Jo d_)/\Steps P ir (lone {b.atR a d_ with mode:=.panicking [{v:=u,recovered:=false}]} cs w)
theorem wh.of_steps{cR:Machine}(h:Steps P ir cR)(ay:wh P μ cR b k cs a w e):wh P μ ir b k cs a w e:=by
 cases e with
 |nrm=>exact h.trans ay
 |exit id=>obtain⟨d_,J,ae⟩:=ay;exact⟨d_,J,h.trans ae⟩
 |ret=>obtain⟨d_,ae⟩:=ay;exact⟨d_,h.trans ae⟩
 |goto l=>exact ay
 |aK v=>obtain⟨d_,u,J,ae⟩:=ay;exact⟨d_,u,J,h.trans ae⟩
theorem wh.pass{x:Item}(ab:∀id,x≠ .inBlock id)(he:e≠ .nrm)(h:wh P μ ir b (x::k) cs a w e):wh P μ ir b k cs a w e:=by
 cases e with
 |nrm=>exact absurd rfl he
 |exit id=>
  obtain⟨d_,J,ae⟩:=h
  refine⟨d_,J.trans ?_,ae⟩
  cases x<;>first|rfl|exact absurd rfl (ab _)
 |ret=>exact h
 |goto l=>exact h
 |aK v=>exact h
def rb(P:Program)(need cQ:Nat)(μ:bG)(H:I)(w:World)(b:Frame)(k:List Item)(cs0:List Frame)(ir:Machine):lD->Prop
 |.ok e r' bT bZ a7=>∃a2 w' a6 cq,wh P a2 ir b k cq a6 w' e/\lj need a2 r' a6.tmps/\a6.tmps.size=cQ/\bI a2 a7 w'/\cD μ H w a2 a7 w'/\iB a2 bT a6.defers/\kn a2 b.kind cs0 bZ cq
 |.fail _=>True
theorem rb.of_steps{cQ:Nat}{gy:bG}{H H1:I}{b_:World}{cs0:List Frame}{cR:Machine}{x:lD}(ar:bI μ H w)(fR:bI gy H1 b_)(h:Steps P ir cR)(a_:cD μ H w gy H1 b_)
  (J:rb P need cQ gy H1 b_ b k cs0 cR x):rb P need cQ μ H w b k cs0 ir x:=by
 cases x with
 |ok e r d q a7=>
  obtain⟨a2,w',a6,cq,s1,s2,c4,c0,dq,eO⟩:=J
  exact⟨a2,w',a6,cq,s1.of_steps h,s2,c4,c0,cD.trans ar fR a_ dq,eO⟩
 |fail s=>trivial
def sc(μ:bG)(b:Frame):Option Nat->Prop
 |none=>b.roundOf=none
 |some l=>∃i,μ l=some i/\b.roundOf=some i.bo
theorem sc.mono{a2:bG}(hle:fE μ a2){rd:Option Nat}(h:sc μ b rd):sc a2 b rd:=by
 cases rd with
 |none=>exact h
 |some l=>obtain⟨i,J,ae⟩:=h;exact⟨i,hle _ _ J,ae⟩
theorem sc.isSome{rd:Option Nat}(h:sc μ b rd):rd.isSome=b.roundOf.isSome:=by
 cases rd with
 |none=>have:b.roundOf=none:=h;simp[this]
 |some l=>obtain⟨i,J,ae⟩:=h;simp[ae]
def wi(P:Program)(need cQ:Nat)(call:ht->List aa->I->a8):Prop:=
 ∀(ops:Array Oper) (id:Nat),(∀o∈ops.toList,∀t,o.dst=some t->t<cQ)->uv ops (fW ops.toList 0 [] [])=true->
  ∀(b:Frame) (inR:Bool) (r:bf) (d:List cc) (q:cm) (H:I) (μ:bG) (w:World) (a:Act) (k:List Item) (cs0 cs:List Frame),inR=b.roundOf.isSome->lj need μ r a.tmps->a.tmps.size=cQ->bI μ H w->j1 P μ->iB μ d a.defers->kn μ b.kind cs0 q cs->
   tk P need cQ μ r H w b k cs0 (lone (b.atR a (.code (.region id ops true)::k)) cs w) (kY ops.toList 0 []) (xF P need inR call ops r d q H)
def Pd(P:Program)(need cQ:Nat)(call:ht->List aa->I->a8):Prop:=
 ∀(f:Operand) (ps:Array Nat) (as dG:Code),k0 cQ (.rangeFunc f ps as dG)=true->∀(b:Frame) (rd:Option Nat) (r:bf) (d:List cc) (q:cm) (H:I) (μ:bG) (w:World) (a:Act) (k:List Item) (cs0 cs:List Frame),sc μ b rd->lj need μ r a.tmps->a.tmps.size=cQ->bI μ H w->j1 P μ->iB μ d a.defers->kn μ b.kind cs0 q cs->
  rb P need cQ μ H w b k cs0 (lone (b.atR a (.code (.rangeFunc f ps as dG)::k)) cs w) (eR P need rd call (.rangeFunc f ps as dG) r d q H)
theorem Yh{c:Code}:step P (lone (b.atR a (.inScope c::k)) cs w)=.next (lone (b.atR a k) cs w):=
 step_lone_go (by simp[stepG,stepG.exec,Frame.atR])
theorem Pe{c:Code}:step P (lone (b.atR a (.code (.scope c)::k)) cs w)=.next (lone (b.atR a (.code c::.inScope c::k)) cs w):=
 step_lone_go (by simp[stepG,stepG.exec,Frame.atR])
theorem tk.code{cQ:Nat}{H:I}{cs0:List Frame}{loc:List (Nat×Acc)}{x:pV}(h:tk P need cQ μ r H w b k cs0 ir loc x):
  rb P need cQ μ H w b k cs0 ir (ur need r loc x):=by
 cases x with
 |ok env d q a7=>
  obtain⟨a2,w',a6,cq,s1,s2,c4,c0,dq,eO⟩:=h
  exact⟨a2,w',a6,cq,s1,s2.outs,c4,c0,dq,eO⟩
 |aK v d q a7=>
  obtain⟨a2,w',a6,cq,u,d_,s1,az,s2,c4,c0,dq,eO,gM⟩:=h
  refine⟨a2,w',a6,cq,⟨d_,u,⟨s2,az⟩,s1⟩,λt aI=>?_,c0,dq,eO,gM⟩
  rw[Pc]
  cases aM:kD t loc with
  |some x=>trivial
  |none=>exact c4 t aM aI
 |fail s=>trivial
def Pf(P:Program)(need cQ:Nat)(call:ht->List aa->I->a8)(rd:Option Nat)(c:Code):Prop:=
 ∀(b:Frame) (r:bf) (d:List cc) (q:cm) (H:I) (μ:bG) (w:World) (a:Act) (k:List Item) (cs0 cs:List Frame),sc μ b rd->lj need μ r a.tmps->a.tmps.size=cQ->bI μ H w->j1 P μ->iB μ d a.defers->kn μ b.kind cs0 q cs->
  rb P need cQ μ H w b k cs0 (lone (b.atR a (.code c::k)) cs w) (eR P need rd call c r d q H)
theorem Pg{cQ:Nat}{call:ht->List aa->I->a8}{rd:Option Nat}{c:Code}(lG:Pf P need cQ call rd c)(b:Frame)(k:List Item)(cs0:List Frame):∀(n:Nat) (r:bf) (d:List cc) (q:cm) (H:I) (μ:bG) (w:World) (a:Act) (cs:List Frame),sc μ b rd->lj need μ r a.tmps->a.tmps.size=cQ->bI μ H w->j1 P μ->iB μ d a.defers->kn μ b.kind cs0 q cs->
  rb P need cQ μ H w b k cs0 (lone (b.atR a (.code c::.inLoop c::k)) cs w) (s9 (eR P need rd call c) n r d q H)
 |0,r,d,q,H,μ,w,a,cs,dC,aj,bQ,ar,aB,aH,bB=>trivial
 |n+1,r,d,q,H,μ,w,a,cs,dC,aj,bQ,ar,aB,aH,bB=>by
  have J:=lG b r d q H μ w a (.inLoop c::k) cs0 cs dC aj bQ ar aB aH bB
  unfold s9
  cases ab:eR P need rd call c r d q H with
  |fail s=>trivial
  |ok e r' bT bZ a7=>
   rw[ab] at J
   obtain⟨a2,w',a6,cq,s1,s2,c4,c0,dq,eO,gM⟩:=J
   by_cases he:e=.nrm
   · subst he
     have bM:=Pg lG b k cs0 n r' bT bZ a7 a2 w' a6 cq (dC.mono dq.le) s2 c4 c0 (aB.mono dq.le) eO gM
     exact bM.of_steps ar c0 (Steps.trans s1 (.one stepR_inLoop)) dq
   · rw[Ab he]
     exact⟨a2,w',a6,cq,s1.pass (λid h=>by cases h) he,s2,c4,c0,dq,eO,gM⟩
theorem tm{cQ:Nat}{call:ht->List aa->I->a8}(ak:pf P call)(hdr:wi P need cQ call)(q9:Pd P need cQ call)(rd:Option Nat):∀(c:Code),k0 cQ c=true->Pf P need cQ call rd c
 |.skip,_=>λb r d q H μ w a k cs0 cs dC aj bQ ar aB aH bB=>⟨μ,w,a,cs,.one stepR_skip,aj,bQ,ar,cD.refl _ _ _,aH,bB⟩
 |.label l,_=>λb r d q H μ w a k cs0 cs dC aj bQ ar aB aH bB=>⟨μ,w,a,cs,.one stepR_label,aj,bQ,ar,cD.refl _ _ _,aH,bB⟩
 |.exit id,_=>λb r d q H μ w a k cs0 cs dC aj bQ ar aB aH bB=>⟨μ,w,a,cs,⟨k,rfl,Steps.refl _ _⟩,aj,bQ,ar,cD.refl _ _ _,aH,bB⟩
 |.ret,_=>λb r d q H μ w a k cs0 cs dC aj bQ ar aB aH bB=>⟨μ,w,a,cs,⟨k,Steps.refl _ _⟩,aj,bQ,ar,cD.refl _ _ _,aH,bB⟩
 |.goto l,_=>λb r d q H μ w a k cs0 cs dC aj bQ ar aB aH bB=>trivial
 |.refuse s,_=>λb r d q H μ w a k cs0 cs dC aj bQ ar aB aH bB=>trivial
 |.region id ops draw,fB=>λb r d q H μ w a k cs0 cs dC aj bQ ar aB aH bB=>by
  simp only[k0,Bool.and_eq_true,List.all_eq_true] at fB
  have tl:∀o∈ops.toList,∀t,o.dst=some t->t<cQ:=λo bg t aI=>by
   have:=fB.1 o bg
   rw[aI] at this
   simpa using this
  cases draw with
  |false=>
   have h:=Jq (P:=P) (need:=need) (k:=k) ak tl (b:=b) (inR:=rd.isSome) dC.isSome (r:=r) (cs0:=cs0) ops.toList 0 [] 0 [] d q μ H w a cs rfl rfl (lK.init aj) bQ ar aB aH bB
   have aA:List.range' 0 ops.toList.length=List.range ops.size:=by rw[List.range_eq_range'];simp
   rw[aA] at h
   have ae:=tk.code h
   have B5:s8 P need ops=⟨wg P need ops ops.toList [] 0,tj P need ops ops.toList [] 0⟩:=by
    unfold s8;rw[Jm];simp
   simp only[eR,B5]
   exact rb.of_steps ar ar (.one stepR_region) (cD.refl _ _ _) ae
  |true=>
   have wj:uv ops (fW ops.toList 0 [] [])=true:=by simpa using fB.2
   have h:=hdr ops id tl wj b rd.isSome r d q H μ w a k cs0 cs dC.isSome aj bQ ar aB aH bB
   simp only[eR]
   exact tk.code h
 |.seq x y,fB=>λb r d q H μ w a k cs0 cs dC aj bQ ar aB aH bB=>by
  simp only[k0,Bool.and_eq_true] at fB
  have J:=tm ak hdr q9 rd x fB.1 b r d q H μ w a (.code y::k) cs0 cs dC aj bQ ar aB aH bB
  simp only[eR]
  cases ab:eR P need rd call x r d q H with
  |fail s=>trivial
  |ok e r' bT bZ a7=>
   rw[ab] at J
   obtain⟨a2,w',a6,cq,s1,s2,c4,c0,dq,eO,gM⟩:=J
   by_cases he:e=.nrm
   · subst he
     have ae:=tm ak hdr q9 rd y fB.2 b r' bT bZ a7 a2 w' a6 k cs0 cq (dC.mono dq.le) s2 c4 c0 (aB.mono dq.le) eO gM
     exact ae.of_steps ar c0 (Steps.head stepR_seq s1) dq
   · rw[Ab he]
     exact⟨a2,w',a6,cq,(s1.pass (λid h=>by cases h) he).of_steps (.one stepR_seq),s2,c4,c0,dq,eO,gM⟩
 |.cond c x y,fB=>λb r d q H μ w a k cs0 cs dC aj bQ ar aB aH bB=>by
  simp only[k0,Bool.and_eq_true] at fB
  simp only[eR]
  have g_:=(lK.init (P:=P) aj).eval (a:=a) aB c
  split
  · rename_i m0
    rw[m0] at g_
    have h:=tm ak hdr q9 rd x fB.1 b r d q H μ w a k cs0 cs dC aj bQ ar aB aH bB
    exact h.of_steps ar ar (.one (stepR_cond (t:=true) g_)) (cD.refl _ _ _)
  · rename_i m0
    rw[m0] at g_
    have h:=tm ak hdr q9 rd y fB.2 b r d q H μ w a k cs0 cs dC aj bQ ar aB aH bB
    exact h.of_steps ar ar (.one (stepR_cond (t:=false) g_)) (cD.refl _ _ _)
  · trivial
 |.block id c,fB=>λb r d q H μ w a k cs0 cs dC aj bQ ar aB aH bB=>by
  have J:=tm ak hdr q9 rd c fB b r d q H μ w a (.inBlock id::k) cs0 cs dC aj bQ ar aB aH bB
  simp only[eR]
  cases ab:eR P need rd call c r d q H with
  |fail s=>trivial
  |ok e r' bT bZ a7=>
   rw[ab] at J
   obtain⟨a2,w',a6,cq,s1,s2,c4,c0,dq,eO,gM⟩:=J
   cases e with
   |nrm=>exact⟨a2,w',a6,cq,Steps.head stepR_block (Steps.trans s1 (.one stepR_inBlock)),s2,c4,c0,dq,eO,gM⟩
   |exit i=>
    obtain⟨d_,aG,aE⟩:=s1
    by_cases FI:i=id
    · simp only[FI,if_true]
      subst FI
      have br:exitTo i d_=some k:=by rw[aG];simp[exitTo]
      exact⟨a2,w',a6,cq,Steps.head stepR_block (Steps.trans aE (.one (stepR_exit br))),s2,c4,c0,dq,eO,gM⟩
    · simp only[if_neg FI]
      have:(id==i)=false:=by simp;exactλh=>FI h.symm
      exact⟨a2,w',a6,cq,⟨d_,aG.trans (by simp[exitTo,this]),Steps.head stepR_block aE⟩,s2,c4,c0,dq,eO,gM⟩
   |ret=>obtain⟨d_,aE⟩:=s1;exact⟨a2,w',a6,cq,⟨d_,Steps.head stepR_block aE⟩,s2,c4,c0,dq,eO,gM⟩
   |goto l=>exact s1.elim
   |aK v=>obtain⟨d_,u,aG,aE⟩:=s1;exact⟨a2,w',a6,cq,⟨d_,u,aG,Steps.head stepR_block aE⟩,s2,c4,c0,dq,eO,gM⟩
 |.loop c,fB=>λb r d q H μ w a k cs0 cs dC aj bQ ar aB aH bB=>by
  have h:=Pg (tm ak hdr q9 rd c fB) b k cs0 100000 r d q H μ w a cs dC aj bQ ar aB aH bB
  simp only[eR]
  exact h.of_steps ar ar (.one stepR_loop) (cD.refl _ _ _)
 |.scope c,fB=>λb r d q H μ w a k cs0 cs dC aj bQ ar aB aH bB=>by
  have J:=tm ak hdr q9 rd c fB b r d q H μ w a (.inScope c::k) cs0 cs dC aj bQ ar aB aH bB
  simp only[eR]
  cases ab:eR P need rd call c r d q H with
  |fail s=>trivial
  |ok e r' bT bZ a7=>
   rw[ab] at J
   obtain⟨a2,w',a6,cq,s1,s2,c4,c0,dq,eO,gM⟩:=J
   by_cases he:e=.nrm
   · subst he
     exact⟨a2,w',a6,cq,Steps.head Pe (Steps.trans s1 (.one Yh)),s2,c4,c0,dq,eO,gM⟩
   · exact⟨a2,w',a6,cq,(s1.pass (λid h=>by cases h) he).of_steps (.one Pe),s2,c4,c0,dq,eO,gM⟩
 |.rangeFunc f ps as dG,fB=>λb r d q H μ w a k cs0 cs dC aj bQ ar aB aH bB=>q9 f ps as dG fB b rd r d q H μ w a k cs0 cs dC aj bQ ar aB aH bB
end
end aJ
namespace aJ
open Go
variable {a:Act}{as dG:Code}{b:Frame}{cs:List Frame}{k:List Item}{l:Nat}{w:World}
section
variable {P:Program} {need:Nat}
theorem Yi{w0:World}{s:Sem Next}{Ac:Frame}
  (dp:(stepG P true {frame:=Ac,callers:=cs,status:=.running,dying:=none} w0).bare=(stepG.apply P true (b.atR a (.inRangeFunc l::k)) cs none s w).bare):
  (∀v w',s.run P w=.ok (.value v) w'->Steps P (lone Ac cs w0) (lone ((b.atR a (.inRangeFunc l::k)).finish v) cs w'))/\
  (∀f args w',s.run P w=.ok (.enter f args) w'->Steps P (lone Ac cs w0) (lone (Frame.enter P f args .normal) (b.atR a (.inRangeFunc l::k)::cs) w'))/\
  (∀th f tmps assign body w',s.run P w=.ok (.round th f tmps assign body) w'->Steps P (lone Ac cs w0) (lone (Frame.round th f tmps assign body .normal) (b.atR a (.inRangeFunc l::k)::cs) w')):=by
 refine⟨λv w' aj=>.one (step_lone_go ?_),λf args w' aj=>.one (step_lone_go ?_),λl f tmps assign body w' aj=>.one (step_lone_go ?_)⟩
 · rw[dp];simp[stepG.apply,aj]
 · rw[dp];simp[stepG.apply,aj,Frame.atR]
 · rw[dp];simp[stepG.apply,aj]
theorem Yj{f:Operand}{ps:Array Nat}{k:List Item}{cs:List Frame}{b_:World}{mark:List Deferred}(he:(Instr.enterLoop b.fn a.tmps ps as dG b.roundOf).run P w=.ok (l,mark) b_):
  (stepG P true {frame:=b.atR a (.code (.rangeFunc f ps as dG)::k),callers:=cs,status:=.running,dying:=none} w).bare=
   (stepG.apply P true (b.atR {tmps:=a.tmps,defers:=mark++a.defers} (.inRangeFunc l::k)) cs none (do let d<-Deferred.ofValue (a.eval f) #[.func (.yield l) #[] #[]];invoke d.target d.args) b_).bare:=by
 have ph:=Frame.eval_atR b {tmps:=a.tmps,defers:=mark++a.defers} (.inRangeFunc l::k)
 simp only[Frame.atR] at ph
 have Ct:({tmps:=a.tmps,defers:=mark++a.defers}:Act).eval=a.eval:=funext λx=>by cases x<;>rfl
 simp only[stepG,stepG.exec,Frame.atR,Sem.runT_eq,he,GStep.bare_after]
 have Yk:resolve a.eval {callee:=.value f,args:=#[.const (.func (.yield l) #[] #[])],argTypes:=#[]} 0=Deferred.ofValue (a.eval f) #[.func (.yield l) #[] #[]]:=by simp[resolve,Act.eval]
 rw[ph,Ct,Yk]
theorem Yl{w':World}{jump:Option Code}(he:(Instr.endLoop l).run P w=.ok jump w'):
  step P (lone (b.atR a (.endRangeFunc l::k)) cs w)=.next (lone (b.atR a ((jump.map Item.code).toList++k)) cs w'):=
 step_lone_go (by simp[stepG,stepG.exec,Frame.atR,Sem.runT_eq,he])
theorem Ym{cQ:Nat}{r:bf}{ps:Array Nat}(fB:k0 cQ as=true/\k0 cQ dG=true/\∀t∈ps.toList,t<cQ){μ:bG}{H:I}{rd:Option Nat}(dC:sc μ b rd)(aj:lj need μ r a.tmps)(bQ:a.tmps.size=cQ)(ar:bI μ H w)
  {d:List cc}(aH:iB μ d a.defers){bT:List cc}{H1:I}
  (aA:l=s_ rd H.n)(he:E6 need rd r ps.toList as dG d H=some (bT,H1)):
  ∃a2 w' mark i,(Instr.enterLoop b.fn a.tmps ps as dG b.roundOf).run P w=.ok (i.bo,mark) w'/\a2 l=some i/\bI a2 H1 w'/\cD μ H w a2 H1 w'/\iB a2 bT (mark++a.defers):=by
 subst bQ
 unfold s_ at aA
 unfold E6 at he
 cases rd with
 |none=>
  have ag:b.roundOf=none:=dC
  cases he
  obtain⟨bt,b3⟩:=ar.alloc (.defrd (some [])) (.deferred (some [])) 0 ⟨[],World.heap_alloc_new _ _,rfl⟩
  have hu:h6 μ H.n ⟨w.heap.size,0,0⟩ H.n=some ⟨w.heap.size,0,0⟩:=h7 _ _ _
  have Ad:=bt.r4 ⟨(w.alloc (.deferred (some []))).heap.size,0,0⟩
  obtain⟨aV,aU⟩:=bt.alloc (.loop .ready none need r ps.toList as dG H.n) (.loop {state:=.ready,pending:=none,fn:=b.fn,tmps:=a.tmps,params:=ps,assign:=as,body:=dG,defers:=w.heap.size}) 0
   ⟨a.tmps,⟨w.heap.size,0,0⟩,b.fn,Ad _ _ hu,World.heap_alloc_new _ _,aj.mono (b3.le.trans Ad),fB.1,fB.2.1,fB.2.2⟩
  refine⟨_,_,[{target:=.collected w.heap.size,args:=#[]}],⟨(w.alloc (.deferred (some []))).heap.size,0,0⟩,?_,?_,aV,cD.trans ar bt b3 aU,⟨_,_,rfl,.collected _ ⟨w.heap.size,0,0⟩ (Ad _ _ hu),aH.mono (b3.le.trans Ad)⟩⟩
  · rw[ag]
    simp only[Instr.enterLoop,Sem.run_bind,run_newObj,Result.andThen_ok,Sem.run_pure]
    rfl
  · rw[aA];exact h7 _ _ _
 |some nE=>
  obtain⟨j,aL,ag⟩:=dC
  simp only at aA he
  subst aA
  cases aB:H.get nE with
  |none=>rw[aB] at he;cases he
  |some Jr=>
  rw[aB] at he
  cases Jr<;>try (cases he;done)
  case loop tn Ph alj alk Pj Pk Pl h5=>
   cases he
   obtain⟨cH,jP,fn,aG,aE,_⟩:=ar.rel _ _ j aB aL
   have hle:=ar.r4 ⟨w.heap.size,0,0⟩
   obtain⟨aV,aU⟩:=ar.alloc (.loop .ready none need r ps.toList as dG h5) (.loop {state:=.ready,pending:=none,fn:=b.fn,tmps:=a.tmps,params:=ps,assign:=as,body:=dG,defers:=jP.bo}) 0
    ⟨a.tmps,jP,b.fn,hle _ _ aG,World.heap_alloc_new _ _,aj.mono hle,fB.1,fB.2.1,fB.2.2⟩
   refine⟨_,_,[],⟨w.heap.size,0,0⟩,?_,?_,aV,aU,aH.mono hle⟩
   · rw[ag]
     have ti:(Instr.getLoop j.bo).run P w=.ok {state:=tn,pending:=Ph,fn:=fn,tmps:=cH,params:=⟨Pj⟩,assign:=Pk,body:=Pl,defers:=jP.bo} w:=by
      have:(getObj j.bo).run P w=.ok (.loop {state:=tn,pending:=Ph,fn:=fn,tmps:=cH,params:=⟨Pj⟩,assign:=Pk,body:=Pl,defers:=jP.bo}) w:=by simp[getObj,Sem.run,aE]
      simp only[Instr.getLoop,Sem.run_bind,this];rfl
     simp only[Instr.enterLoop,Sem.run_bind,ti,Result.andThen_ok,Sem.run_pure,run_newObj]
     rfl
   · exact h7 _ _ _
theorem Yn{μ:bG}{H:I}(ar:bI μ H w){i:gx}(aA:μ l=some i){st:LoopState}{hr:Option Code}{bL:Nat}{rg:bf}{ps:List Nat}{h5:Nat}(aB:H.get l=some (.loop st hr bL rg ps as dG h5))(dp:st≠ .busy):
  ∃w',(Instr.endLoop i.bo).run P w=.ok hr w'/\bI μ (H.set l (some (.loop .exhausted hr bL rg ps as dG h5))) w'/\cD μ H w μ (H.set l (some (.loop .exhausted hr bL rg ps as dG h5))) w':=by
 obtain⟨cH,jP,fn,aG,aE,br⟩:=ar.rel _ _ i aB aA
 have cf:=(ar.lt _ _ aA).2
 obtain⟨bt,b3⟩:=ar.update (w':={w with heap:=w.heap.setIfInBounds i.bo (.loop {state:=.exhausted,pending:=hr,fn:=fn,tmps:=cH,params:=⟨ps⟩,assign:=as,body:=dG,defers:=jP.bo})}) (o':=.loop .exhausted hr bL rg ps as dG h5) aB rfl aA (by simp) (λr aj=>by simp[Array.getElem?_setIfInBounds];intro e;exact absurd e.symm aj) rfl rfl rfl
  ⟨cH,jP,fn,aG,by simp[cf],br⟩
 refine⟨_,?_,bt,b3⟩
 have hG:(getObj i.bo).run P w=.ok (.loop {state:=st,pending:=hr,fn:=fn,tmps:=cH,params:=⟨ps⟩,assign:=as,body:=dG,defers:=jP.bo}) w:=by simp[getObj,Sem.run,aE]
 have hk:(setObj i.bo (.loop {state:=.exhausted,pending:=hr,fn:=fn,tmps:=cH,params:=⟨ps⟩,assign:=as,body:=dG,defers:=jP.bo})).run P w=.ok () {w with heap:=w.heap.setIfInBounds i.bo (.loop {state:=.exhausted,pending:=hr,fn:=fn,tmps:=cH,params:=⟨ps⟩,assign:=as,body:=dG,defers:=jP.bo})}:=by simp[setObj,Sem.run,aE]
 have ag:(st==LoopState.busy)=false:=by cases st<;>first|rfl|exact absurd rfl dp
 simp only[Instr.endLoop,Instr.getLoop,Sem.run_bind,hG,Result.andThen_ok,Sem.run_pure,ag,Bool.false_eq_true,if_false,hk]
theorem Js{cQ:Nat}{call:ht->List aa->I->a8}(ak:pf P call):Pd P need cQ call:=by
 intro f ps as dG fB b rd r d q H μ w a k cs0 cs dC aj bQ ar aB aH bB
 simp only[k0,Bool.and_eq_true,List.all_eq_true] at fB
 have Yo:∀t∈ps.toList,t<cQ:=λt aI=>by simpa using fB.1.1 t aI
 have g_:=(lK.init (P:=P) aj).eval (a:=a) aB f
 simp only[eR]
 cases dp:E6 need rd r ps.toList as dG d H with
 |none=>trivial
 |some p=>
  obtain⟨bT,H1⟩:=p
  simp only
  obtain⟨gy,b_,mark,i,J,ae,aq,aQ,bj⟩:=Ym (P:=P) (b:=b) (a:=a) (ps:=ps) ⟨fB.1.2,fB.2,Yo⟩ dC aj bQ ar aH rfl dp
  have Yp:=g_.mono aQ.le
  have wk:=Yj (P:=P) (f:=f) (k:=k) (cs:=cs) J
  obtain⟨al,aw,a1⟩:=Yi wk
  have m0:=OZ (P:=P) (w:=b_) aq Yp (args:=[.gJ (s_ rd H.n)]) (vs:=[.func (.yield i.bo) #[] #[]]) ⟨_,_,rfl,⟨i,ae,rfl⟩,rfl⟩
  have fin:∀(res:a8),wc P (lone (b.atR a (.code (.rangeFunc f ps as dG)::k)) cs w) (b.atR {tmps:=a.tmps,defers:=mark++a.defers} (.inRangeFunc i.bo::k)) cs (Ends gy H1 b_ res)->
    rb P need cQ μ H w b k cs0 (lone (b.atR a (.code (.rangeFunc f ps as dG)::k)) cs w) (E7 (s_ rd H.n) r bT q res):=by
   intro res aA
   obtain⟨e,eH,bO,cS⟩:=aA
   cases res with
   |fail s=>trivial
   |aK v bh=>
    obtain⟨a2,u,rfl,aV,aU,bu⟩:=bO
    exact⟨a2,eH,{tmps:=a.tmps,defers:=mark++a.defers},cs,⟨.inRangeFunc i.bo::k,u,⟨aV,trivial⟩,cS⟩,aj.mono (aQ.le.trans bu.le),bQ,aU,cD.trans ar aq aQ bu,bj.mono bu.le,bB.mono (aQ.le.trans bu.le)⟩
   |ret v bh=>
    obtain⟨a2,u,rfl,aV,aU,bu⟩:=bO
    have p3:(b.atR {tmps:=a.tmps,defers:=mark++a.defers} (.inRangeFunc i.bo::k)).finish u=b.atR {tmps:=a.tmps,defers:=mark++a.defers} (.endRangeFunc i.bo::k):=rfl
    simp only[p3] at cS
    unfold E7
    simp only
    cases Ae:bh.get (s_ rd H.n) with
    |none=>trivial
    |some Jr=>
     cases Jr<;>try trivial
     case loop st hr bL rg Yq E9 E_ h5=>
      simp only
      by_cases ag:st=.busy
      · subst ag;trivial
      · obtain⟨jD,aG,aE,br⟩:=Yn (P:=P) aU (bu.le _ _ ae) Ae ag
        have hH:=Steps.trans cS (.one (Yl (b:=b) (a:={tmps:=a.tmps,defers:=mark++a.defers}) (k:=k) (cs:=cs) aG))
        have hle:=aQ.le.trans (bu.le.trans br.le)
        have sd:=cD.trans ar aU (cD.trans ar aq aQ bu) br
        have done:∀(e:cl),wh P a2 (lone (b.atR a (.code (.rangeFunc f ps as dG)::k)) cs w) b k cs {tmps:=a.tmps,defers:=mark++a.defers} jD e->
          rb P need cQ μ H w b k cs0 (lone (b.atR a (.code (.rangeFunc f ps as dG)::k)) cs w) (.ok e r bT q (bh.set (s_ rd H.n) (some (.loop .exhausted hr bL rg Yq E9 E_ h5)))):=λe he=>
         ⟨a2,jD,{tmps:=a.tmps,defers:=mark++a.defers},cs,he,aj.mono hle,bQ,aE,sd,bj.mono (bu.le.trans br.le),bB.mono hle⟩
        have alm:∀X:lD,(match st with|.busy=>lD.fail "" |_=>X)=X:=λX=>by cases st<;>first|rfl|exact absurd rfl ag
        cases st<;>first
         |exact absurd rfl ag
         |(cases hr with
          |none=>exact done .nrm hH
          |some c=>
           cases c<;>first
            |trivial
            |exact done .ret ⟨k,hH⟩
            |exact done (.exit _) ⟨k,rfl,hH⟩)
  cases Pm:zS (ed 0 [] r (c7 P need [] f)) [.gJ (s_ rd H.n)] H1 with
  |call g args a4=>
   rw[Pm] at m0
   obtain⟨rfl,vs,aG,aE⟩:=m0
   simp only
   cases cu:(call (.fn g) args a4).oq with
   |false=>obtain⟨s,ah⟩:=FF cu;rw[ah];trivial
   |true=>
    apply fin
    rcases ak.fn g args a4 cu gy b_ vs aq (aB.mono aQ.le) aE with⟨v,w',aV,aU⟩|⟨aV,aU⟩
    · rw[<-aG] at aV
      exact⟨_,_,aU,al _ _ aV⟩
    · rw[<-aG] at aV
      exact(O5 (Jj cu) aU _ _).of_steps (aw _ _ _ aV)
  |gJ gw args a4=>
   rw[Pm] at m0
   obtain⟨rfl,fA,vs,hT,aG,aE⟩:=m0
   simp only
   cases cu:(call (.gJ gw) args a4).oq with
   |false=>obtain⟨s,ah⟩:=FF cu;rw[ah];trivial
   |true=>
    apply fin
    obtain⟨Pn,tmps,E9,E_,aV,aU⟩:=ak.gJ gw args a4 cu gy b_ fA vs aq (aB.mono aQ.le) hT aE
    rw[<-aG] at aV
    exact(aU _ _).of_steps (a1 _ _ _ _ _ _ aV)
  |val v a4=>trivial
  |aK v a4=>trivial
  |vF x=>trivial
  |xA=>trivial
  |fail s=>trivial
end
end aJ
namespace aJ
open Go
variable {H:I}{cM:Option aa}{fn:Func}{need:Nat}{w:World}{μ:bG}
section
variable {P:Program}
theorem Jt:∀(l:List aa) (i:Nat) (r:bf) (t:Nat),(vL i l r).get (jB t)=if i<=t/\t<i+l.length then(l[t-i]?).getD .bad else r.get (jB t)
 |[],i,r,t=>by
  simp only[vL,List.length_nil]
  rw[if_neg (by omega)]
 |v::l,i,r,t=>by
  simp only[vL,Jt l (i+1),bf.fk,List.length_cons]
  by_cases h:i+1<=t/\t<i+1+l.length
  · rw[if_pos h,if_pos (by omega)]
    have:t-i=(t-(i+1))+1:=by omega
    rw[this];simp
  · rw[if_neg h]
    by_cases e:t=i
    · subst e;rw[if_pos rfl,if_pos (by omega)];simp
    · rw[if_neg e,if_neg (by omega)]
theorem Yr{args:List aa}{vs:List Value}(h:cF μ args vs)(n:Nat):lj need μ (vL 0 args .leaf) (⟨vs⟩++Array.replicate n undef):=by
 intro t _
 rw[Jt]
 have aA:=h.length
 by_cases aI:t<args.length
 · rw[if_pos (by omega)]
   simp only[Nat.sub_zero]
   obtain⟨v,aW,aj⟩:=h.get (List.getElem?_eq_getElem aI)
   rw[List.getElem?_eq_getElem aI]
   rw[Array.getD_eq_getD_getElem?,Array.getElem?_append_left (by simp;omega)]
   simp only[List.getElem?_toArray,aW,Option.getD_some]
   exact aj
 · rw[if_neg (by omega),bf.qY];trivial
theorem Ys(ar:bI μ H w){r:bf}{cH:Array Value}(aj:lj need μ r cH){x:ResultVar}{v:aa}(h:vM P need r H x=some v):
  ∃u,((match x with|.tmp t=>pure (cH.getD t undef)|.cell a t=>do loadVar t (<-asAddr (cH.getD a undef)):Sem Value)).run P w=.ok u w/\bq μ v u:=by
 unfold vM at h
 cases x with
 |tmp t=>
  simp only at h
  split at h
  · rename_i ag;cases h;exact⟨_,rfl,aj t ag⟩
  · cases h
 |cell t ty=>
  simp only at h
  split at h
  · rename_i ag
    have J:=aj t ag
    split at h
    · rename_i b off n a3 a_ aT
      rw[a3] at J
      obtain⟨i,hi,aW⟩:=J
      split at h
      · rename_i cs aA
        cases h
        obtain⟨us,aV,aU⟩:=vV (P:=P) ar hi aA
        refine⟨.agg ⟨us⟩,?_,us,rfl,aU⟩
        simp[aW,asAddr,loadVar,z0 a_,run_sizeOf aT,aV]
      · cases h
    · rename_i b off a3 a_
      rw[a3] at J
      obtain⟨i,hi,aW⟩:=J
      obtain⟨u,aV,aU⟩:=IH (P:=P) ar hi h
      refine⟨u,?_,aU⟩
      simp only[aW,asAddr,loadVar,Sem.run_bind,Sem.run_pure,Result.andThen_ok,z0 a_,Bool.false_eq_true,if_false,aV]
    · cases h
  · cases h
theorem Ju{need:Nat}{μ:bG}{H:I}{w:World}(ar:bI μ H w){r:bf}{cH:Array Value}(aj:lj need μ r cH):∀(l:List ResultVar) (vs:List aa),o6 (vM P need r H) l=some vs->
  ∃us:List Value,(l.mapM (λx=>(match x with|.tmp t=>pure (cH.getD t undef)|.cell a t=>do loadVar t (<-asAddr (cH.getD a undef)):Sem Value))).run P w=.ok us w/\cF μ vs us
 |[],vs,h=>by cases h;exact⟨[],rfl,rfl⟩
 |x::l,vs,h=>by
  simp only[o6] at h
  split at h
  · rename_i v FJ J ae
    cases h
    obtain⟨u,aV,aU⟩:=Ys ar aj J
    obtain⟨us,bu,e7⟩:=Ju ar aj l FJ ae
    refine⟨u::us,?_,⟨_,_,rfl,aU,e7⟩⟩
    rw[List.mapM_cons]
    simp only[Sem.run_bind]
    rw[aV]
    simp only[Result.andThen_ok,Sem.run_bind,bu,Sem.run_pure]
  · cases h
theorem Po(ar:bI μ H w){r:bf}{cH:Array Value}(aj:lj need μ r cH){v:aa}(h:vN P need fn r H=some v):
  ∃u,(results fn cH).run P w=.ok u w/\bq μ v u:=by
 unfold vN at h
 have iG:∀us:List Value,(fn.results.toList.mapM (λx=>(match x with|.tmp t=>pure (cH.getD t undef)|.cell a t=>do loadVar t (<-asAddr (cH.getD a undef)):Sem Value))).run P w=.ok us w->
   (results fn cH).run P w=.ok (if h:(⟨us⟩:Array Value).size=1 then(⟨us⟩:Array Value)[0] else .tuple ⟨us⟩) w:=by
  intro us pb
  have hm:(fn.results.mapM (λx=>(match x with|.tmp t=>pure (cH.getD t undef)|.cell a t=>do loadVar t (<-asAddr (cH.getD a undef)):Sem Value))).run P w=.ok ⟨us⟩ w:=by
   rw[Array.mapM_eq_mapM_toList]
   simp only[map_eq_pure_bind,Sem.run_bind]
   rw[pb];rfl
  unfold results
  simp only[Sem.run_bind]
  refine Eq.trans (congrArg (λq=>Result.andThen q _) hm) ?_
  rfl
 split at h
 · rename_i v' a_
   cases h
   obtain⟨us,aV,aU⟩:=Ju ar aj _ _ a_
   obtain⟨u,te,rfl,bu,e7⟩:=aU
   cases e7
   exact⟨_,iG _ aV,bu⟩
 · rename_i vs dk a_
   cases h
   obtain⟨us,aV,aU⟩:=Ju ar aj _ _ a_
   refine⟨_,iG _ aV,?_⟩
   have:¬((⟨us⟩:Array Value).size=1):=by
    intro e
    have aA:=aU.length
    have b0:us.length=1:=e
    rw[b0] at aA
    obtain⟨x,ab⟩:=List.length_eq_one_iff.1 aA
    exact dk x ab
   rw[dif_neg this]
   exact⟨us,rfl,aU⟩
 · cases h
theorem Pp{call:ht->List aa->I->a8}(ak:pf P call)(hdr:∀need cQ,wi P need cQ call){f:FuncId}(aM:P.funcs[f]? =some fn){kind:CallKind}{c:Code}(ag:fn.body=some c)(fB:k0 fn.ntmps c=true)
  {args:List aa}{vs:List Value}{q:cm}{cs0 cs:List Frame}(aW:cF μ args vs)(ar:bI μ H w)(aB:j1 P μ)(bB:kn μ kind cs0 q cs):
  rb P (e1 fn) fn.ntmps μ H w {(default:Frame) with fn:=f,kind:=kind} [] cs0 (lone (Frame.enter P f ⟨vs⟩ kind) cs w) (lF P call fn args q H):=by
 unfold lF
 rw[ag]
 simp only
 cases hle:Nat.ble args.length fn.ntmps with
 |false=>trivial
 |true=>
  have Ft:args.length<=fn.ntmps:=by simpa using hle
  have hlen:=aW.length
  simp only
  have Yt:Frame.enter P f ⟨vs⟩ kind=({(default:Frame) with fn:=f,kind:=kind}:Frame).atR {tmps:=⟨vs⟩++Array.replicate (fn.ntmps-vs.length) undef,defers:=[]} [.code c]:=by
   simp[Frame.enter,Frame.atR,aM,ag]
   rfl
  rw[Yt]
  exact tm ak (hdr _ _) (Js ak) none c fB {(default:Frame) with fn:=f,kind:=kind} (vL 0 args .leaf) [] q H μ w {tmps:=⟨vs⟩++Array.replicate (fn.ntmps-vs.length) undef,defers:=[]} [] cs0 cs rfl (Yr aW _) (by simp;omega) ar aB rfl bB
def Cu(P:Program):Prop:=∀(g:FuncId) (cn:Func) (gc:Code),P.funcs[g]? =some cn->cn.body=some gc->k0 cn.ntmps gc=true/\(cn.name== "runtime.NumGoroutine")=false
theorem FK{f:FuncId}{c:Code}(aM:P.funcs[f]? =some fn)(ag:fn.body=some c)(aT:(fn.name== "runtime.NumGoroutine")=false)(args:Array Value)(w:World):(callFunc f args).run P w=.ok (.enter f args) w:=by
 have FL:¬fn.name= "runtime.NumGoroutine" :=by simpa using aT
 simp[callFunc,aM,FL,ag]
def re(μ:bG):Option aa->FrameMode->Prop
 |none,m=>m=.returning
 |some v,m=>∃u,m=.panicking [{v:=u,recovered:=false}]/\bq μ v u
theorem re.mono{a2:bG}(hle:fE μ a2){m:FrameMode}(h:re μ cM m):re a2 cM m:=by
 cases cM with
 |none=>exact h
 |some v=>obtain⟨u,J,ae⟩:=h;exact⟨u,J,ae.mono hle⟩
theorem re.run{m:FrameMode}(h:re μ cM m):m≠ .run:=by
 cases cM with
 |none=>intro e;cases h.symm.trans e
 |some v=>obtain⟨u,J,_⟩:=h;intro e;cases J.symm.trans e
theorem re.q{c:Frame}{cs:List Frame}(h:re μ cM c.mode):kn μ .deferred (c::cs) (pX cM) (c::cs):=by
 cases cM with
 |none=>
  refine⟨rfl,λdy ai=>?_⟩
  have ay:c.mode=.returning:=h
  simp only[tryRecover,ai,ay]
 |some v=>obtain⟨u,J,ae⟩:=h;exact⟨rfl,rfl,c,cs,u,rfl,J,ae⟩
theorem Yu(ar:bI μ H w){r:Nat}{i:gx}(hi:μ r=some i){cs:List cc}(aB:H.get r=some (.defrd (some cs))):
  ∃w' l,(Instr.takeDeferred i.bo).run P w=.ok l w'/\iB μ cs l/\bI μ (H.set r (some (.defrd none))) w'/\cD μ H w μ (H.set r (some (.defrd none))) w':=by
 obtain⟨l,aG,aE⟩:=ar.rel _ _ i aB hi
 have cf:=(ar.lt _ _ hi).2
 obtain⟨bt,b3⟩:=ar.update (w':={w with heap:=w.heap.setIfInBounds i.bo (.deferred none)}) (o':=.defrd none) aB rfl hi (by simp) (λr aj=>by simp[Array.getElem?_setIfInBounds];intro e;exact absurd e.symm aj) rfl rfl rfl
  (show({w with heap:=w.heap.setIfInBounds i.bo (.deferred none)}:World).heap[i.bo]? =some (.deferred none) by simp[cf])
 refine⟨_,l,?_,aE,bt,b3⟩
 have hG:(getObj i.bo).run P w=.ok (.deferred (some l)) w:=by simp[getObj,Sem.run,aG]
 have hk:(setObj i.bo (.deferred none)).run P w=.ok () {w with heap:=w.heap.setIfInBounds i.bo (.deferred none)}:=by simp[setObj,Sem.run,aG]
 simp only[Instr.takeDeferred,Sem.run_bind,hG,Result.andThen_ok,hk,Sem.run_pure]
end
end aJ
namespace aJ
open Go
section
variable {P:Program}
theorem step_take{dy:Frame}{cs:List Frame}{w w':World}{b:Nat}{args:Array Value}{bN calls:List Deferred}(hm:dy.mode≠ .run)(aH:dy.defers={target:=.collected b,args:=args}::bN)(aI:(Instr.takeDeferred b).run P w=.ok calls w'):
  step P (lone dy cs w)=.next (lone {dy with defers:=calls++bN} cs w'):=by
 refine step_lone_go ?_
 cases Jv:dy.mode with
 |run=>exact absurd Jv hm
 |returning=>simp[stepG,unwind,Jv,aH,Sem.runT_eq,aI]
 |panicking chain=>simp[stepG,unwind,Jv,aH,Sem.runT_eq,aI]
theorem Ends.trans{μ gy:bG}{H H1:I}{w b_:World}{x:a8}{e:Ending}{w':World}(ar:bI μ H w)(fR:bI gy H1 b_)(a_:cD μ H w gy H1 b_)(h:Ends gy H1 b_ x e w'):Ends μ H w x e w':=by
 cases x with
 |ret v a7=>obtain⟨a2,u,J,ae,aq,aQ⟩:=h;exact⟨a2,u,J,ae,aq,cD.trans ar fR a_ aQ⟩
 |aK v a7=>obtain⟨a2,u,J,ae,aq,aQ⟩:=h;exact⟨a2,u,J,ae,aq,cD.trans ar fR a_ aQ⟩
 |fail s=>trivial
theorem Jw{call:ht->List aa->I->a8}(ak:pf P call)(hdr:∀need cQ,wi P need cQ call)(gZ:Cu P){need:Nat}{fn:Func}{r:bf}:
  ∀(k:Nat) (cM:Option aa) (bN:List cc) (H:I) (μ:bG) (w:World) (dy:Frame) (cs:List Frame),(mr P call need fn r k cM bN H).oq=true->bI μ H w->j1 P μ->lj need μ r dy.tmps->P.funcs[dy.fn]? =some fn->dy.kind=.normal->
   iB μ bN dy.defers->re μ cM dy.mode->∃e w' Jx,Ends μ H w (mr P call need fn r k cM bN H) e w'/\Steps P (lone dy cs w) (lone Jx cs w')/\Jx.fn=dy.fn/\Jx.leaving P w' e
 |0,cM,bN,H,μ,w,dy,cs,cu,ar,aB,aj,aM,ai,aH,a3=>by cases cu
 |k+1,cM,[],H,μ,w,dy,cs,cu,ar,aB,aj,aM,ai,aH,a3=>by
  have p5:dy.defers=[]:=aH
  cases cM with
  |none=>
   simp only[mr] at cu⊢
   cases iG:vN P need fn r H with
   |none=>rw[iG] at cu;cases cu
   |some v=>
    obtain⟨u,aV,aU⟩:=Po (P:=P) ar aj iG
    exact⟨.returned u,w,dy,⟨μ,u,rfl,aU,ar,cD.refl _ _ _⟩,Steps.refl _ _,rfl,a3,p5,ai,fn,aM,aV⟩
  |some v=>
   obtain⟨u,J,ae⟩:=a3
   exact⟨.panicked _,w,dy,⟨μ,u,rfl,ae,ar,cD.refl _ _ _⟩,Steps.refl _ _,rfl,J,p5,fn,aM⟩
 |k+1,cM,.collected b::bN,H,μ,w,dy,cs,cu,ar,aB,aj,aM,ai,aH,a3=>by
  obtain⟨v9,dl,Cl,J,ae⟩:=aH
  cases J with
  |collected _ i hi=>
  simp only[mr] at cu⊢
  cases se:H.get b with
  |none=>rw[se] at cu;cases cu
  |some o=>
   rw[se] at cu
   cases o<;>try (cases cu;done)
   case defrd calls=>
    cases calls with
    |none=>cases cu
    |some Yv=>
     simp only at cu⊢
     obtain⟨w',l,aG,aE,br,dw⟩:=Yu (P:=P) ar hi se
     have ah:=step_take (cs:=cs) a3.run Cl aG
     obtain⟨e,b9,p6,bt,b3,hj,gE⟩:=Jw ak hdr gZ k cM (Yv++bN) _ μ w' {dy with defers:=l++dl} cs cu br aB aj aM ai (aE.append ae) a3
     refine⟨e,b9,p6,?_,Steps.head ah b3,hj,gE⟩
     exact Ends.trans ar br dw bt
 |k+1,cM,.call g args::bN,H,μ,w,dy,cs,cu,ar,aB,aj,aM,ai,aH,a3=>by
  obtain⟨v9,dl,Cl,J,ae⟩:=aH
  cases J with
  |call _ _ cap vs tp=>
  simp only[mr] at cu⊢
  cases p7:P.funcs[g]? with
  |none=>rw[p7] at cu;cases cu
  |some cn=>
   rw[p7] at cu
   simp only at cu⊢
   cases FM:cn.body with
   |none=>
    have:lF P call cn args (pX cM) H=.fail "" :=by simp[lF,FM]
    rw[this] at cu;cases cu
   |some gc=>
    obtain⟨FN,FO⟩:=gZ g cn gc p7 FM
    have bB:kn μ .deferred ({dy with defers:=dl}::cs) (pX cM) ({dy with defers:=dl}::cs):=re.q (c:={dy with defers:=dl}) a3
    have ag:=Pp (P:=P) ak hdr p7 (kind:=.deferred) FM FN (args:=args) (vs:=vs++cap) (q:=pX cM) tp ar aB bB
    have hinv:(invoke (.fn (.func g) ⟨cap⟩) ⟨vs⟩).run P w=.ok (.enter g ⟨vs++cap⟩) w:=by
     have:=FK (P:=P) p7 FM FO (⟨vs⟩++⟨cap⟩) w
     simpa[invoke] using this
    have Yw:=step_defer (P:=P) (cs:=cs) a3.run Cl (d:={target:=.fn (.func g) ⟨cap⟩,args:=⟨vs⟩}) rfl hinv
    cases ab:lF P call cn args (pX cM) H with
    |fail s=>rw[ab] at cu;cases cu
    |ok e r' bT bZ a7=>
     rw[ab] at cu ag
     obtain⟨a2,w',a6,cq,s1,s2,c4,c0,dq,eO,gM⟩:=ag
     simp only[zV] at cu⊢
     cases iG:vN P (e1 cn) cn r' a7 with
     |none=>rw[iG] at cu;cases e<;>cases bT<;>cases cu
     |some hz=>
      rw[iG] at cu
      obtain⟨u,aV,aU⟩:=Po (P:=P) c0 s2 iG
      have main:∀(he:e=.nrm\/e=.ret) (p5:bT=[]) (g0:(mr P call need fn r k (uu bZ cM) bN a7).oq=true),
        ∃aE b9 p6,Ends μ H w (mr P call need fn r k (uu bZ cM) bN a7) aE b9/\Steps P (lone dy cs w) (lone p6 cs b9)/\p6.fn=dy.fn/\p6.leaving P b9 aE:=by
       intro he p5 g0
       subst p5
       have Cv:a6.defers=[]:=eO
       have Jy:∃todo,Steps P (lone (Frame.enter P g ⟨vs++cap⟩ .deferred) ({dy with defers:=dl}::cs) w) (lone {({(default:Frame) with fn:=g,kind:=.deferred}:Frame).atR a6 todo with mode:=.returning} cq w'):=by
        rcases he with rfl|rfl
        · exact⟨_,Steps.trans s1 (.one (stepR_end rfl))⟩
        · obtain⟨d_,tq⟩:=s1
          exact⟨_,Steps.trans tq (.one (stepR_ret rfl))⟩
       obtain⟨todo,Jy⟩:=Jy
       have hG:({({(default:Frame) with fn:=g,kind:=.deferred}:Frame).atR a6 todo with mode:=.returning}:Frame).going P w' (.returned u):=⟨rfl,Cv,cn,p7,aV⟩
       have caller:∃m,cq={({dy with defers:=dl}:Frame) with mode:=m}::cs/\re a2 (uu bZ cM) (settle m):=by
        have cx:re a2 cM (settle dy.mode):=by
         have wm:=a3.mono dq.le
         cases cM with
         |none=>have:dy.mode=.returning:=wm;rw[this];rfl
         |some v=>obtain⟨u,J,ae⟩:=wm;rw[J];exact⟨u,rfl,ae⟩
        cases bZ with
        |none=>exact⟨dy.mode,gM.1,cx⟩
        |act v=>exact⟨dy.mode,gM.1,cx⟩
        |done v=>
         obtain⟨_,c,rest,u,aG,aE,br,dw⟩:=gM
         cases aG
         exact⟨_,dw,rfl⟩
       obtain⟨m,rfl,Yx⟩:=caller
       have aq:=step_going_returned (P:=P) (c:={({dy with defers:=dl}:Frame) with mode:=m}) (cs:=cs) rfl hG
       obtain⟨aE,b9,p6,bt,b3,hj,gE⟩:=Jw ak hdr gZ k (uu bZ cM) bN a7 a2 w' {dy with defers:=dl,mode:=settle m} cs g0 c0 (aB.mono dq.le) (aj.mono dq.le) aM ai (ae.mono dq.le) Yx
       exact⟨aE,b9,p6,Ends.trans ar c0 dq bt,Steps.head Yw (Steps.trans Jy (Steps.head aq b3)),hj,gE⟩
      cases bT with
      |cons x xs=>cases e<;>cases cu
      |nil=>
       cases e with
       |nrm=>exact main (.inl rfl) rfl cu
       |ret=>exact main (.inr rfl) rfl cu
       |exit id=>cases cu
       |goto l=>cases cu
       |aK v=>cases cu
theorem Yy{P:Program}{m x9:Machine}{e:Ending}(h:Steps P m x9)(he:e≠ .outgrown):Comes P m x9 e:=by
 cases e with
 |outgrown=>exact absurd rfl he
 |_=>exact h
theorem Yz{call:ht->List aa->I->a8}(ak:pf P call)(hdr:∀need cQ,wi P need cQ call)(gZ:Cu P){f:FuncId}{fn:Func}{c:Code}(aM:P.funcs[f]? =some fn)(ag:fn.body=some c)
  {args:List aa}{vs:List Value}{H:I}{μ:bG}{w:World}(aW:cF μ args vs)(ar:bI μ H w)(aB:j1 P μ)(cu:(xG P call fn (lF P call fn args .none H)).oq=true):
  Calls P f ⟨vs⟩ w (Ends μ H w (xG P call fn (lF P call fn args .none H))):=by
 intro cs
 obtain⟨FN,FO⟩:=gZ f fn c aM ag
 have bB:kn μ .normal cs .none cs:=⟨rfl,λdy ai=>by simp[tryRecover,ai]⟩
 have jQ:=Pp (P:=P) ak hdr aM (kind:=.normal) ag FN aW ar aB bB
 generalize ab:lF P call fn args .none H=x at cu jQ⊢
 cases x with
 |fail s=>cases cu
 |ok e r d q a7=>
  obtain⟨a2,w',a6,cq,s1,s2,c4,c0,dq,eO,gM⟩:=jQ
  have lG:cq=cs:=by
   cases q with
   |none=>exact gM.1
   |act v=>exact gM.1
   |done v=>exact absurd gM.1 (by intro h;cases h)
  subst lG
  have main:∀(cM:Option aa) (dy:Frame),dy.fn=f->dy.tmps=a6.tmps->dy.defers=a6.defers->dy.kind=.normal->re a2 cM dy.mode->Steps P (lone (Frame.enter P f ⟨vs⟩ .normal) cq w) (lone dy cq w')->
    (mr P call (e1 fn) fn r 100 cM d a7).oq=true->∃e b9 p6,Ends μ H w (mr P call (e1 fn) fn r 100 cM d a7) e b9/\Comes P (lone (Frame.enter P f ⟨vs⟩ .normal) cq w) (lone p6 cq b9) e/\p6.fn=f/\p6.leaving P b9 e:=by
   intro cM dy J ae aq aQ bj cW g0
   subst J
   obtain⟨aE,b9,p6,bt,b3,hj,gE⟩:=Jw ak hdr gZ 100 cM d a7 a2 w' dy cq g0 c0 (aB.mono dq.le) (by rw[ae];exact s2) aM aQ (by rw[aq];exact eO) bj
   have Pq:=Ends.trans ar c0 dq bt
   exact⟨aE,b9,p6,Pq,Yy (cW.trans b3) (λe=>Jj g0 _ (e▸Pq)),hj,gE⟩
  cases e with
  |nrm=>exact main none {({(default:Frame) with fn:=f,kind:=.normal}:Frame).atR a6 [] with mode:=.returning} rfl rfl rfl rfl rfl (Steps.trans s1 (.one (stepR_end rfl))) cu
  |ret=>obtain⟨d_,tq⟩:=s1;exact main none {({(default:Frame) with fn:=f,kind:=.normal}:Frame).atR a6 (.code .ret::d_) with mode:=.returning} rfl rfl rfl rfl rfl (Steps.trans tq (.one (stepR_ret rfl))) cu
  |aK v=>obtain⟨d_,u,J,ae⟩:=s1;exact main (some v) _ rfl rfl rfl rfl ⟨u,rfl,J.1⟩ ae cu
  |exit id=>cases cu
  |goto l=>cases cu
end
end aJ
namespace aJ
open Go
variable {H:I}{i:gx}{l:Nat}{w:World}{μ:bG}
section
variable {P:Program}
theorem Pr{need:Nat}{μ:bG}:∀(ps:List Nat) (args:List aa) (vs:List Value) (r jO:bf) (cH:Array Value),(∀t∈ps,t<cH.size)->lj need μ r cH->cF μ args vs->BS ps args r=some jO->
  lj need μ jO ((ps.zip vs).foldl (λcH (p:Nat×Value)=>cH.setIfInBounds p.1 p.2) cH)/\((ps.zip vs).foldl (λcH (p:Nat×Value)=>cH.setIfInBounds p.1 p.2) cH).size=cH.size/\ps.length=vs.length
 |[],[],vs,r,jO,cH,a3,aj,aW,h=>by cases aW;cases h;exact⟨aj,rfl,rfl⟩
 |t::bl,v::args,vs,r,jO,cH,a3,aj,aW,h=>by
  obtain⟨u,us,rfl,J,ae⟩:=aW
  simp only[BS] at h
  have uz:lj need μ (r.set (jB t) v) (cH.setIfInBounds t u):=λs ah=>by
   rw[bf.fk,Cs (a3 t (by simp))]
   by_cases e:s=t
   · rw[if_pos e,if_pos e];exact J
   · rw[if_neg e,if_neg e];exact aj s ah
  obtain⟨aV,aU,bu⟩:=Pr bl args us _ jO (cH.setIfInBounds t u) (λs ah=>by simp;exact a3 s (by simp[ah])) uz ae h
  exact⟨aV,by rw[List.zip_cons_cons,List.foldl_cons];rw[aU];simp,by simp[bu]⟩
 |[],_::_,vs,r,jO,cH,a3,aj,aW,h=>by cases h
 |_::_,[],vs,r,jO,cH,a3,aj,aW,h=>by cases h
theorem Jz(ar:bI μ H w)(aA:μ l=some i){st:LoopState}{hr:Option Code}{bL:Nat}{rg:bf}{ps:List Nat}{as dG:Code}{h5:Nat}(aB:H.get l=some (.loop st hr bL rg ps as dG h5)):
  ∃cH jP fn,μ h5=some jP/\(Instr.getLoop i.bo).run P w=.ok {state:=st,pending:=hr,fn:=fn,tmps:=cH,params:=⟨ps⟩,assign:=as,body:=dG,defers:=jP.bo} w/\lj bL μ rg cH/\k0 cH.size as=true/\k0 cH.size dG=true/\(∀t∈ps,t<cH.size)/\
   ∀cv Af,∃w',(setObj i.bo (.loop {state:=cv,pending:=Af,fn:=fn,tmps:=cH,params:=⟨ps⟩,assign:=as,body:=dG,defers:=jP.bo})).run P w=.ok () w'/\
    bI μ (H.set l (some (.loop cv Af bL rg ps as dG h5))) w'/\cD μ H w μ (H.set l (some (.loop cv Af bL rg ps as dG h5))) w':=by
 obtain⟨cH,jP,fn,aG,aE,br,dw,hh,h8⟩:=ar.rel _ _ i aB aA
 have cf:=(ar.lt _ _ aA).2
 have hG:(getObj i.bo).run P w=.ok (.loop {state:=st,pending:=hr,fn:=fn,tmps:=cH,params:=⟨ps⟩,assign:=as,body:=dG,defers:=jP.bo}) w:=by simp[getObj,Sem.run,aE]
 refine⟨cH,jP,fn,aG,?_,br,dw,hh,h8,λcv Af=>?_⟩
 · simp only[Instr.getLoop,Sem.run_bind,hG,Result.andThen_ok,Sem.run_pure]
 · obtain⟨bt,b3⟩:=ar.update (w':={w with heap:=w.heap.setIfInBounds i.bo (.loop {state:=cv,pending:=Af,fn:=fn,tmps:=cH,params:=⟨ps⟩,assign:=as,body:=dG,defers:=jP.bo})}) (o':=.loop cv Af bL rg ps as dG h5) aB rfl aA (by simp) (λr aj=>by simp[Array.getElem?_setIfInBounds];intro e;exact absurd e.symm aj) rfl rfl rfl
     ⟨cH,jP,fn,aG,by simp[cf],br,dw,hh,h8⟩
   exact⟨_,by simp[setObj,Sem.run,aE],bt,b3⟩
theorem YA{b:Frame}{a:Act}{d_:List Item}{c:Frame}{cs:List Frame}{w:World}{chain:List PanicEntry}(aH:a.defers=[])(aT:Jo d_):
  step P (lone {b.atR a d_ with mode:=.panicking chain} (c::cs) w)=.next (lone (c.raise chain) cs w):=by
 have YB:({b.atR a d_ with mode:=.panicking chain}:Frame).catches P=false:=by
  unfold Frame.catches
  cases aM:P.funcs[b.fn]? with
  |some fn=>simp[Frame.atR,aM]
  |none=>
   cases d_ with
   |nil=>simp[Frame.atR,aM]
   |cons x t=>cases x<;>first|exact aT.elim|simp[Frame.atR,aM]
 refine step_lone_go ?_
 have Ps:=YB
 simp only[Frame.atR,aH] at Ps⊢
 simp[stepG,unwind,Ps]
theorem YC(aA:μ l=some i){b:Frame}(ag:b.roundOf=some i.bo)(ai:b.kind=.normal){need cQ:Nat}{c:Frame}{cs:List Frame}{ir:Machine}{x:lD}(ab:rb P need cQ μ H w b [] (c::cs) ir x)(aln:∀dy:Frame,dy.kind=b.kind->tryRecover dy (c::cs)=none)(cu:(E8 l x).oq=true)(ar:bI μ H w):
  wc P ir c cs (Ends μ H w (E8 l x)):=by
 cases x with
 |fail s=>cases cu
 |ok e r d q a7=>
  obtain⟨a2,w',a6,cq,s1,s2,c4,c0,dq,eO,gM⟩:=ab
  have lG:cq=c::cs:=by
   cases q with
   |none=>exact gM.1
   |act v=>exact gM.1
   |done v=>exact absurd (ai.symm.trans gM.1) (by intro h;cases h)
  subst lG
  cases d with
  |cons y fQ=>cases cu
  |nil=>
   have Cv:a6.defers=[]:=eO
   simp only[E8] at cu⊢
   cases aB:a7.get l with
   |none=>rw[aB] at cu;cases cu
   |some o=>
    rw[aB] at cu
    cases o<;>try (cases cu;done)
    case loop st hr bL rg ps as dG h5=>
     cases st<;>try (cases cu;done)
     simp only at cu⊢
     obtain⟨cH,jP,fn,al,aw,_,_,_,_,a1⟩:=Jz (P:=P) c0 (dq.le _ _ aA) aB
     have fin:∀jump:Option Code,∃b9,(Instr.endRound i.bo jump).run P w'=.ok (.bool jump.isNone) b9/\bI a2 (a7.set l (some (.loop (if jump.isNone then .ready else .done) jump bL rg ps as dG h5))) b9/\cD a2 a7 w' a2 (a7.set l (some (.loop (if jump.isNone then .ready else .done) jump bL rg ps as dG h5))) b9:=λjump=>by
      obtain⟨b9,aV,aU,bu⟩:=a1 (if jump.isNone then .ready else .done) jump
      refine⟨b9,?_,aU,bu⟩
      simp only[Instr.endRound,Sem.run_bind,aw,Result.andThen_ok,aV,Sem.run_pure]
     cases e with
     |nrm=>
      obtain⟨b9,aV,aU,bu⟩:=fin none
      exact⟨.returned (.bool true),b9,⟨a2,_,rfl,rfl,aU,cD.trans ar c0 dq bu⟩,Steps.trans s1 (.one (stepR_round_end ag ai aV))⟩
     |ret=>
      obtain⟨d_,s1⟩:=s1
      obtain⟨b9,aV,aU,bu⟩:=fin (some .ret)
      exact⟨.returned (.bool false),b9,⟨a2,_,rfl,rfl,aU,cD.trans ar c0 dq bu⟩,Steps.trans s1 (.one (stepR_round_ret ag ai aV))⟩
     |exit id=>
      obtain⟨d_,tq,s1⟩:=s1
      obtain⟨b9,aV,aU,bu⟩:=fin (some (.exit id))
      exact⟨.returned (.bool false),b9,⟨a2,_,rfl,rfl,aU,cD.trans ar c0 dq bu⟩,Steps.trans s1 (.one (stepR_round_exit ag ai (tq.trans rfl) aV))⟩
     |aK v=>
      obtain⟨d_,u,⟨J,ae⟩,s1⟩:=s1
      exact⟨.panicked _,w',⟨a2,u,rfl,J,c0,dq⟩,Steps.trans s1 (.one (YA Cv ae))⟩
     |goto t=>cases cu
theorem YD{call:ht->List aa->I->a8}(ak:pf P call)(hdr:∀need cQ,wi P need cQ call){args:List aa}{vs:List Value}(cu:(Fa P call l args H).oq=true)(ar:bI μ H w)(ti:j1 P μ)(aA:μ l=some i)(aW:cF μ args vs):
  O4 P i.bo vs w (Ends μ H w (Fa P call l args H)):=by
 unfold Fa at cu⊢
 cases aB:H.get l with
 |none=>rw[aB] at cu;cases cu
 |some o=>
  rw[aB] at cu
  cases o<;>try (cases cu;done)
  case loop st hr bL rg ps as dG h5=>
   cases st<;>try (cases cu;done)
   simp only at cu⊢
   cases bm:BS ps args rg with
   |none=>rw[bm] at cu;cases cu
   |some jO=>
    rw[bm] at cu
    simp only at cu⊢
    obtain⟨cH,jP,fn,al,aw,a1,a5,bc,cj,cK⟩:=Jz (P:=P) ar aA aB
    obtain⟨cN,ea,dE⟩:=Pr ps args vs rg jO cH cj a1 aW bm
    obtain⟨Ag,Pt⟩:∃Ag,(ps.zip vs).foldl (λcH (p:Nat×Value)=>cH.setIfInBounds p.1 p.2) cH=Ag:=⟨_,rfl⟩
    rw[Pt] at cN ea
    refine⟨fn,Ag,as,dG,?_,λc cs=>?_⟩
    · simp only[Instr.yield,Sem.run_bind,aw,Result.andThen_ok]
      rw[if_neg (by simp;omega)]
      simp only[Sem.run_bind,Sem.run_pure,Result.andThen_ok]
      rw[<-Pt]
      simp
    · have YE:Frame.round i.bo fn Ag as dG .normal=({(default:Frame) with fn:=fn,kind:=.normal,roundOf:=some i.bo}:Frame).atR {tmps:=Ag,defers:=[]} [.code as,.beginRound,.code dG]:=rfl
      rw[YE]
      have bB:kn μ .normal (c::cs) .none (c::cs):=⟨rfl,λdy ai=>by simp[tryRecover,ai]⟩
      have dC:sc μ ({(default:Frame) with fn:=fn,kind:=.normal,roundOf:=some i.bo}:Frame) (some l):=⟨i,aA,rfl⟩
      have J:=tm ak (hdr bL cH.size) (Js ak) (some l) as a5 {(default:Frame) with fn:=fn,kind:=.normal,roundOf:=some i.bo} jO [] .none H μ w {tmps:=Ag,defers:=[]} [.beginRound,.code dG] (c::cs) (c::cs) dC cN ea ar ti rfl bB
      generalize eR P bL (some l) call as jO [] .none H=x at J cu⊢
      cases x with
      |fail s=>cases cu
      |ok e bt d1 aV H1=>
       cases e<;>try (cases cu;done)
       case nrm=>
        cases d1<;>try (cases cu;done)
        case nil=>
         obtain⟨gy,b_,c8,kI,s1,s2,c4,c0,dq,eO,gM⟩:=J
         have lG:kI=c::cs:=by
          cases aV with
          |none=>exact gM.1
          |act v=>exact gM.1
          |done v=>exact absurd gM.1 (by intro h;cases h)
         subst lG
         simp only[NP] at cu⊢
         cases mB:H1.get l with
         |none=>rw[mB] at cu;cases cu
         |some e2=>
          rw[mB] at cu
          cases e2<;>try (cases cu;done)
          case loop fC YF alo alp alq alr als alu=>
           cases fC<;>try (cases cu;done)
           simp only at cu⊢
           obtain⟨alv,alw,alx,aO,aZ,bC,cX,gi,fg,rf⟩:=Jz (P:=P) c0 (dq.le _ _ aA) mB
           obtain⟨b9,bd,b2,dd⟩:=rf .busy YF
           have Cr:(Instr.beginRound i.bo).run P b_=.ok () b9:=by
            simp only[Instr.beginRound,Sem.run_bind,aZ,Result.andThen_ok,bd,Sem.run_pure]
           have dp:=stepR_beginRound (P:=P) (b:={(default:Frame) with fn:=fn,kind:=.normal,roundOf:=some i.bo}) (a:=c8) (k:=[.code dG]) (cs:=c::cs) rfl Cr
           have YG:kn gy .normal (c::cs) .none (c::cs):=⟨rfl,λdy ai=>by simp[tryRecover,ai]⟩
           have YH:sc gy ({(default:Frame) with fn:=fn,kind:=.normal,roundOf:=some i.bo}:Frame) (some l):=⟨i,dq.le _ _ aA,rfl⟩
           have Cv:iB gy [] c8.defers:=eO
           have ae:=tm ak (hdr bL cH.size) (Js ak) (some l) dG bc {(default:Frame) with fn:=fn,kind:=.normal,roundOf:=some i.bo} bt [] .none _ gy b9 c8 [] (c::cs) (c::cs) YH s2 c4 b2 (ti.mono dq.le) Cv YG
           have aq:=ae.of_steps ar b2 (Steps.trans s1 (.one dp)) (cD.trans ar c0 dq dd)
           exact YC aA rfl rfl aq (λdy ai=>by simp[tryRecover,ai]) cu ar
end
end aJ
namespace aJ
open Go
variable {fn:Func}{α:Type}
section
variable {P:Program}
def wo:List String:=["internal/abi.NoEscape","internal/bytealg.MakeNoZero","internal/bytealg.IndexByteString","maps.clone"]
def FP(P:Program):Prop:=∀(g:FuncId) (cn:Func),P.funcs[g]? =some cn->cn.body=none->cn.name∈wo->Extern.findNext cn=none
theorem Pu:∀(n t:Nat) (acc:Array Value),(Extern.BytealgMakeNoZero.digits n t acc).size=acc.size+n
 |0,t,acc=>rfl
 |n+1,t,acc=>by rw[Extern.BytealgMakeNoZero.digits,Pu n];simp;omega
theorem YI(aT:fn.name= "internal/abi.NoEscape"):Extern.find fn=some Extern.AbiNoEscape.same:=by
 have J:Extern.allGenericRows.lookup "internal/abi.NoEscape" =none:=by rfl
 have ae:Extern.allTypedRows.lookup "internal/abi.NoEscape" =none:=by rfl
 have aq:Extern.allRows.lookup "internal/abi.NoEscape" =some Extern.AbiNoEscape.same:=by rfl
 simp[Extern.find,aT,J,ae,aq]
theorem YJ(aT:fn.name= "internal/bytealg.MakeNoZero"):Extern.find fn=some (Extern.BytealgMakeNoZero.makeNoZero fn.params fn.resultTypes):=by
 have J:Extern.allGenericRows.lookup "internal/bytealg.MakeNoZero" =none:=by rfl
 have ae:Extern.allTypedRows.lookup "internal/bytealg.MakeNoZero" =some Extern.BytealgMakeNoZero.makeNoZero:=by rfl
 simp[Extern.find,aT,J,ae]
theorem YK(aT:fn.name= "internal/bytealg.IndexByteString"):Extern.find fn=some Extern.BytealgIndexByte.indexByte:=by
 have J:Extern.allGenericRows.lookup "internal/bytealg.IndexByteString" =none:=by rfl
 have ae:Extern.allTypedRows.lookup "internal/bytealg.IndexByteString" =none:=by rfl
 have aq:Extern.allRows.lookup "internal/bytealg.IndexByteString" =some Extern.BytealgIndexByte.indexByte:=by rfl
 simp[Extern.find,aT,J,ae,aq]
theorem YL(aT:fn.name= "maps.clone"):Extern.find fn=some Extern.MapsClone.clone:=by
 have J:Extern.allGenericRows.lookup "maps.clone" =none:=by rfl
 have ae:Extern.allTypedRows.lookup "maps.clone" =none:=by rfl
 have aq:Extern.allRows.lookup "maps.clone" =some Extern.MapsClone.clone:=by rfl
 simp[Extern.find,aT,J,ae,aq]
theorem Pv(c:Nat):∀(l:List UInt8) (i:Nat),kZ c l i=match l.findIdx? (λb=>Nat.beq b.toNat c) with
  |some j=>((i+j:Nat):Int)
  |none=>-1
 |[],i=>rfl
 |b::l,i=>by
  rw[kZ,List.findIdx?_cons]
  cases Nat.beq b.toNat c with
  |true=>simp
  |false=>
   simp only[Pv c l (i+1)]
   cases l.findIdx? (λb=>Nat.beq b.toNat c) with
   |none=>rfl
   |some j=>
    simp only[Option.map_some]
    have:((i+(j+1):Nat):Int)=((i+1+j:Nat):Int):=by congr 1;omega
    exact this.symm
theorem YM(b:ByteArray)(p:UInt8->Bool):(List.range b.size).find? (λi=>p b[i]!)=b.data.toList.findIdx? p:=by
 have bQ:b.data.toList.length=b.size:=Array.length_toList
 have eG:∀(i:Nat) (hi:i<b.data.toList.length),b[i]! =b.data.toList[i]:=λi hi=>by
  have e5:i<b.size:=by omega
  rw[getElem!_pos b i e5];rfl
 cases aM:b.data.toList.findIdx? p with
 |none=>
  rw[List.find?_eq_none]
  intro i hi
  have e5:i<b.data.toList.length:=by rw[bQ];simpa using hi
  rw[eG i e5]
  have:=List.findIdx?_eq_none_iff.1 aM _ (List.getElem_mem e5)
  rw[this];exact Bool.false_ne_true
 |some j=>
  obtain⟨aL,a3,cf⟩:=List.findIdx?_eq_some_iff_getElem.1 aM
  rw[List.find?_range_eq_some]
  refine⟨?_,by simp;omega,λi hi=>?_⟩
  · rw[eG j aL];exact a3
  · rw[eG i (by omega)]
    have:=cf i hi
    simpa using this
theorem YN(n:Int)(f:Int->α)(g:Array Value->α):Extern.BytealgMakeNoZero.makeNoZero.match_3 (λ_=>α) #[.int .i64 n] f g=f n:=rfl
theorem YO(t:TypeId)(r:Nat)(f:TypeId->Nat->α)(e:TypeId->α)(g:Array Value->α):Extern.MapsClone.clone.match_2 (λ_=>α) #[.iface t (.map (some r))] f e g=f t r:=rfl
theorem YP(b c:Value)(f:Value->Value->α)(g:Array Value->α):Extern.BytealgIndexByte.indexByte.match_2 (λ_=>α) #[b,c] f g=f b c:=rfl
theorem YQ{f:FuncId}(aM:P.funcs[f]? =some fn)(ag:fn.body=none)(Ah:FP P){args:List aa}{H a7:I}{v:aa}(h:vO P fn fn.name args H=some (v,a7))
  {μ:bG}{w:World}{vs:List Value}(ar:bI μ H w)(aW:cF μ args vs):
  ∃u w',(callFunc f ⟨vs⟩).run P w=.ok (.value u) w'/\Ends μ H w (.ret v a7) (.returned u) w':=by
 have call:∀e:Array Value->Sem Value,fn.name∈wo->Extern.find fn=some e->(callFunc f ⟨vs⟩).run P w=(do let v<-e ⟨vs⟩;pure (.value v):Sem Next).run P w:=by
  intro e hm he
  have aT:=Ah f fn aM ag hm
  have JA:(fn.name== "runtime.NumGoroutine")=false:=by
   simp only[wo,List.mem_cons,List.mem_nil_iff,or_false] at hm
   rcases hm with h|h|h|h<;>rw[h]<;>decide
  rw[run_callFunc_extern aM JA (by rw[ag];rfl) aT he];simp only[Sem.run_bind];rfl
 unfold vO at h
 split at h
 · rename_i n
   split at h
   · rename_i sf
     split at h
     · rename_i t aI
       split at h
       · rename_i e hu
         split at h
         · rename_i hle
           cases h
           have Ft:n<=1099511627776:=by simpa using hle
           obtain⟨u,us,rfl,J,ae⟩:=aW
           cases J;cases ae
           have bQ:∀(t:TypeId),(Question.appendCap n 0 t).forced=false:=λ_=>rfl
           obtain⟨cap,q7,Pw⟩:∃cap,(Question.appendCap n 0 e).cut (w.tape w.drawn (Question.appendCap n 0 e))=cap/\n<=cap:=⟨_,rfl,by simp[Question.cut]⟩
           obtain⟨Px,x_⟩:∃x,(Question.extern "internal/bytealg.MakeNoZero.bytes" 0).cut (w.drew.tape w.drew.drawn (Question.extern "internal/bytealg.MakeNoZero.bytes" 0))=x:=⟨_,rfl⟩
           have aH:=Pu cap Px #[]
           have wq:=ar.drew.drew
           obtain⟨bt,b3⟩:=wq.alloc (.cells (List.replicate n .bad) e .aX 0 0) (.cells (Extern.BytealgMakeNoZero.digits cap Px #[]) e) cap
            ⟨_,0,0,World.heap_alloc_new _ _,λj v aL=>by
              have ID:j<n:=by
               rcases Nat.lt_or_ge j n with h|h
               · exact h
               · rw[List.getElem?_eq_none (by simpa using h)] at aL;cases aL
              rw[List.getElem?_replicate,if_pos ID] at aL
              cases aL
              refine⟨_,Array.getElem?_eq_getElem (by rw[Nat.zero_add,aH];simp;omega),trivial⟩,by rw[aH];simp,by simpa using Pw,λj _ _ h=>by omega⟩
           refine⟨_,_,?_,h6 μ H.n ⟨w.drew.drew.heap.size,0,cap⟩,_,rfl,⟨_,h7 _ _ _,cap,rfl,Pw,by simp⟩,bt,cD.trans ar ar.drew cD.drew (cD.trans ar.drew wq cD.drew b3)⟩
           rw[call _ (by rw[sf];simp[wo]) (YJ sf)]
           have YR:¬((Int.ofNat n<0||Int.ofNat n>2^48)=true):=by
            have ae:(2:Int)^48=281474976710656:=by rfl
            have aq:Int.ofNat n=(n:Int):=rfl
            rw[ae,aq];simp only[Bool.or_eq_true,decide_eq_true_eq];omega
           have YS:(Question.extern "internal/bytealg.MakeNoZero.bytes" 0).forced=false:=rfl
           have YT:(Int.ofNat n).toNat=n:=rfl
           delta Extern.BytealgMakeNoZero.makeNoZero
           rw[YN]
           simp only[Sem.run_bind,aI,Sem.run_pure,b7 hu,Result.andThen_ok]
           rw[if_neg YR]
           simp only[Sem.run_bind,run_choose,YT,bQ,YS,Bool.false_eq_true,if_false,World.drew_eq,q7,Result.andThen_ok,run_askRoom,x_,Sem.run_pure]
           rfl
         · cases h
       · cases h
     · cases h
   · cases h
 · rename_i x _
   obtain⟨u,us,rfl,J,ae⟩:=aW
   cases ae
   split at h
   · rename_i sf
     cases h
     refine⟨u,w,?_,μ,u,rfl,J,ar,cD.refl _ _ _⟩
     rw[call _ (by rw[sf];simp[wo]) (YI sf)]
     rfl
   · split at h
     · rename_i sf
       split at h
       · rename_i t r
         split at h
         · rename_i es c aB
           cases h
           obtain⟨y,rfl,i,hi,rfl⟩:=J
           obtain⟨ents,aG,aE⟩:=ar.rel _ _ i aB hi
           have hle:=ar.r4 ⟨w.heap.size,0,0⟩
           obtain⟨bt,b3⟩:=ar.alloc (.map es c) (.map ⟨ents⟩ c) 0 ⟨ents,World.heap_alloc_new _ _,aE.mono hle⟩
           refine⟨_,_,?_,h6 μ H.n ⟨w.heap.size,0,0⟩,.iface _ (.map (some w.heap.size)),rfl,⟨.map (some w.heap.size),rfl,⟨w.heap.size,0,0⟩,h7 _ _ _,rfl⟩,bt,b3⟩
           rw[call _ (by rw[sf];simp[wo]) (YL sf)]
           have hG:(getObj i.bo).run P w=.ok (.map ⟨ents⟩ c) w:=by simp[getObj,Sem.run,aG]
           simp only[Sem.run_bind]
           rw[show(⟨[Value.iface _ (Value.map (some i.bo))]⟩:Array Value)=#[.iface _ (.map (some i.bo))] from rfl]
           delta Extern.MapsClone.clone
           rw[YO]
           simp only[Sem.run_bind,hG,Result.andThen_ok,run_newObj,Sem.run_pure]
           rfl
         · cases h
       · cases h
     · cases h
 · rename_i s c
   split at h
   · rename_i sf
     split at h
     · rename_i ak
       cases h
       have BY:c<256:=by simpa using ak
       obtain⟨u,us,rfl,J,ae⟩:=aW
       obtain⟨g9,YU,rfl,aq,aQ⟩:=ae
       cases aq;cases aQ
       obtain⟨t,rfl,rfl⟩:=J
       refine⟨_,w,?_,μ,_,rfl,rfl,ar,cD.refl _ _ _⟩
       rw[call _ (by rw[sf];simp[wo]) (YK sf)]
       have x_:(Int.ofNat c).toNat.toUInt8=UInt8.ofNat c:=rfl
       have heq:∀b:UInt8,(b==UInt8.ofNat c)=Nat.beq b.toNat c:=λb=>by
        rw[Bool.eq_iff_iff,beq_iff_eq,Nat.beq_eq,<-UInt8.toNat_inj]
        simp[Nat.mod_eq_of_lt BY]
       delta Extern.BytealgIndexByte.indexByte
       rw[YP]
       simp only[Sem.run_bind,Extern.Bytes.bytesOf,Extern.Bytes.asByte,Sem.run_pure,Result.andThen_ok,x_,heq]
       have aM:=YM t (λb=>Nat.beq b.toNat c)
       rw[aM,Pv]
       cases t.data.toList.findIdx? (λb=>Nat.beq b.toNat c) with
       |none=>rfl
       |some j=>
        simp only[Nat.zero_add]
        rfl
     · cases h
   · cases h
 · cases h
def kJ(P:Program)(intr:Nat->List aa->I->Option (aa×I)):Prop:=
 ∀f args H v a7,intr f args H=some (v,a7)->∀μ w (vs:List Value),bI μ H w->j1 P μ->cF μ args vs->x4 P f vs w (Ends μ H w (.ret v a7))
theorem YV{call:ht->List aa->I->a8}(ak:pf P call)(hdr:∀need cQ,wi P need cQ call)(gZ:Cu P)(Ah:FP P){f:Nat}{args:List aa}{H:I}(cu:(ta P call f args H).oq=true)
  {μ:bG}{w:World}{vs:List Value}(ar:bI μ H w)(aB:j1 P μ)(aW:cF μ args vs):x4 P f vs w (Ends μ H w (ta P call f args H)):=by
 unfold ta at cu⊢
 cases aM:P.funcs[f]? with
 |none=>rw[aM] at cu;cases cu
 |some fn=>
  rw[aM] at cu
  simp only at cu⊢
  cases ag:fn.body with
  |none=>
   rw[ag] at cu
   simp only at cu⊢
   cases ab:vO P fn fn.name args H with
   |none=>rw[ab] at cu;cases cu
   |some p=>
    obtain⟨v,a7⟩:=p
    obtain⟨u,w',J,ae⟩:=YQ aM ag Ah ab ar aW
    exact .inl ⟨u,w',J,ae⟩
  |some c=>
   rw[ag] at cu
   simp only at cu⊢
   obtain⟨FN,FO⟩:=gZ f fn c aM ag
   exact .inr ⟨FK aM ag FO _ _,Yz ak hdr gZ aM ag aW ar aB cu⟩
theorem Py{intr:Nat->List aa->I->Option (aa×I)}(hi:kJ P intr)(hdr:∀call,pf P call->∀need cQ,wi P need cQ call)(gZ:Cu P)(Ah:FP P):∀n,pf P (eA P intr n)
 |0=>⟨λf args H aB=>(by cases aB),λl args H aB=>(by cases aB)⟩
 |n+1=>by
  have bM:=Py hi hdr gZ Ah n
  refine⟨λf args H cu μ w vs ar aB aW=>?_,λl args H cu μ w i vs ar aB aA aW=>?_⟩
  · simp only[eA] at cu⊢
    cases ab:intr f args H with
    |some p=>
     obtain⟨v,a7⟩:=p
     exact hi f args H v a7 ab μ w vs ar aB aW
    |none=>
     rw[ab] at cu
     exact YV bM (hdr _ bM) gZ Ah cu ar aB aW
  · simp only[eA] at cu⊢
    exact YD bM (hdr _ bM) cu ar aB aA aW
end
end aJ
namespace aJ
open Go
def ya(ops:Array Oper)(S:List Nat):List Nat->Prop
 |[]=>∀i,i<ops.size->i∈S
 |i::rest=>i<ops.size/\i∉S/\(∀o,ops[i]? =some o->∀e∈o.after,Region.binds .any e=true->e.on∈S)/\ya ops (i::S) rest
theorem filter_lt{p q:Nat->Bool}(JB:∀x,q x=true->p x=true):∀(l:List Nat) {i:Nat},i∈l->p i=true->q i=false->(l.filter q).length<(l.filter p).length
 |[],i,h,_,_=>by cases h
 |a::l,i,h,a3,bB=>by
  have hle:∀l:List Nat,(l.filter q).length<=(l.filter p).length:=λl=>by
   induction l with
   |nil=>simp
   |cons b l bM=>
    simp only[List.filter_cons]
    cases ag:q b with
    |true=>simp[JB b ag];exact bM
    |false=>cases p b<;>simp<;>omega
  rcases List.mem_cons.1 h with rfl|h
  · have:=hle l
    simp only[List.filter_cons,a3,bB,if_true,Bool.false_eq_true,if_false,List.length_cons];omega
  · have bM:=filter_lt JB l h a3 bB
    simp only[List.filter_cons]
    cases ag:q a with
    |true=>simp[JB a ag];exact bM
    |false=>cases p a<;>simp<;>omega
theorem YW{ops:Array Oper}(wu:∀o i,ops[i]? =some o->r2 o i=true){listed:Array Bool}(bQ:listed.size=ops.size)(aj:Region.ready .any ops listed=[]):∀i,i<ops.size->listed.getD i true=true:=by
 intro i
 induction i using Nat.strongRecOn with
 |ind i bM=>
  intro hi
  cases aA:listed.getD i true with
  |true=>rfl
  |false=>
   have bg:ops[i]? =some ops[i]:=Array.getElem?_eq_getElem hi
   have:i∈Region.ready .any ops listed:=mem_ready.2 ⟨aA,ops[i],bg,λe he ag=>by
    have:=wu _ _ bg
    unfold r2 at this
    rw[List.all_eq_true] at this
    have ae:=this e (by simpa using he)
    simp only[ag,Bool.not_true,Bool.false_or,Nat.blt_eq] at ae
    have aq:=bM e.on ae (by omega)
    have cf:e.on<listed.size:=by omega
    simp[cf] at aq⊢
    exact aq⟩
   rw[aj] at this;cases this
theorem Pz{ops:Array Oper}(wu:∀o i,ops[i]? =some o->r2 o i=true):∀(fuel t:Nat) (listed:Array Bool) (S:List Nat),listed.size=ops.size->(∀i,i<ops.size->(listed.getD i true=true<->i∈S))->
  ((List.range ops.size).filter λi=>!listed.getD i true).length<=fuel->ya ops S (Region.linearise.go .any ops fuel t listed [])
 |0,t,listed,S,bQ,cS,aM=>by
  simp only[Region.linearise.go,List.reverse_nil,ya]
  intro i hi
  rw[<-cS i hi]
  have h0:((List.range ops.size).filter λi=>!listed.getD i true)=[]:=List.length_eq_zero_iff.1 (Nat.le_zero.1 aM)
  rw[List.filter_eq_nil_iff] at h0
  have:=h0 i (List.mem_range.2 hi)
  simpa using this
 |fuel+1,t,listed,S,bQ,cS,aM=>by
  simp only[Region.linearise.go]
  change ya ops S (match(Region.ready .any ops listed)[t %(Region.ready .any ops listed).length]? with
   |some i=>Region.linearise.go .any ops fuel (t/(Region.ready .any ops listed).length) (listed.setIfInBounds i true) [i]
   |none=>[].reverse)
  cases hi:(Region.ready .any ops listed)[t %(Region.ready .any ops listed).length]? with
  |none=>
   have Cw:Region.ready .any ops listed=[]:=by
    cases aj:Region.ready .any ops listed with
    |nil=>rfl
    |cons x xs=>
     rw[aj] at hi
     have cf:t %(x::xs).length<(x::xs).length:=Nat.mod_lt _ (by simp)
     rw[List.getElem?_eq_getElem cf] at hi;cases hi
   simp only[List.reverse_nil,ya]
   exactλi h=>(cS i h).1 (YW wu bQ Cw i h)
  |some i=>
   simp only[]
   rw[linearise_go_acc,List.reverse_singleton,List.singleton_append]
   obtain⟨J,o,ae,aq⟩:=mem_ready.1 (List.mem_of_getElem? hi)
   have cf:i<ops.size:=(Array.getElem?_eq_some_iff.1 ae).1
   have IQ:i<listed.size:=by omega
   have uz:∀j d,(listed.setIfInBounds i true).getD j d=if j=i then true else listed.getD j d:=λj d=>by
    simp only[Array.getD_eq_getD_getElem?,Array.getElem?_setIfInBounds]
    by_cases e:i=j
    · subst e;simp[IQ]
    · rw[if_neg e,if_neg (λh=>e h.symm)]
   refine⟨cf,λh=>?_,λo' ko e he ag=>?_,Pz wu fuel _ _ _ (by simpa using bQ) (λj aL=>?_) ?_⟩
   · have:=(cS i cf).2 h
     rw[J] at this;cases this
   · rw[ae] at ko;cases ko
     have aQ:=aq e he ag
     have FQ:e.on<listed.size:=by
      rcases Nat.lt_or_ge e.on listed.size with h|h
      · exact h
      · simp[Array.getElem?_eq_none h] at aQ
     rw[<-cS e.on (by omega)]
     simp[FQ] at aQ⊢
     exact aQ
   · rw[uz,List.mem_cons]
     by_cases e:j=i
     · simp[e]
     · rw[if_neg e,cS j aL];simp[e]
   · have yb:((List.range ops.size).filter λj=>!(listed.setIfInBounds i true).getD j true).length<((List.range ops.size).filter λj=>!listed.getD j true).length:=
       filter_lt (λx ab=>by
        rw[uz] at ab
        by_cases e:x=i
        · rw[if_pos e] at ab;cases ab
        · rw[if_neg e] at ab;exact ab) _ (List.mem_range.2 cf) (by rw[J];rfl) (by rw[uz,if_pos rfl];rfl)
     omega
theorem YX{ops:Array Oper}(wu:∀o i,ops[i]? =some o->r2 o i=true)(t:Nat):ya ops [] (Region.schedule true ops t):=by
 simp only[Region.schedule,Bool.true_or,if_true,Region.linearise]
 refine Pz wu ops.size t _ [] (by simp) (λi hi=>by simp[hi]) ?_
 refine Nat.le_trans (List.length_filter_le _ _) (by simp)
section
variable {P:Program} {g fT:Operand->aa}
theorem JC{o:Option Operand}(h:∀x∈o.toArray,g x=fT x):o.map g=o.map fT:=by
 cases o with
 |none=>rfl
 |some x=>simp[h x (by simp)]
theorem Cx(o:Oper)(H:I)(h:∀x∈o.op.operands,g x=fT x):dg P o g H=dg P o fT H:=by
 obtain⟨dst,op,type,pos,after,guard⟩:=o
 have FR:∀ps:Array (Nat×Operand),(∀x∈ps.map (·.2),g x=fT x)->(ps.toList.map λp=>(p.1,g p.2))=(ps.toList.map λp=>(p.1,fT p.2)):=λps a3=>
  List.map_congr_left λp hm=>by rw[a3 p.2 (Array.mem_map.2 ⟨p,by simpa using hm,rfl⟩)]
 cases op<;>simp only[Op.operands] at h<;>unfold dg
 case build t ps=>simp only[FR ps λx ab=>h x (by simpa using ab)]
 case buildSlice t n ps=>simp only[FR ps λx ab=>h x (by simpa using ab)]
 case makeFunc fn first captured=>
  simp only[List.map_congr_left (l:=first.toList) λx ab=>h x (by simp at ab;simp[ab]),List.map_congr_left (l:=captured.toList) λx ab=>h x (by simp at ab;simp[ab])]
 case call c=>
  have a_:c.args.toList.map g=c.args.toList.map fT:=List.map_congr_left λx ab=>h x (by simp at ab;simp[Call.operands,ab])
  simp only[a_]
  cases ak:c.callee with
  |value f=>have aM:g f=fT f:=h f (by simp[Call.operands,ak]);simp only[aM]
  |invoke r m=>have aj:g r=fT r:=h r (by simp[Call.operands,ak]);simp only[aj]
  |builtin b=>rfl
 case defer c=>
  have a_:c.args.toList.map g=c.args.toList.map fT:=List.map_congr_left λx ab=>h x (by simp at ab;simp[Call.operands,ab])
  simp only[a_]
  cases ak:c.callee with
  |value f=>have aM:g f=fT f:=h f (by simp[Call.operands,ak]);simp only[aM]
  |invoke r m=>rfl
  |builtin b=>rfl
 case makeMap t r=>cases r<;>simp_all
 case slice t x lo hi mx=>
  have aG:lo.map g=lo.map fT:=JC λy bH=>h y (by simp at bH;simp[bH])
  have aE:hi.map g=hi.map fT:=JC λy bH=>h y (by simp at bH;simp[bH])
  have br:mx.map g=mx.map fT:=JC λy bH=>h y (by simp at bH;simp[bH])
  have dw:g x=fT x:=h x (by simp)
  have hh:∀o:Option Operand,(o.map λo=>kindName (g o))=(o.map g).map kindName:=λo=>by cases o<;>rfl
  have h8:∀o:Option Operand,(o.map λo=>kindName (fT o))=(o.map fT).map kindName:=λo=>by cases o<;>rfl
  simp only[aG,aE,br,dw,hh,h8]
 all_goals (first|rfl|(simp_all;done))
theorem Cy(o:Op)(b:Nat)(h:∀x∈o.operands,g x=fT x):ki P o g b=ki P o fT b:=by
 have FR:∀ps:Array (Nat×Operand),(∀x∈ps.map (·.2),g x=fT x)->(ps.toList.map λp=>(p.1,g p.2))=(ps.toList.map λp=>(p.1,fT p.2)):=λps a3=>
  List.map_congr_left λp hm=>by rw[a3 p.2 (Array.mem_map.2 ⟨p,by simpa using hm,rfl⟩)]
 cases o<;>simp only[Op.operands] at h<;>unfold ki
 case buildSlice t n ps=>simp only[FR ps λx ab=>h x (by simpa using ab)]
 case makeMap t r=>cases r<;>rfl
 all_goals (first|rfl|(simp_all;done))
theorem YY{o:Oper}{H a7:I}{v:aa}(ai:kindOf P o.op=.pure)(h:dg P o g H=.val v a7):a7=H:=by
 have iQ:∀{w:String} {x:Option aa},hv H w x=.val v a7->a7=H:=λ{w x} e=>by
  cases x with
  |none=>cases e
  |some y=>cases e;rfl
 obtain⟨dst,op,type,pos,after,guard⟩:=o
 cases op<;>simp only[kindOf] at ai<;>(try (cases ai;done))<;>unfold dg at h<;>simp only at h
 case move=>cases h;rfl
 case assign=>cases h;rfl
 case pick=>
  split at h
  · cases h;rfl
  · cases h;rfl
  · cases h
 case build=>
  repeat' (first|contradiction|(cases h;rfl)|(cases h;done)|split at h)
 case load=>
  repeat' (first|contradiction|(cases h;rfl)|(cases h;done)|exact iQ h|split at h)
 case nilCheck=>repeat' (first|contradiction|(cases h;rfl)|(cases h;done)|exact iQ h|split at h)
 case binOp=>exact iQ h
 case unOp=>repeat' (first|contradiction|(cases h;rfl)|(cases h;done)|exact iQ h|split at h)
 case convert s d x=>
  have dk:∀e,P.underlying d≠some (.slice e):=λe he=>by rw[he] at ai;cases ai
  unfold df at h
  repeat' (first|exact absurd (by assumption) (dk _)|(cases h;rfl)|(cases h;done)|split at h)
 case makeInterface=>repeat' (first|contradiction|(cases h;rfl)|(cases h;done)|exact iQ h|split at h)
 case makeFunc=>repeat' (first|contradiction|(cases h;rfl)|(cases h;done)|exact iQ h|split at h)
 case makeMap r=>cases r<;>cases ai
 case slice=>exact iQ h
 case fieldAddr=>repeat' (first|contradiction|(cases h;rfl)|(cases h;done)|exact iQ h|split at h)
 case field=>repeat' (first|contradiction|(cases h;rfl)|(cases h;done)|exact iQ h|split at h)
 case indexAddr=>repeat' (first|contradiction|(cases h;rfl)|(cases h;done)|exact iQ h|split at h)
 case index=>repeat' (first|contradiction|(cases h;rfl)|(cases h;done)|exact iQ h|split at h)
 case lookup=>exact iQ h
 case typeAssert=>repeat' (first|contradiction|(cases h;rfl)|(cases h;done)|exact iQ h|split at h)
 case extract=>repeat' (first|contradiction|(cases h;rfl)|(cases h;done)|exact iQ h|split at h)
 case call c=>
  cases ak:c.callee with
  |value f=>rw[ak] at ai;cases ai
  |invoke r m=>rw[ak] at ai;cases ai
  |builtin b=>
   rw[ak] at ai h
   simp only at h
   cases b<;>simp only at ai<;>(try (cases ai;done))<;>unfold kX at h<;>simp only at h
   all_goals repeat' (first|contradiction|(cases h;rfl)|(cases h;done)|exact iQ h|split at h)
end
end aJ
namespace aJ
open Go
def m3(ops:Array Oper)(S:List Nat)(j:Nat):Prop:=∀o,ops[j]? =some o->∀e∈o.after,Region.binds .any e=true->e.on∈S
def FT(ops:Array Oper)(S:List Nat):Prop:=∀j∈S,m3 ops S j
def Sound(ops:Array Oper)(j m:Nat):Prop:=∀S,FT ops S->m3 ops S j->∀b,Nat.testBit m b=true->b∈S
def Cz(ops:Array Oper)(n:Nat)(iq:List Nat):Prop:=∀j,j<n->∃m,nth (n-1-j) iq=some m/\Sound ops j m
theorem YZ(a b:Nat)(h:Nat.testBit (1<<<a) b=true):b=a:=by
 rw[Nat.shiftLeft_eq,Nat.one_mul,Nat.testBit_two_pow] at h
 exact(of_decide_eq_true h).symm
theorem PA{iq:List Nat}{n:Nat}:∀(l:List Edge) (s b:Nat),Nat.testBit (l.foldl (λs e=>match Region.binds .any e with
  |true=>s|||1<<<e.on|||(nth (n-1-e.on) iq).getD 0
  |false=>s) s) b=true->Nat.testBit s b=true\/∃e∈l,Region.binds .any e=true/\(b=e.on\/Nat.testBit ((nth (n-1-e.on) iq).getD 0) b=true)
 |[],s,b,h=>.inl h
 |e::l,s,b,h=>by
  rw[List.foldl_cons] at h
  rcases PA l _ b h with h|⟨b0,J,ae⟩
  · cases ag:Region.binds .any e with
    |false=>rw[ag] at h;exact .inl h
    |true=>
     rw[ag] at h
     simp only[Nat.testBit_or,Bool.or_eq_true] at h
     rcases h with(h|h)|h
     · exact .inl h
     · exact .inr ⟨e,by simp,ag,.inl (YZ _ _ h)⟩
     · exact .inr ⟨e,by simp,ag,.inr h⟩
  · exact .inr ⟨b0,by simp[J],ae⟩
theorem Y0{ops:Array Oper}{iq:List Nat}{n:Nat}{o:Oper}(bg:ops[n]? =some o)(ag:r2 o n=true)(hm:Cz ops n iq):Sound ops n (BR iq n o):=by
 intro S cS aj b h
 unfold BR at h
 rw[<-Array.foldl_toList] at h
 rcases PA _ _ _ h with h|⟨e,J,ae,aq⟩
 · simp at h
 · have he:e∈o.after:=by simpa using J
   have FQ:=aj o bg e he ae
   rcases aq with rfl|aq
   · exact FQ
   · have cf:e.on<n:=by
       unfold r2 at ag
       rw[List.all_eq_true] at ag
       have:=ag e J
       simpa[ae] using this
     obtain⟨m,eB,lL⟩:=hm e.on cf
     rw[eB] at aq
     exact lL S cS (cS _ FQ) b aq
theorem Cz.cons{ops:Array Oper}{iq:List Nat}{n m:Nat}(h:Cz ops n iq)(ah:Sound ops n m):Cz ops (n+1) (m::iq):=by
 intro j aL
 by_cases e:j=n
 · subst e;exact⟨m,by simp[nth],ah⟩
 · obtain⟨x9,J,ae⟩:=h j (by omega)
   refine⟨x9,?_,ae⟩
   have:n+1-1-j=(n-1-j)+1:=by omega
   rw[this];exact J
theorem PB:∀(l:List Oper) (n:Nat) (loc:List (Nat×Acc)) (k:Nat) (o:Oper),l[k]? =some o->kY (l.take (k+1)) n loc=o4 o (n+k) (kY (l.take k) n loc)
 |[],n,loc,k,o,h=>by simp at h
 |x::l,n,loc,0,o,h=>by simp at h;subst h;simp[kY]
 |x::l,n,loc,k+1,o,h=>by
  have ay:l[k]? =some o:=by simpa using h
  have bM:=PB l (n+1) (o4 x n loc) k o ay
  simp only[List.take_succ_cons,kY]
  rw[bM]
  have:n+1+k=n+(k+1):=by omega
  rw[this]
theorem CA{ops:Array Oper}:∀(l:List Oper) (n:Nat) (loc:List (Nat×Acc)) (iq:List Nat),(∀k,l[k]? =ops[n+k]?)->(∀s∈fW l n loc iq,r2 s.o s.i=true)->Cz ops n iq->∀(k:Nat) (o:Oper),l[k]? =some o->
  ∃s,(fW l n loc iq)[k]? =some s/\s.i=n+k/\s.o=o/\s.loc=kY (l.take k) n loc/\Sound ops (n+k) s.fL
 |[],n,loc,iq,aA,he,hm,k,o,h=>by simp at h
 |x::l,n,loc,iq,aA,he,hm,k,o,h=>by
  simp only[fW] at he⊢
  have ab:ops[n]? =some x:=by have:=aA 0;simpa using this.symm
  have ag:r2 x n=true:=he ⟨n,x,BR iq n x,loc⟩ (by simp)
  have ah:=Y0 ab ag hm
  cases k with
  |zero=>
   simp at h;subst h
   exact⟨_,rfl,rfl,rfl,rfl,ah⟩
  |succ k=>
   obtain⟨s,J,ae,aq,aQ,bj⟩:=CA l (n+1) (o4 x n loc) (BR iq n x::iq) (λj=>by have:=aA (j+1);simp at this;rw[this];congr 1;omega) (λs ah=>he s (by simp[ah])) (hm.cons ah) k o (by simpa using h)
   exact⟨s,by simpa using J,by omega,aq,by simpa[kY] using aQ,by rw[show n+(k+1)=n+1+k by omega];exact bj⟩
theorem JD:∀(l:List Oper) (n:Nat) (loc:List (Nat×Acc)) (iq:List Nat),(fW l n loc iq).length=l.length
 |[],_,_,_=>rfl
 |x::l,n,loc,iq=>by simp[fW,JD l]
theorem Ai{ops:Array Oper}:∀{l:List DStep},uv ops l=true->∀s∈l,r2 s.o s.i=true
 |[],_,s,h=>by cases h
 |x::l,aH,s,h=>by
  simp only[uv,Bool.and_eq_true] at aH
  rcases List.mem_cons.1 h with rfl|h
  · exact aH.1.1
  · exact Ai aH.2 s h
theorem PC{ops:Array Oper}{s:DStep}:∀{l:List DStep},Fb ops s l=true->∀bF∈l,(∃t,s.o.dst=some t/\t∈o7 ops bF.o)\/(∃t,bF.o.dst=some t/\t∈o7 ops s.o)->Nat.testBit bF.fL s.i=true
 |[],_,bF,h=>by cases h
 |x::l,aH,bF,h=>by
  simp only[Fb,Bool.and_eq_true] at aH
  rcases List.mem_cons.1 h with rfl|h
  · intro aT
    have J:=aH.1
    split at J
    · exact J
    · rename_i ak
      exfalso
      rw[Bool.or_eq_false_iff] at ak
      rcases aT with⟨t,e,hm⟩|⟨t,e,hm⟩
      · have:=ak.1;rw[e] at this;simp[hm] at this
      · have:=ak.2;rw[e] at this;simp[hm] at this
  · exact PC aH.2 bF h
theorem PD{ops:Array Oper}:∀{l:List DStep},uv ops l=true->∀(i j:Nat) (s bF:DStep),i<j->l[i]? =some s->l[j]? =some bF->(∃t,s.o.dst=some t/\t∈o7 ops bF.o)\/(∃t,bF.o.dst=some t/\t∈o7 ops s.o)->Nat.testBit bF.fL s.i=true
 |[],_,i,j,s,bF,_,h,_=>by simp at h
 |x::l,aH,i,j,s,bF,p8,J,ae=>by
  simp only[uv,Bool.and_eq_true] at aH
  cases j with
  |zero=>omega
  |succ j=>
   have PE:l[j]? =some bF:=by simpa using ae
   cases i with
   |zero=>
    simp at J;subst J
    exact PC aH.1.2 bF (List.mem_of_getElem? PE)
   |succ i=>exact PD aH.2 i j s bF (by omega) (by simpa using J) PE
structure yc where
 env:List aa
 d:List cc
 q:cm
 h:I
 bp:List (Nat×Nat×I)
section
variable {P:Program} {need:Nat} {inR:Bool} {call:ht->List aa->I->a8} {ops:Array Oper} {r:bf} {bE:Nat}
def iu(P:Program)(need:Nat)(r:bf)(s:DStep)(env:List aa):Operand->aa:=λx=>ed s.i env r (c7 P need s.loc x)
inductive yd(P:Program)(need:Nat)(inR:Bool)(call:ht->List aa->I->a8)(ops:Array Oper)(r:bf)(bE:Nat)(s:DStep)(st:yc):yc->Prop where
 |ye (ai:kindOf P s.o.op=.alloc) (hw:fj (gY P need ops r s.i st.env s)=some false):yd P need inR call ops r bE s st {st with env:=.aF []::st.env}
 |alloc {v:aa} {ob:b5} (ai:kindOf P s.o.op=.alloc) (hw:fj (gY P need ops r s.i st.env s)=some true) (a_:ki P s.o.op (iu P need r s st.env) (bE+s.i)=some (v,ob)):
   yd P need inR call ops r bE s st {st with env:=v::st.env,h:=st.h.set (bE+s.i) (some ob)}
 |pure {v:aa} {bT:List cc} {bZ:cm} {ay:I} (ai:kindOf P s.o.op=.pure) (he:e4 P inR call (gY P need ops r s.i st.env s) s.o (iu P need r s st.env) st.d st.q st.h=.ok v bT bZ ay):
   yd P need inR call ops r bE s st {st with env:=v::st.env}
 |fq {v:aa} {bT:List cc} {bZ:cm} {ay:I} (ai:kindOf P s.o.op=.fq) (bg:∀e m h0 l,st.bp=(e,m,h0)::l->Nat.testBit s.fL e=true)
   (he:e4 P inR call (gY P need ops r s.i st.env s) s.o (iu P need r s st.env) st.d st.q st.h=.ok v bT bZ ay):yd P need inR call ops r bE s st ⟨v::st.env,bT,bZ,ay,(s.i,s.fL,st.h)::st.bp⟩
theorem Y1{s:DStep}{rest:List DStep}{st:yc}{x:Ix}(h:h4 P need inR call ops r bE (s::rest) st.env st.d st.q st.h st.bp=x)(aM:∀w,x≠ .fail w):
  (∃cv,yd P need inR call ops r bE s st cv/\h4 P need inR call ops r bE rest cv.env cv.d cv.q cv.h cv.bp=x)\/
  (kindOf P s.o.op=.fq/\(∀e m h0 l,st.bp=(e,m,h0)::l->Nat.testBit s.fL e=true)/\rest.all (λbF=>Nat.testBit bF.fL s.i)=true/\
   ∃v bT bZ ay,e4 P inR call (gY P need ops r s.i st.env s) s.o (iu P need r s st.env) st.d st.q st.h=.aK v bT bZ ay/\x=.aK v st.env bT bZ ay ((s.i,s.fL,st.h)::st.bp)):=by
 simp only[h4] at h
 split at h
 · rename_i ai
   split at h
   · exact absurd h.symm (aM _)
   · rename_i hw;exact .inl ⟨_,.ye ai hw,h⟩
   · rename_i hw
     split at h
     · rename_i v ob a_;exact .inl ⟨_,.alloc ai hw a_,h⟩
     · exact absurd h.symm (aM _)
 · rename_i ai
   split at h
   · rename_i he;exact .inl ⟨_,.pure ai he,h⟩
   · exact absurd h.symm (aM _)
   · exact absurd h.symm (aM _)
 · rename_i ai
   split at h
   · exact absurd h.symm (aM _)
   · rename_i bg
     have ko:∀e m h0 l,st.bp=(e,m,h0)::l->Nat.testBit s.fL e=true:=λe m h0 l ah=>by rw[ah] at bg;exact bg
     split at h
     · rename_i he;exact .inl ⟨_,.fq ai ko he,h⟩
     · rename_i he
       split at h
       · rename_i gZ;exact .inr ⟨ai,ko,gZ,_,_,_,_,he,h.symm⟩
       · exact absurd h.symm (aM _)
     · exact absurd h.symm (aM _)
theorem PF:∀(l:List DStep) (st:yc) (x:Ix),h4 P need inR call ops r bE l st.env st.d st.q st.h st.bp=x->(∀w,x≠ .fail w)->
  ∃(f:Nat->yc) (N:Nat),f 0=st/\N<=l.length/\(∀k s,k<N->l[k]? =some s->yd P need inR call ops r bE s (f k) (f (k+1)))/\
   ((N=l.length/\x=.ok (f N).env (f N).d (f N).q (f N).h (f N).bp)\/
    (∃s,l[N]? =some s/\kindOf P s.o.op=.fq/\(∀e m h0 l,(f N).bp=(e,m,h0)::l->Nat.testBit s.fL e=true)/\(∀k bF,N<k->l[k]? =some bF->Nat.testBit bF.fL s.i=true)/\
     ∃v bT bZ ay,e4 P inR call (gY P need ops r s.i (f N).env s) s.o (iu P need r s (f N).env) (f N).d (f N).q (f N).h=.aK v bT bZ ay/\x=.aK v (f N).env bT bZ ay ((s.i,s.fL,(f N).h)::(f N).bp)))
 |[],st,x,h,aM=>⟨λ_=>st,0,rfl,Nat.le_refl _,λk s ai=>by omega,.inl ⟨rfl,h.symm⟩⟩
 |s::l,st,x,h,aM=>by
  rcases Y1 h aM with⟨cv,J,ae⟩|⟨J,ae,aq,aQ⟩
  · obtain⟨f,N,al,aw,a1,a5⟩:=PF l cv x ae aM
    refine⟨λk=>match k with|0=>st|k+1=>f k,N+1,rfl,by simpa using aw,λk bF ai ah=>?_,?_⟩
    · cases k with
      |zero=>simp at ah;subst ah;simp only[Nat.zero_add,al];exact J
      |succ k=>exact a1 k bF (by omega) (by simpa using ah)
    · rcases a5 with⟨aG,aE⟩|⟨s2,aG,aE,br,dw,hh⟩
      · exact .inl ⟨by simp[aG],aE⟩
      · refine .inr ⟨s2,by simpa using aG,aE,br,λk bF ai ah=>?_,hh⟩
        cases k with
        |zero=>omega
        |succ k=>exact dw k bF (by omega) (by simpa using ah)
  · refine⟨λ_=>st,0,rfl,by simp,λk s ai=>by omega,.inr ⟨s,rfl,J,ae,λk bF ai ah=>?_,aQ⟩⟩
    cases k with
    |zero=>omega
    |succ k=>
     rw[List.all_eq_true] at aq
     exact aq bF (List.mem_of_getElem? (by simpa using ah))
mutual
theorem beq_eq:∀(a c:aa),aa.beq a c=true->a=c
 |.bool a,c,h=>by
  cases c<;>simp only[aa.beq] at h<;>first|(cases h;done)|(simp at h;subst h;rfl)
 |.int k n,c,h=>by
  cases c<;>simp only[aa.beq] at h<;>first|(cases h;done)|(simp[jM] at h;obtain⟨rfl,rfl⟩:=h;rfl)
 |.str s,c,h=>by
  cases c<;>simp only[aa.beq] at h<;>first|(cases h;done)|(rw[o_] at h;simp at h;subst h;rfl)
 |.au,c,h=>by cases c<;>simp only[aa.beq] at h<;>first|(cases h;done)|rfl
 |.ptr x y,c,h=>by
  cases c<;>simp only[aa.beq] at h<;>first|(cases h;done)|(rw[Bool.and_eq_true,Nat.beq_eq,Nat.beq_eq] at h;obtain⟨rfl,rfl⟩:=h;rfl)
 |.ao,c,h=>by cases c<;>simp only[aa.beq] at h<;>first|(cases h;done)|rfl
 |.slice x y z cap,c,h=>by
  cases c<;>simp only[aa.beq] at h<;>(try (cases h;done))
  rename_i et Ww wv PG
  simp only[Bool.and_eq_true,Nat.beq_eq] at h
  obtain⟨⟨⟨rfl,rfl⟩,rfl⟩,h⟩:=h
  cases cap<;>cases PG<;>simp only[dn.beq] at h<;>first|(cases h;done)|(rw[Nat.beq_eq] at h;subst h;rfl)|rfl
 |.jA,c,h=>by cases c<;>simp only[aa.beq] at h<;>first|(cases h;done)|rfl
 |.map x,c,h=>by
  cases c<;>simp only[aa.beq] at h<;>first|(cases h;done)|(rw[Nat.beq_eq] at h;subst h;rfl)
 |.lg,c,h=>by cases c<;>simp only[aa.beq] at h<;>first|(cases h;done)|rfl
 |.fn x as bs,c,h=>by
  cases c<;>simp only[aa.beq] at h<;>(try (cases h;done))
  simp only[Bool.and_eq_true,Nat.beq_eq] at h
  obtain⟨⟨rfl,J⟩,ae⟩:=h
  rw[wx _ _ J,wx _ _ ae]
 |.gJ x,c,h=>by
  cases c<;>simp only[aa.beq] at h<;>first|(cases h;done)|(rw[Nat.beq_eq] at h;subst h;rfl)
 |.c3,c,h=>by cases c<;>simp only[aa.beq] at h<;>first|(cases h;done)|rfl
 |.iface t v,c,h=>by
  cases c<;>simp only[aa.beq] at h<;>(try (cases h;done))
  simp only[Bool.and_eq_true,Nat.beq_eq] at h
  obtain⟨rfl,J⟩:=h
  rw[beq_eq _ _ J]
 |.agg cs,c,h=>by
  cases c<;>simp only[aa.beq] at h<;>(try (cases h;done))
  rw[wx _ _ h]
 |.aF cs,c,h=>by
  cases c<;>simp only[aa.beq] at h<;>(try (cases h;done))
  rw[wx _ _ h]
 |.bad,c,h=>by cases c<;>simp only[aa.beq] at h<;>cases h
theorem wx:∀(a c:List aa),aa.o5 a c=true->a=c
 |[],[],_=>rfl
 |[],_::_,h=>by simp[aa.o5] at h
 |_::_,[],h=>by simp[aa.o5] at h
 |x::a,y::c,h=>by
  simp only[aa.o5,Bool.and_eq_true] at h
  rw[beq_eq _ _ h.1,wx _ _ h.2]
end
end
end aJ
