/-
  THE ABSTRACT EVALUATOR (code, functions, rounds, calls): a deterministic semantics of loaded code, and the proof that its runs are runs of the program in the model, whatever the tape draws. No condition.
-/
import Derived.Test.YtjkomfonmcmgdaaGreatDoorAeb
import Derived.Defers
import Derived.Laws.Externs
import Derived.Orders
set_option linter.unusedVariables false
set_option linter.unusedSimpArgs false
namespace aP
open Go
def lZ(P:Program)(need:Nat)(ops:Array Oper):List Oper->List (Nat×Acc)->Nat->List Step
 |[],_,_=>[]
 |o::rest,loc,m=>
  match aliasOf o with
  |some (t,x)=>lZ P need ops rest ((t,cJ P need loc x)::loc) m
  |none=>⟨jH P need ops loc o,o,loc,m⟩::lZ P need ops rest (hh o m loc) (m+1)
def k1(P:Program)(need:Nat)(ops:Array Oper):List Oper->List (Nat×Acc)->Nat->List (Nat×Acc)
 |[],loc,_=>loc
 |o::rest,loc,m=>
  match aliasOf o with
  |some (t,x)=>k1 P need ops rest ((t,cJ P need loc x)::loc) m
  |none=>k1 P need ops rest (hh o m loc) (m+1)
theorem Dz(P:Program)(need:Nat)(ops:Array Oper):∀(l:List Oper) (loc:List (Nat×Acc)) (st:List Step) (m:Nat),uU P need ops l loc st m=⟨st.reverse++lZ P need ops l loc m,k1 P need ops l loc m⟩
 |[],loc,st,m=>by simp[uU,lZ,k1]
 |o::rest,loc,st,m=>by
  unfold uU lZ k1
  cases aT:aliasOf o with
  |some p=>obtain⟨t,x⟩:=p;simp only[aT];exact Dz P need ops rest _ st m
  |none=>simp only[aT];rw[Dz P need ops rest];simp
section
variable {P:Program} {need:Nat}
theorem om(t u:Nat)(a:Acc)(l:List (Nat×Acc)):h5 t ((u,a)::l)=if t=u then some a else h5 t l:=by
 rw[h5]
 by_cases h:t=u
 · subst h;simp
 · have:Nat.beq t u=false:=by
     cases ae:Nat.beq t u with
     |false=>rfl
     |true=>exact absurd (Nat.eq_of_beq_eq_true ae) h
   rw[this,if_neg h]
def Acc.below(m:Nat):Acc->Prop
 |.env j=>j<m
 |_=>True
theorem Ro{m:Nat}{env:List I}{r:aY}{v:I}{a:Acc}(h:a.below m):dx (m+1) (v::env) r a=dx m env r a:=by
 cases a with
 |env j=>
  simp only[Acc.below] at h
  have:m+1-1-j=(m-1-j)+1:=by omega
  simp only[dx,this,nth]
 |reg p=>rfl
 |val v=>rfl
theorem Rp{m:Nat}{env:List I}{r:aY}{v:I}:dx (m+1) (v::env) r (.env m)=v:=by
 simp[dx,nth]
def DA(m:Nat)(loc:List (Nat×Acc)):Prop:=∀t a,h5 t loc=some a->a.below m
theorem Az{m:Nat}{loc:List (Nat×Acc)}(h:DA m loc)(x:Operand):(cJ P need loc x).below m:=by
 cases x with
 |tmp t=>
  simp only[cJ]
  cases hf:h5 t loc with
  |some a=>exact h t a hf
  |none=>simp only[];cases Nat.testBit need t<;>trivial
 |const v=>trivial
 |global g=>simp only[cJ];cases Nat.blt g P.globals.size<;>trivial
 |func f=>trivial
theorem Acc.IV{m n:Nat}(h:m<=n){a:Acc}(aT:a.below m):a.below n:=by
 cases a with
 |env j=>exact Nat.lt_of_lt_of_le aT h
 |reg p=>trivial
 |val v=>trivial
structure jr(P:Program)(need:Nat)(μ:bq)(r:aY)(m:Nat)(env:List I)(loc:List (Nat×Acc))(cg:Array Value):Prop where
 va:DA m loc
 rel:∀t,bm μ (dx m env r (cJ P need loc (.tmp t))) (cg.getD t undef)
theorem jr.mono{μ aX:bq}{r:aY}{m:Nat}{env:List I}{loc:List (Nat×Acc)}{cg:Array Value}(hle:e8 μ aX)(h:jr P need μ r m env loc cg):jr P need aX r m env loc cg:=⟨h.va,λt=>(h.rel t).mono hle⟩
theorem jr.eval{μ:bq}{r:aY}{m:Nat}{env:List I}{loc:List (Nat×Acc)}{a:Act}(h:jr P need μ r m env loc a.tmps)(al:hn P μ)(x:Operand):bm μ (dx m env r (cJ P need loc x)) (a.eval x):=by
 cases x with
 |tmp t=>exact h.rel t
 |const v=>exact j9 μ v
 |global g=>
  simp only[cJ,Act.eval]
  cases ae:Nat.blt g P.globals.size with
  |false=>exact trivial
  |true=>
   obtain⟨i,ab,ad,ar⟩:=al g (by simpa using ae)
   obtain⟨hl,i0,xI⟩:=i
   simp only at ad ar
   subst ad;subst ar
   exact⟨_,ab,rfl⟩
 |func f=>exact⟨[],[],rfl,rfl,rfl⟩
theorem jr.init{μ:bq}{r:aY}{cg:Array Value}(h:iE need μ r cg):jr P need μ r 0 [] [] cg:=
 ⟨λt a h=>by simp[h5] at h,λt=>by
  simp only[cJ,h5]
  cases ae:Nat.testBit need t with
  |true=>exact h t ae
  |false=>trivial⟩
theorem xV{cg:Array Value}{d t:Nat}{u:Value}(ao:d<cg.size):(cg.setIfInBounds d u).getD t undef=if t=d then u else cg.getD t undef:=by
 simp only[Array.getD_eq_getD_getElem?,Array.getElem?_setIfInBounds]
 by_cases h:d=t
 · subst h;simp[ao]
 · rw[if_neg h,if_neg (λe=>h e.symm)]
theorem jr.alias{μ:bq}{r:aY}{m:Nat}{env:List I}{loc:List (Nat×Acc)}{a:Act}(h:jr P need μ r m env loc a.tmps)(al:hn P μ){t:Nat}(ba:t<a.tmps.size)(x:Operand):
  jr P need μ r m env ((t,cJ P need loc x)::loc) (a.put (some t) (a.eval x)).tmps:=by
 refine⟨λu b hu=>?_,λu=>?_⟩
 · rw[om] at hu
   split at hu
   · cases hu;exact Az h.va x
   · exact h.va u b hu
 · simp only[cJ,om,Act.put]
   rw[xV ba]
   by_cases e:u=t
   · simp only[e,if_true];exact h.eval al x
   · simp only[e,if_false];exact h.rel u
theorem jr.step{μ:bq}{r:aY}{m:Nat}{env:List I}{loc:List (Nat×Acc)}{a:Act}(h:jr P need μ r m env loc a.tmps){o:Oper}(ba:∀t,o.dst=some t->t<a.tmps.size){v:I}{u:Value}(aC:bm μ v u):
  jr P need μ r (m+1) (v::env) (hh o m loc) (a.put o.dst u).tmps:=by
 have old:∀t,bm μ (dx (m+1) (v::env) r (cJ P need loc (.tmp t))) (a.tmps.getD t undef):=λt=>by
  rw[Ro (Az h.va _)];exact h.rel t
 unfold hh
 cases ao:o.dst with
 |none=>exact⟨λt b ae=>Acc.IV (Nat.le_succ m) (h.va t b ae),old⟩
 |some d=>
  refine⟨λt b ae=>?_,λt=>?_⟩
  · rw[om] at ae
    split at ae
    · cases ae;exact Nat.lt_succ_self m
    · exact Acc.IV (Nat.le_succ m) (h.va t b ae)
  · simp only[Act.put]
    rw[xV (ba d ao)]
    by_cases e:t=d
    · simp only[cJ,om,e,if_true,Rp];exact aC
    · have:=old t
      simp only[cJ,om,e,if_false] at this⊢
      exact this
theorem IW{ops:Array Oper}{cg:Array Value}{j t:Nat}(h:(ops[j]?).bind (·.dst)=some t):yielded ops cg j=match cg.getD t undef with
  |.bool b=>some b
  |_=>none:=by
 unfold yielded
 rw[h,Option.bind_some]
 rw[Array.getD_eq_getD_getElem?]
 cases ak:cg[t]? with
 |none=>rfl
 |some v=>simp only[Option.getD_some];cases v<;>rfl
theorem Rq{μ:bq}{ops:Array Oper}{loc:List (Nat×Acc)}{o:Oper}{acc:Acc->I}{cg:Array Value}(lq:∀t,bm μ (acc (cJ P need loc (.tmp t))) (cg.getD t undef))(l0:∀v,acc (.val v)=v):
  ∀px,ew (match jH P need ops loc o with|none=>none|some (a,b)=>some (acc a,b))=some px->Region.wanted o (yielded ops cg)=px:=by
 intro px h
 unfold jH at h
 unfold Region.wanted
 cases al:o.guard with
 |none=>rw[al] at h;simp only[ew] at h;cases h;rfl
 |some p=>
  obtain⟨j,b⟩:=p
  rw[al] at h
  simp only at h⊢
  cases ba:(ops[j]?).bind (·.dst) with
  |none=>rw[ba] at h;simp only[l0,ew] at h;cases h
  |some t=>
   rw[ba] at h
   simp only at h
   have aj:=lq t
   rw[IW ba]
   generalize acc (cJ P need loc (.tmp t))=v at h aj
   unfold ew at h
   split at h
   · rename_i he;cases he
   · rename_i he;cases he;cases h
     have DB:cg.getD t undef=_:=aj
     rw[DB];rfl
   · rename_i he;cases he;cases h
     obtain⟨l,aw,rO⟩:=aj
     cases rO
     rw[aw];rfl
   · cases h
def DC:List Item->Prop
 |.call _ _ _ _::_=>False
 |_=>True
def oo(P:Program)(need bP:Nat)(μ:bq)(r:aY)(H:J)(w:World)(b:Frame)(k:List Item)(cs0:List Frame)(fe:Machine)(loc:List (Nat×Acc)):mA->Prop
 |.ok env bd bk aW=>∃aX w' cA bO,Steps P fe (lone (b.atR cA k) bO w')/\jr P need aX r env.length env loc cA.tmps/\cA.tmps.size=bP/\bt aX aW w'/\cb μ H w aX aW w'/\gq aX bd cA.defers/\hD aX b.kind cs0 bk bO
 |.b6 v bd bk aW=>∃aX w' cA bO u bh,Steps P fe (lone {b.atR cA bh with mode:=.panicking [{v:=u,recovered:=false}]} bO w')/\DC bh/\bm aX v u/\
   (∀t,h5 t loc=none->Nat.testBit need t=true->bm aX (r.get (g2 t)) (cA.tmps.getD t undef))/\cA.tmps.size=bP/\bt aX aW w'/\cb μ H w aX aW w'/\gq aX bd cA.defers/\hD aX b.kind cs0 bk bO
 |.fail _=>True
theorem oo.of_steps{bP:Nat}{μ hO:bq}{r:aY}{H H1:J}{w cN:World}{b:Frame}{k:List Item}{cs0:List Frame}{fe aZ:Machine}{loc:List (Nat×Acc)}{x:mA}(ak:bt μ H w)(iT:bt hO H1 cN)(h:Steps P fe aZ)(aT:cb μ H w hO H1 cN)
  (ab:oo P need bP hO r H1 cN b k cs0 aZ loc x):oo P need bP μ r H w b k cs0 fe loc x:=by
 cases x with
 |ok env d q aW=>
  obtain⟨aX,w',cA,bO,s1,s2,bK,bN,ch,c3⟩:=ab
  exact⟨aX,w',cA,bO,h.trans s1,s2,bK,bN,cb.trans ak iT aT ch,c3⟩
 |b6 v d q aW=>
  obtain⟨aX,w',cA,bO,u,bh,s1,hT,s2,bK,bN,ch,c3,dA⟩:=ab
  exact⟨aX,w',cA,bO,u,bh,h.trans s1,hT,s2,bK,bN,ch,cb.trans ak iT aT c3,dA⟩
 |fail s=>trivial
theorem DD{ops:Array Oper}:∀(l:List Oper) (loc:List (Nat×Acc)) (m t:Nat),h5 t (k1 P need ops l loc m)=none->h5 t loc=none
 |[],loc,m,t,h=>h
 |o::rest,loc,m,t,h=>by
  unfold k1 at h
  cases aT:aliasOf o with
  |some p=>
   obtain⟨u,x⟩:=p
   rw[aT] at h
   have:=DD rest _ m t h
   rw[om] at this
   split at this
   · cases this
   · exact this
  |none=>
   rw[aT] at h
   have:=DD rest _ _ t h
   unfold hh at this
   split at this
   · rw[om] at this
     split at this
     · cases this
     · exact this
   · exact this
theorem Rr{o:Oper}{t:Nat}{x:Operand}(h:aliasOf o=some (t,x)):o.guard=none/\o.dst=some t/\∀cy,execOp cy o=pure (.value (cy x)):=by
 unfold aliasOf at h
 split at h
 · rename_i ab ad ar;cases h;exact⟨ab,ad,λcy=>by simp[execOp,ar]⟩
 · rename_i ab ad ar;cases h;exact⟨ab,ad,λcy=>by simp[execOp,ar]⟩
 · cases h
theorem xW(a:Act)(dst:Option Tmp)(u:Value):(a.put dst u).tmps.size=a.tmps.size:=by cases dst<;>simp[Act.put]
theorem AA{call:aI->List I->J->av}(ag:jq P call){bP:Nat}{ops:Array Oper}(kz:∀o∈ops.toList,∀t,o.dst=some t->t<bP){b:Frame}{inR:Bool}(fj:inR=b.roundOf.isSome){r:aY}{k:List Item}{cs0:List Frame}:
  ∀(l:List Oper) (i0:Nat) (loc:List (Nat×Acc)) (m:Nat) (env:List I) (d:List bU) (q:bF) (μ:bq) (H:J) (w:World) (a:Act) (cs:List Frame),ops.toList.drop i0=l->env.length=m->
   jr P need μ r m env loc a.tmps->a.tmps.size=bP->bt μ H w->hn P μ->gq μ d a.defers->hD μ b.kind cs0 q cs->
   oo P need bP μ r H w b k cs0 (lone (b.atR a (.inRegion ops (List.range' i0 l.length)::k)) cs w) (k1 P need ops l loc m) (ij P need inR call r (lZ P need ops l loc m) env d q H)
 |[],i0,loc,m,env,d,q,μ,H,w,a,cs,aw,hm,py,bx,ak,al,ao,aM=>by
  subst hm
  exact⟨μ,w,a,cs,.one stepR_region_end,py,bx,ak,cb.refl _ _ _,ao,aM⟩
 |o::rest,i0,loc,m,env,d,q,μ,H,w,a,cs,aw,hm,py,bx,ak,al,ao,aM=>by
  have a4:ops[i0]? =some o:=by
   have:=congrArg List.head? aw
   simpa[List.head?_drop] using this
  have nt:ops.toList.drop (i0+1)=rest:=by
   have:=congrArg List.tail aw
   simpa[List.tail_drop] using this
  have h8:o∈ops.toList:=by
   rw[<-Array.getElem?_toList] at a4
   exact List.mem_of_getElem? a4
  have AB:∀t,o.dst=some t->t<a.tmps.size:=λt h=>by rw[bx];exact kz o h8 t h
  rw[List.length_cons,List.range'_succ]
  unfold lZ k1
  cases aT:aliasOf o with
  |some p=>
   obtain⟨t,x⟩:=p
   simp only
   obtain⟨cr,cZ,dp⟩:=Rr aT
   have hw:Region.wanted o (yielded ops a.tmps)=true:=by simp[Region.wanted,cr]
   have ct:=stepGR_op (P:=P) (b:=b) (a:=a) (k:=k) (cs:=cs) (w:=w) (rest:=List.range' (i0+1) rest.length) a4 hw
   have tl:o.semAt b.roundOf a.eval=execOp a.eval o:=by
    refine Oper.semAt_eq _ _ _ λc e=>?_
    have:=dp a.eval
    unfold aliasOf at aT
    rw[e] at aT
    split at aT
    · rename_i h;cases h
    · rename_i h;cases h
    · cases aT
   rw[tl] at ct
   obtain⟨ai,_⟩:=Av ct
   have hs:=ai (a.eval x) w (by rw[dp];rfl)
   have mI:(b.atR a (.inRegion ops (i0::List.range' (i0+1) rest.length)::k)).finish (a.eval x)=b.atR (a.put (some t) (a.eval x)) (.inRegion ops (List.range' (i0+1) rest.length)::k):=by
    rw[Frame.finish_atR,a4]
    simp only[Option.bind_some,cZ]
   rw[mI] at hs
   have a7:=AA (k:=k) ag kz fj rest (i0+1) ((t,cJ P need loc x)::loc) m env d q μ H w (a.put (some t) (a.eval x)) cs nt hm (py.alias al (AB t cZ) x) ((xW _ _ _).trans bx) ak al (by rw[put_defers];exact ao) aM
   exact a7.of_steps ak ak hs (cb.refl _ _ _)
  |none=>
   simp only[ij]
   have fJ:=IS (P:=P) ag ak al (b:=b) (a:=a) (ops:=ops) (i:=i0) (rest:=List.range' (i0+1) rest.length) (k:=k) (cs0:=cs0) (cs:=cs) a4 (gd:=match jH P need ops loc o with|none=>none|some (x,c)=>some (dx m env r x,c))
    (Rq (acc:=dx m env r) py.rel (λv=>rfl)) (g:=λx=>dx m env r (cJ P need loc x)) (λx=>py.eval al x) ao aM fj
   generalize dO P inR call (match jH P need ops loc o with|none=>none|some (x,c)=>some (dx m env r x,c)) o (λx=>dx m env r (cJ P need loc x)) d q H=res at fJ⊢
   cases res with
   |ok v bd bk aW=>
    obtain⟨aX,w',u,tk,bO,s1,s2,bK,bN,ch,c3⟩:=fJ
    have DE:=(py.mono bN.le).step (a:=a) (o:=o) AB s2
    have a7:=AA (k:=k) ag kz fj rest (i0+1) (hh o m loc) (m+1) (v::env) bd bk aX aW w' {tmps:=(a.put o.dst u).tmps,defers:=tk} bO nt (by simp[hm]) DE ((xW _ _ _).trans bx) bK (al.mono bN.le) ch c3
    exact a7.of_steps ak bK s1 bN
   |b6 v bd bk aW=>
    obtain⟨aX,w',u,s1,s2,bK,bN,ch,c3⟩:=fJ
    refine⟨aX,w',a,cs,u,_,s1,trivial,s2,λt ba aN=>?_,bx,bK,bN,ch,c3⟩
    have h0:=DD (P:=P) (need:=need) (ops:=ops) rest _ _ t ba
    have ab:h5 t loc=none:=by
     unfold hh at h0
     split at h0
     · rw[om] at h0
       split at h0
       · cases h0
       · exact h0
     · exact h0
    have:=(py.mono bN.le).rel t
    simp only[cJ,ab,aN,dx] at this
    exact this
   |fail s=>trivial
end
end aP
namespace aP
open Go
section
variable {P:Program} {need:Nat}
theorem IX(need m:Nat)(env:List I)(fA:aY):∀(loc:List (Nat×Acc)) (r:aY) (t:Nat),Nat.testBit need t=true->
  (pd need m env fA loc r).get (g2 t)=match h5 t loc with|some a=>dx m env fA a|none=>r.get (g2 t)
 |[],r,t,ba=>rfl
 |(u,a)::l,r,t,ba=>by
  rw[om]
  simp only[pd]
  by_cases e:t=u
  · subst e
    simp only[ba,if_true,aY.cV]
  · have a7:=IX need m env fA l r t ba
    cases hu:Nat.testBit need u with
    |true=>simp only[aY.cV,if_neg e,a7]
    |false=>simp only[if_neg e,a7]
theorem IY:∀(loc:List (Nat×Acc)) (r:aY) (t:Nat),(uV loc r).get (g2 t)=match h5 t loc with|some a=>.bad|none=>r.get (g2 t)
 |[],r,t=>rfl
 |(u,a)::l,r,t=>by
  rw[om]
  simp only[uV,aY.cV]
  by_cases e:t=u
  · simp only[e,if_true]
  · simp only[if_neg e,IY l r t]
theorem jr.outs{μ:bq}{r:aY}{m:Nat}{env:List I}{loc:List (Nat×Acc)}{cg:Array Value}(h:jr P need μ r m env loc cg):iE need μ (pd need m env r loc r) cg:=by
 intro t ba
 rw[IX need m env r loc r t ba]
 have:=h.rel t
 simp only[cJ,ba] at this
 cases hf:h5 t loc with
 |some a=>rw[hf] at this;exact this
 |none=>rw[hf] at this;exact this
theorem tn{e:bn}{r:aY}{d:List bU}{q:bF}{h:J}{f:aY->List bU->bF->J->jG}(he:e≠ .nrm):qg (.ok e r d q h) f=.ok e r d q h:=by
 cases e<;>first|rfl|exact absurd rfl he
def rP(P:Program)(μ:bq)(fe:Machine)(b:Frame)(k:List Item)(cs:List Frame)(a:Act)(w:World):bn->Prop
 |.nrm=>Steps P fe (lone (b.atR a k) cs w)
 |.exit id=>∃bh,exitTo id bh=exitTo id k/\Steps P fe (lone (b.atR a (.code (.exit id)::bh)) cs w)
 |.ret=>∃bh,Steps P fe (lone (b.atR a (.code .ret::bh)) cs w)
 |.goto _=>False
 |.b6 v=>∃bh u,(bm μ v u/\DC bh)/\Steps P fe (lone {b.atR a bh with mode:=.panicking [{v:=u,recovered:=false}]} cs w)
theorem rP.of_steps{μ:bq}{fe aZ:Machine}{b:Frame}{k:List Item}{cs:List Frame}{a:Act}{w:World}{e:bn}(h:Steps P fe aZ)(an:rP P μ aZ b k cs a w e):rP P μ fe b k cs a w e:=by
 cases e with
 |nrm=>exact h.trans an
 |exit id=>obtain⟨bh,ab,ad⟩:=an;exact⟨bh,ab,h.trans ad⟩
 |ret=>obtain⟨bh,ad⟩:=an;exact⟨bh,h.trans ad⟩
 |goto l=>exact an
 |b6 v=>obtain⟨bh,u,ab,ad⟩:=an;exact⟨bh,u,ab,h.trans ad⟩
theorem rP.pass{μ:bq}{fe:Machine}{b:Frame}{x:Item}{k:List Item}{cs:List Frame}{a:Act}{w:World}{e:bn}(aa:∀id,x≠ .inBlock id)(he:e≠ .nrm)(h:rP P μ fe b (x::k) cs a w e):rP P μ fe b k cs a w e:=by
 cases e with
 |nrm=>exact absurd rfl he
 |exit id=>
  obtain⟨bh,ab,ad⟩:=h
  refine⟨bh,ab.trans ?_,ad⟩
  cases x<;>first|rfl|exact absurd rfl (aa _)
 |ret=>exact h
 |goto l=>exact h
 |b6 v=>exact h
def k2(P:Program)(need bP:Nat)(μ:bq)(H:J)(w:World)(b:Frame)(k:List Item)(cs0:List Frame)(fe:Machine):jG->Prop
 |.ok e r' bd bk aW=>∃aX w' cA bO,rP P aX fe b k bO cA w' e/\iE need aX r' cA.tmps/\cA.tmps.size=bP/\bt aX aW w'/\cb μ H w aX aW w'/\gq aX bd cA.defers/\hD aX b.kind cs0 bk bO
 |.fail _=>True
theorem k2.of_steps{bP:Nat}{μ hO:bq}{H H1:J}{w cN:World}{b:Frame}{k:List Item}{cs0:List Frame}{fe aZ:Machine}{x:jG}(ak:bt μ H w)(iT:bt hO H1 cN)(h:Steps P fe aZ)(aT:cb μ H w hO H1 cN)
  (ab:k2 P need bP hO H1 cN b k cs0 aZ x):k2 P need bP μ H w b k cs0 fe x:=by
 cases x with
 |ok e r d q aW=>
  obtain⟨aX,w',cA,bO,s1,s2,bK,bN,ch,c3⟩:=ab
  exact⟨aX,w',cA,bO,s1.of_steps h,s2,bK,bN,cb.trans ak iT aT ch,c3⟩
 |fail s=>trivial
def mK(μ:bq)(b:Frame):Option Nat->Prop
 |none=>b.roundOf=none
 |some l=>∃i,μ l=some i/\b.roundOf=some i.bl
theorem mK.mono{μ aX:bq}(hle:e8 μ aX){b:Frame}{rd:Option Nat}(h:mK μ b rd):mK aX b rd:=by
 cases rd with
 |none=>exact h
 |some l=>obtain⟨i,ab,ad⟩:=h;exact⟨i,hle _ _ ab,ad⟩
theorem mK.isSome{μ:bq}{b:Frame}{rd:Option Nat}(h:mK μ b rd):rd.isSome=b.roundOf.isSome:=by
 cases rd with
 |none=>have:b.roundOf=none:=h;simp[this]
 |some l=>obtain⟨i,ab,ad⟩:=h;simp[ad]
def mL(P:Program)(need bP:Nat)(call:aI->List I->J->av):Prop:=
 ∀(ops:Array Oper) (id:Nat),(∀o∈ops.toList,∀t,o.dst=some t->t<bP)->qj ops (e7 ops.toList 0 [] [])=true->
  ∀(b:Frame) (inR:Bool) (r:aY) (d:List bU) (q:bF) (H:J) (μ:bq) (w:World) (a:Act) (k:List Item) (cs0 cs:List Frame),inR=b.roundOf.isSome->iE need μ r a.tmps->a.tmps.size=bP->bt μ H w->hn P μ->gq μ d a.defers->hD μ b.kind cs0 q cs->
   oo P need bP μ r H w b k cs0 (lone (b.atR a (.code (.region id ops true)::k)) cs w) (iS ops.toList 0 []) (sY P need inR call ops r d q H)
def IZ(P:Program)(need bP:Nat)(call:aI->List I->J->av):Prop:=
 ∀(f:Operand) (ps:Array Nat) (as cn:Code),hA bP (.rangeFunc f ps as cn)=true->∀(b:Frame) (rd:Option Nat) (r:aY) (d:List bU) (q:bF) (H:J) (μ:bq) (w:World) (a:Act) (k:List Item) (cs0 cs:List Frame),mK μ b rd->iE need μ r a.tmps->a.tmps.size=bP->bt μ H w->hn P μ->gq μ d a.defers->hD μ b.kind cs0 q cs->
  k2 P need bP μ H w b k cs0 (lone (b.atR a (.code (.rangeFunc f ps as cn)::k)) cs w) (dy P need rd call (.rangeFunc f ps as cn) r d q H)
theorem Rs{b:Frame}{a:Act}{c:Code}{k:List Item}{cs:List Frame}{w:World}:step P (lone (b.atR a (.inScope c::k)) cs w)=.next (lone (b.atR a k) cs w):=
 step_lone_go (by simp[stepG,stepG.exec,Frame.atR])
theorem I0{b:Frame}{a:Act}{c:Code}{k:List Item}{cs:List Frame}{w:World}:step P (lone (b.atR a (.code (.scope c)::k)) cs w)=.next (lone (b.atR a (.code c::.inScope c::k)) cs w):=
 step_lone_go (by simp[stepG,stepG.exec,Frame.atR])
theorem oo.code{bP:Nat}{μ:bq}{r:aY}{H:J}{w:World}{b:Frame}{k:List Item}{cs0:List Frame}{fe:Machine}{loc:List (Nat×Acc)}{x:mA}(h:oo P need bP μ r H w b k cs0 fe loc x):
  k2 P need bP μ H w b k cs0 fe (mB need r loc x):=by
 cases x with
 |ok env d q aW=>
  obtain⟨aX,w',cA,bO,s1,s2,bK,bN,ch,c3⟩:=h
  exact⟨aX,w',cA,bO,s1,s2.outs,bK,bN,ch,c3⟩
 |b6 v d q aW=>
  obtain⟨aX,w',cA,bO,u,bh,s1,hT,s2,bK,bN,ch,c3,dA⟩:=h
  refine⟨aX,w',cA,bO,⟨bh,u,⟨s2,hT⟩,s1⟩,λt ba=>?_,bN,ch,c3,dA⟩
  rw[IY]
  cases hf:h5 t loc with
  |some x=>trivial
  |none=>exact bK t hf ba
 |fail s=>trivial
def I1(P:Program)(need bP:Nat)(call:aI->List I->J->av)(rd:Option Nat)(c:Code):Prop:=
 ∀(b:Frame) (r:aY) (d:List bU) (q:bF) (H:J) (μ:bq) (w:World) (a:Act) (k:List Item) (cs0 cs:List Frame),mK μ b rd->iE need μ r a.tmps->a.tmps.size=bP->bt μ H w->hn P μ->gq μ d a.defers->hD μ b.kind cs0 q cs->
  k2 P need bP μ H w b k cs0 (lone (b.atR a (.code c::k)) cs w) (dy P need rd call c r d q H)
theorem I2{bP:Nat}{call:aI->List I->J->av}{rd:Option Nat}{c:Code}(fC:I1 P need bP call rd c)(b:Frame)(k:List Item)(cs0:List Frame):∀(n:Nat) (r:aY) (d:List bU) (q:bF) (H:J) (μ:bq) (w:World) (a:Act) (cs:List Frame),mK μ b rd->iE need μ r a.tmps->a.tmps.size=bP->bt μ H w->hn P μ->gq μ d a.defers->hD μ b.kind cs0 q cs->
  k2 P need bP μ H w b k cs0 (lone (b.atR a (.code c::.inLoop c::k)) cs w) (pe (dy P need rd call c) n r d q H)
 |0,r,d,q,H,μ,w,a,cs,cI,aj,bx,ak,al,ao,aM=>trivial
 |n+1,r,d,q,H,μ,w,a,cs,cI,aj,bx,ak,al,ao,aM=>by
  have ab:=fC b r d q H μ w a (.inLoop c::k) cs0 cs cI aj bx ak al ao aM
  unfold pe
  cases aa:dy P need rd call c r d q H with
  |fail s=>trivial
  |ok e r' bd bk aW=>
   rw[aa] at ab
   obtain⟨aX,w',cA,bO,s1,s2,bK,bN,ch,c3,dA⟩:=ab
   by_cases he:e=.nrm
   · subst he
     have a7:=I2 fC b k cs0 n r' bd bk aW aX w' cA bO (cI.mono ch.le) s2 bK bN (al.mono ch.le) c3 dA
     exact a7.of_steps ak bN (Steps.trans s1 (.one stepR_inLoop)) ch
   · rw[tn he]
     exact⟨aX,w',cA,bO,s1.pass (λid h=>by cases h) he,s2,bK,bN,ch,c3,dA⟩
theorem oq{bP:Nat}{call:aI->List I->J->av}(ag:jq P call)(hdr:mL P need bP call)(nz:IZ P need bP call)(rd:Option Nat):∀(c:Code),hA bP c=true->I1 P need bP call rd c
 |.skip,_=>λb r d q H μ w a k cs0 cs cI aj bx ak al ao aM=>⟨μ,w,a,cs,.one stepR_skip,aj,bx,ak,cb.refl _ _ _,ao,aM⟩
 |.label l,_=>λb r d q H μ w a k cs0 cs cI aj bx ak al ao aM=>⟨μ,w,a,cs,.one stepR_label,aj,bx,ak,cb.refl _ _ _,ao,aM⟩
 |.exit id,_=>λb r d q H μ w a k cs0 cs cI aj bx ak al ao aM=>⟨μ,w,a,cs,⟨k,rfl,Steps.refl _ _⟩,aj,bx,ak,cb.refl _ _ _,ao,aM⟩
 |.ret,_=>λb r d q H μ w a k cs0 cs cI aj bx ak al ao aM=>⟨μ,w,a,cs,⟨k,Steps.refl _ _⟩,aj,bx,ak,cb.refl _ _ _,ao,aM⟩
 |.goto l,_=>λb r d q H μ w a k cs0 cs cI aj bx ak al ao aM=>trivial
 |.refuse s,_=>λb r d q H μ w a k cs0 cs cI aj bx ak al ao aM=>trivial
 |.region id ops draw,de=>λb r d q H μ w a k cs0 cs cI aj bx ak al ao aM=>by
  simp only[hA,Bool.and_eq_true,List.all_eq_true] at de
  have kz:∀o∈ops.toList,∀t,o.dst=some t->t<bP:=λo a4 t ba=>by
   have:=de.1 o a4
   rw[ba] at this
   simpa using this
  cases draw with
  |false=>
   have h:=AA (P:=P) (need:=need) (k:=k) ag kz (b:=b) (inR:=rd.isSome) cI.isSome (r:=r) (cs0:=cs0) ops.toList 0 [] 0 [] d q μ H w a cs rfl rfl (jr.init aj) bx ak al ao aM
   have aw:List.range' 0 ops.toList.length=List.range ops.size:=by rw[List.range_eq_range'];simp
   rw[aw] at h
   have ad:=oo.code h
   have hC:pc P need ops=⟨lZ P need ops ops.toList [] 0,k1 P need ops ops.toList [] 0⟩:=by
    unfold pc;rw[Dz];simp
   simp only[dy,hC]
   exact k2.of_steps ak ak (.one stepR_region) (cb.refl _ _ _) ad
  |true=>
   have qB:qj ops (e7 ops.toList 0 [] [])=true:=by simpa using de.2
   have h:=hdr ops id kz qB b rd.isSome r d q H μ w a k cs0 cs cI.isSome aj bx ak al ao aM
   simp only[dy]
   exact oo.code h
 |.seq x y,de=>λb r d q H μ w a k cs0 cs cI aj bx ak al ao aM=>by
  simp only[hA,Bool.and_eq_true] at de
  have ab:=oq ag hdr nz rd x de.1 b r d q H μ w a (.code y::k) cs0 cs cI aj bx ak al ao aM
  simp only[dy]
  cases aa:dy P need rd call x r d q H with
  |fail s=>trivial
  |ok e r' bd bk aW=>
   rw[aa] at ab
   obtain⟨aX,w',cA,bO,s1,s2,bK,bN,ch,c3,dA⟩:=ab
   by_cases he:e=.nrm
   · subst he
     have ad:=oq ag hdr nz rd y de.2 b r' bd bk aW aX w' cA k cs0 bO (cI.mono ch.le) s2 bK bN (al.mono ch.le) c3 dA
     exact ad.of_steps ak bN (Steps.head stepR_seq s1) ch
   · rw[tn he]
     exact⟨aX,w',cA,bO,(s1.pass (λid h=>by cases h) he).of_steps (.one stepR_seq),s2,bK,bN,ch,c3,dA⟩
 |.cond c x y,de=>λb r d q H μ w a k cs0 cs cI aj bx ak al ao aM=>by
  simp only[hA,Bool.and_eq_true] at de
  simp only[dy]
  have fm:=(jr.init (P:=P) aj).eval (a:=a) al c
  split
  · rename_i od
    rw[od] at fm
    have h:=oq ag hdr nz rd x de.1 b r d q H μ w a k cs0 cs cI aj bx ak al ao aM
    exact h.of_steps ak ak (.one (stepR_cond (t:=true) fm)) (cb.refl _ _ _)
  · rename_i od
    rw[od] at fm
    have h:=oq ag hdr nz rd y de.2 b r d q H μ w a k cs0 cs cI aj bx ak al ao aM
    exact h.of_steps ak ak (.one (stepR_cond (t:=false) fm)) (cb.refl _ _ _)
  · trivial
 |.block id c,de=>λb r d q H μ w a k cs0 cs cI aj bx ak al ao aM=>by
  have ab:=oq ag hdr nz rd c de b r d q H μ w a (.inBlock id::k) cs0 cs cI aj bx ak al ao aM
  simp only[dy]
  cases aa:dy P need rd call c r d q H with
  |fail s=>trivial
  |ok e r' bd bk aW=>
   rw[aa] at ab
   obtain⟨aX,w',cA,bO,s1,s2,bK,bN,ch,c3,dA⟩:=ab
   cases e with
   |nrm=>exact⟨aX,w',cA,bO,Steps.head stepR_block (Steps.trans s1 (.one stepR_inBlock)),s2,bK,bN,ch,c3,dA⟩
   |exit i=>
    obtain⟨bh,aA,ay⟩:=s1
    by_cases iJ:i=id
    · simp only[iJ,if_true]
      subst iJ
      have bw:exitTo i bh=some k:=by rw[aA];simp[exitTo]
      exact⟨aX,w',cA,bO,Steps.head stepR_block (Steps.trans ay (.one (stepR_exit bw))),s2,bK,bN,ch,c3,dA⟩
    · simp only[if_neg iJ]
      have:(id==i)=false:=by simp;exactλh=>iJ h.symm
      exact⟨aX,w',cA,bO,⟨bh,aA.trans (by simp[exitTo,this]),Steps.head stepR_block ay⟩,s2,bK,bN,ch,c3,dA⟩
   |ret=>obtain⟨bh,ay⟩:=s1;exact⟨aX,w',cA,bO,⟨bh,Steps.head stepR_block ay⟩,s2,bK,bN,ch,c3,dA⟩
   |goto l=>exact s1.elim
   |b6 v=>obtain⟨bh,u,aA,ay⟩:=s1;exact⟨aX,w',cA,bO,⟨bh,u,aA,Steps.head stepR_block ay⟩,s2,bK,bN,ch,c3,dA⟩
 |.loop c,de=>λb r d q H μ w a k cs0 cs cI aj bx ak al ao aM=>by
  have h:=I2 (oq ag hdr nz rd c de) b k cs0 100000 r d q H μ w a cs cI aj bx ak al ao aM
  simp only[dy]
  exact h.of_steps ak ak (.one stepR_loop) (cb.refl _ _ _)
 |.scope c,de=>λb r d q H μ w a k cs0 cs cI aj bx ak al ao aM=>by
  have ab:=oq ag hdr nz rd c de b r d q H μ w a (.inScope c::k) cs0 cs cI aj bx ak al ao aM
  simp only[dy]
  cases aa:dy P need rd call c r d q H with
  |fail s=>trivial
  |ok e r' bd bk aW=>
   rw[aa] at ab
   obtain⟨aX,w',cA,bO,s1,s2,bK,bN,ch,c3,dA⟩:=ab
   by_cases he:e=.nrm
   · subst he
     exact⟨aX,w',cA,bO,Steps.head I0 (Steps.trans s1 (.one Rs)),s2,bK,bN,ch,c3,dA⟩
   · exact⟨aX,w',cA,bO,(s1.pass (λid h=>by cases h) he).of_steps (.one I0),s2,bK,bN,ch,c3,dA⟩
 |.rangeFunc f ps as cn,de=>λb r d q H μ w a k cs0 cs cI aj bx ak al ao aM=>nz f ps as cn de b rd r d q H μ w a k cs0 cs cI aj bx ak al ao aM
end
end aP
namespace aP
open Go
section
variable {P:Program} {need:Nat}
theorem Rt{w gX:World}{cs:List Frame}{b:Frame}{a:Act}{l:Nat}{k:List Item}{s:Sem Next}{AD:Frame}
  (ct:(stepG P true {frame:=AD,callers:=cs,status:=.running,dying:=none} gX).bare=(stepG.apply P true (b.atR a (.inRangeFunc l::k)) cs none s w).bare):
  (∀v w',s.run P w=.ok (.value v) w'->Steps P (lone AD cs gX) (lone ((b.atR a (.inRangeFunc l::k)).finish v) cs w'))/\
  (∀f args w',s.run P w=.ok (.enter f args) w'->Steps P (lone AD cs gX) (lone (Frame.enter P f args .normal) (b.atR a (.inRangeFunc l::k)::cs) w'))/\
  (∀oj f tmps assign body w',s.run P w=.ok (.round oj f tmps assign body) w'->Steps P (lone AD cs gX) (lone (Frame.round oj f tmps assign body .normal) (b.atR a (.inRangeFunc l::k)::cs) w')):=by
 refine⟨λv w' aj=>.one (step_lone_go ?_),λf args w' aj=>.one (step_lone_go ?_),λl f tmps assign body w' aj=>.one (step_lone_go ?_)⟩
 · rw[ct];simp[stepG.apply,aj]
 · rw[ct];simp[stepG.apply,aj,Frame.atR]
 · rw[ct];simp[stepG.apply,aj]
theorem Ru{b:Frame}{a:Act}{f:Operand}{ps:Array Nat}{as cn:Code}{k:List Item}{cs:List Frame}{w cN:World}{l:Nat}{mark:List Deferred}(he:(Instr.enterLoop b.fn a.tmps ps as cn b.roundOf).run P w=.ok (l,mark) cN):
  (stepG P true {frame:=b.atR a (.code (.rangeFunc f ps as cn)::k),callers:=cs,status:=.running,dying:=none} w).bare=
   (stepG.apply P true (b.atR {tmps:=a.tmps,defers:=mark++a.defers} (.inRangeFunc l::k)) cs none (do let d<-Deferred.ofValue (a.eval f) #[.func (.yield l) #[] #[]];invoke d.target d.args) cN).bare:=by
 have AE:=Frame.eval_atR b {tmps:=a.tmps,defers:=mark++a.defers} (.inRangeFunc l::k)
 simp only[Frame.atR] at AE
 have Rv:({tmps:=a.tmps,defers:=mark++a.defers}:Act).eval=a.eval:=funext λx=>by cases x<;>rfl
 simp only[stepG,stepG.exec,Frame.atR,Sem.runT_eq,he,GStep.bare_after]
 have Rw:resolve a.eval {callee:=.value f,args:=#[.const (.func (.yield l) #[] #[])],argTypes:=#[]} 0=Deferred.ofValue (a.eval f) #[.func (.yield l) #[] #[]]:=by simp[resolve,Act.eval]
 rw[AE,Rv,Rw]
theorem Rx{b:Frame}{a:Act}{l:Nat}{k:List Item}{cs:List Frame}{w w':World}{nC:Option Code}(he:(Instr.endLoop l).run P w=.ok nC w'):
  step P (lone (b.atR a (.endRangeFunc l::k)) cs w)=.next (lone (b.atR a ((nC.map Item.code).toList++k)) cs w'):=
 step_lone_go (by simp[stepG,stepG.exec,Frame.atR,Sem.runT_eq,he])
theorem Ry{bP:Nat}{b:Frame}{a:Act}{r:aY}{ps:Array Nat}{as cn:Code}(de:hA bP as=true/\hA bP cn=true/\∀t∈ps.toList,t<bP){μ:bq}{H:J}{w:World}{rd:Option Nat}(cI:mK μ b rd)(aj:iE need μ r a.tmps)(bx:a.tmps.size=bP)(ak:bt μ H w)
  {d:List bU}(ao:gq μ d a.defers){l:Nat}{bd:List bU}{H1:J}
  (aw:l=n9 rd H.n)(he:xe need rd r ps.toList as cn d H=some (bd,H1)):
  ∃aX w' mark i,(Instr.enterLoop b.fn a.tmps ps as cn b.roundOf).run P w=.ok (i.bl,mark) w'/\aX l=some i/\bt aX H1 w'/\cb μ H w aX H1 w'/\gq aX bd (mark++a.defers):=by
 subst bx
 unfold n9 at aw
 unfold xe at he
 cases rd with
 |none=>
  have ae:b.roundOf=none:=cI
  cases he
  obtain⟨r1,r2⟩:=ak.alloc (.defrd (some [])) (.deferred (some [])) 0 ⟨[],World.heap_alloc_new _ _,rfl⟩
  have hu:fr μ H.n ⟨w.heap.size,0,0⟩ H.n=some ⟨w.heap.size,0,0⟩:=gw _ _ _
  have AF:=r1.oc ⟨(w.alloc (.deferred (some []))).heap.size,0,0⟩
  obtain⟨a8,a6⟩:=r1.alloc (.loop .ready none need r ps.toList as cn H.n) (.loop {state:=.ready,pending:=none,fn:=b.fn,tmps:=a.tmps,params:=ps,assign:=as,body:=cn,defers:=w.heap.size}) 0
   ⟨a.tmps,⟨w.heap.size,0,0⟩,b.fn,AF _ _ hu,World.heap_alloc_new _ _,aj.mono (r2.le.trans AF),de.1,de.2.1,de.2.2⟩
  refine⟨_,_,[{target:=.collected w.heap.size,args:=#[]}],⟨(w.alloc (.deferred (some []))).heap.size,0,0⟩,?_,?_,a8,cb.trans ak r1 r2 a6,⟨_,_,rfl,.collected _ ⟨w.heap.size,0,0⟩ (AF _ _ hu),ao.mono (r2.le.trans AF)⟩⟩
  · rw[ae]
    simp only[Instr.enterLoop,Sem.run_bind,run_newObj,Result.andThen_ok,Sem.run_pure]
    rfl
  · rw[aw];exact gw _ _ _
 |some CS=>
  obtain⟨j,aJ,ae⟩:=cI
  simp only at aw he
  subst aw
  cases al:H.get CS with
  |none=>rw[al] at he;cases he
  |some DF=>
  rw[al] at he
  cases DF<;>try (cases he;done)
  case loop pz I3 ac6 ac7 I4 I5 I6 eL=>
   cases he
   obtain⟨cg,hN,fn,aA,ay,_⟩:=ak.rel _ _ j al aJ
   have hle:=ak.oc ⟨w.heap.size,0,0⟩
   obtain⟨a8,a6⟩:=ak.alloc (.loop .ready none need r ps.toList as cn eL) (.loop {state:=.ready,pending:=none,fn:=b.fn,tmps:=a.tmps,params:=ps,assign:=as,body:=cn,defers:=hN.bl}) 0
    ⟨a.tmps,hN,b.fn,hle _ _ aA,World.heap_alloc_new _ _,aj.mono hle,de.1,de.2.1,de.2.2⟩
   refine⟨_,_,[],⟨w.heap.size,0,0⟩,?_,?_,a8,a6,ao.mono hle⟩
   · rw[ae]
     have mH:(Instr.getLoop j.bl).run P w=.ok {state:=pz,pending:=I3,fn:=fn,tmps:=cg,params:=⟨I4⟩,assign:=I5,body:=I6,defers:=hN.bl} w:=by
      have:(getObj j.bl).run P w=.ok (.loop {state:=pz,pending:=I3,fn:=fn,tmps:=cg,params:=⟨I4⟩,assign:=I5,body:=I6,defers:=hN.bl}) w:=by simp[getObj,Sem.run,ay]
      simp only[Instr.getLoop,Sem.run_bind,this];rfl
     simp only[Instr.enterLoop,Sem.run_bind,mH,Result.andThen_ok,Sem.run_pure,run_newObj]
     rfl
   · exact gw _ _ _
theorem Rz{μ:bq}{H:J}{w:World}(ak:bt μ H w){l:Nat}{i:eV}(aw:μ l=some i){st:LoopState}{fS:Option Code}{gN:Nat}{rg:aY}{ps:List Nat}{as cn:Code}{eL:Nat}(al:H.get l=some (.loop st fS gN rg ps as cn eL))(ct:st≠ .busy):
  ∃w',(Instr.endLoop i.bl).run P w=.ok fS w'/\bt μ (H.set l (some (.loop .exhausted fS gN rg ps as cn eL))) w'/\cb μ H w μ (H.set l (some (.loop .exhausted fS gN rg ps as cn eL))) w':=by
 obtain⟨cg,hN,fn,aA,ay,bw⟩:=ak.rel _ _ i al aw
 have cd:=(ak.lt _ _ aw).2
 obtain⟨r1,r2⟩:=ak.update (w':={w with heap:=w.heap.setIfInBounds i.bl (.loop {state:=.exhausted,pending:=fS,fn:=fn,tmps:=cg,params:=⟨ps⟩,assign:=as,body:=cn,defers:=hN.bl})}) (o':=.loop .exhausted fS gN rg ps as cn eL) al rfl aw (by simp) (λr aj=>by simp[Array.getElem?_setIfInBounds];intro e;exact absurd e.symm aj) rfl rfl rfl
  ⟨cg,hN,fn,aA,by simp[cd],bw⟩
 refine⟨_,?_,r1,r2⟩
 have iI:(getObj i.bl).run P w=.ok (.loop {state:=st,pending:=fS,fn:=fn,tmps:=cg,params:=⟨ps⟩,assign:=as,body:=cn,defers:=hN.bl}) w:=by simp[getObj,Sem.run,ay]
 have eB:(setObj i.bl (.loop {state:=.exhausted,pending:=fS,fn:=fn,tmps:=cg,params:=⟨ps⟩,assign:=as,body:=cn,defers:=hN.bl})).run P w=.ok () {w with heap:=w.heap.setIfInBounds i.bl (.loop {state:=.exhausted,pending:=fS,fn:=fn,tmps:=cg,params:=⟨ps⟩,assign:=as,body:=cn,defers:=hN.bl})}:=by simp[setObj,Sem.run,ay]
 have ae:(st==LoopState.busy)=false:=by cases st<;>first|rfl|exact absurd rfl ct
 simp only[Instr.endLoop,Instr.getLoop,Sem.run_bind,iI,Result.andThen_ok,Sem.run_pure,ae,Bool.false_eq_true,if_false,eB]
theorem AG{bP:Nat}{call:aI->List I->J->av}(ag:jq P call):IZ P need bP call:=by
 intro f ps as cn de b rd r d q H μ w a k cs0 cs cI aj bx ak al ao aM
 simp only[hA,Bool.and_eq_true,List.all_eq_true] at de
 have ou:∀t∈ps.toList,t<bP:=λt ba=>by simpa using de.1.1 t ba
 have fm:=(jr.init (P:=P) aj).eval (a:=a) al f
 simp only[dy]
 cases ct:xe need rd r ps.toList as cn d H with
 |none=>trivial
 |some p=>
  obtain⟨bd,H1⟩:=p
  simp only
  obtain⟨hO,cN,mark,i,ab,ad,ar,aG,bJ⟩:=Ry (P:=P) (b:=b) (a:=a) (ps:=ps) ⟨de.1.2,de.2,ou⟩ cI aj bx ak ao rfl ct
  have RA:=fm.mono aG.le
  have RB:=Ru (P:=P) (f:=f) (k:=k) (cs:=cs) ab
  obtain⟨ai,ax,aB⟩:=Rt RB
  have od:=IK (P:=P) (w:=cN) ar RA (args:=[.dh (n9 rd H.n)]) (vs:=[.func (.yield i.bl) #[] #[]]) ⟨_,_,rfl,⟨i,ad,rfl⟩,rfl⟩
  have fin:∀(res:av),rN P (lone (b.atR a (.code (.rangeFunc f ps as cn)::k)) cs w) (b.atR {tmps:=a.tmps,defers:=mark++a.defers} (.inRangeFunc i.bl::k)) cs (Ends hO H1 cN res)->
    k2 P need bP μ H w b k cs0 (lone (b.atR a (.code (.rangeFunc f ps as cn)::k)) cs w) (nn (n9 rd H.n) r bd q res):=by
   intro res aw
   obtain⟨e,iK,fu,il⟩:=aw
   cases res with
   |fail s=>trivial
   |b6 v br=>
    obtain⟨aX,u,rfl,a8,a6,b4⟩:=fu
    exact⟨aX,iK,{tmps:=a.tmps,defers:=mark++a.defers},cs,⟨.inRangeFunc i.bl::k,u,⟨a8,trivial⟩,il⟩,aj.mono (aG.le.trans b4.le),bx,a6,cb.trans ak ar aG b4,bJ.mono b4.le,aM.mono (aG.le.trans b4.le)⟩
   |ret v br=>
    obtain⟨aX,u,rfl,a8,a6,b4⟩:=fu
    have mI:(b.atR {tmps:=a.tmps,defers:=mark++a.defers} (.inRangeFunc i.bl::k)).finish u=b.atR {tmps:=a.tmps,defers:=mark++a.defers} (.endRangeFunc i.bl::k):=rfl
    simp only[mI] at il
    unfold nn
    simp only
    cases gA:br.get (n9 rd H.n) with
    |none=>trivial
    |some DF=>
     cases DF<;>try trivial
     case loop st fS gN rg RC z3 z4 eL=>
      simp only
      by_cases ae:st=.busy
      · subst ae;trivial
      · obtain⟨nD,aA,ay,bw⟩:=Rz (P:=P) a6 (b4.le _ _ ad) gA ae
        have ke:=Steps.trans il (.one (Rx (b:=b) (a:={tmps:=a.tmps,defers:=mark++a.defers}) (k:=k) (cs:=cs) aA))
        have hle:=aG.le.trans (b4.le.trans bw.le)
        have kA:=cb.trans ak a6 (cb.trans ak ar aG b4) bw
        have done:∀(e:bn),rP P aX (lone (b.atR a (.code (.rangeFunc f ps as cn)::k)) cs w) b k cs {tmps:=a.tmps,defers:=mark++a.defers} nD e->
          k2 P need bP μ H w b k cs0 (lone (b.atR a (.code (.rangeFunc f ps as cn)::k)) cs w) (.ok e r bd q (br.set (n9 rd H.n) (some (.loop .exhausted fS gN rg RC z3 z4 eL)))):=λe he=>
         ⟨aX,nD,{tmps:=a.tmps,defers:=mark++a.defers},cs,he,aj.mono hle,bx,ay,kA,bJ.mono (b4.le.trans bw.le),aM.mono hle⟩
        have ac8:∀X:jG,(match st with|.busy=>jG.fail "rangeFunc: busy" |_=>X)=X:=λX=>by cases st<;>first|rfl|exact absurd rfl ae
        cases st<;>first
         |exact absurd rfl ae
         |(cases fS with
          |none=>exact done .nrm ke
          |some c=>
           cases c<;>first
            |trivial
            |exact done .ret ⟨k,ke⟩
            |exact done (.exit _) ⟨k,rfl,ke⟩)
  cases I7:sX (dx 0 [] r (cJ P need [] f)) [.dh (n9 rd H.n)] H1 with
  |call g args aR=>
   rw[I7] at od
   obtain⟨rfl,vs,aA,ay⟩:=od
   simp only
   cases b7:(call (.fn g) args aR).k0 with
   |false=>obtain⟨s,hs⟩:=Ax b7;rw[hs];trivial
   |true=>
    apply fin
    rcases ag.fn g args aR b7 hO cN vs ar (al.mono aG.le) ay with⟨v,w',a8,a6⟩|⟨a8,a6⟩
    · rw[<-aA] at a8
      exact⟨_,_,a6,ai _ _ a8⟩
    · rw[<-aA] at a8
      exact(IP (Ay b7) a6 _ _).of_steps (ax _ _ _ a8)
  |dh bR args aR=>
   rw[I7] at od
   obtain⟨rfl,eo,vs,rO,aA,ay⟩:=od
   simp only
   cases b7:(call (.dh bR) args aR).k0 with
   |false=>obtain⟨s,hs⟩:=Ax b7;rw[hs];trivial
   |true=>
    apply fin
    obtain⟨vb,tmps,z3,z4,a8,a6⟩:=ag.dh bR args aR b7 hO cN eo vs ar (al.mono aG.le) rO ay
    rw[<-aA] at a8
    exact(a6 _ _).of_steps (aB _ _ _ _ _ _ a8)
  |val v aR=>trivial
  |b6 v aR=>trivial
  |ll x=>trivial
  |sS=>trivial
  |fail s=>trivial
end
end aP
namespace aP
open Go
section
variable {P:Program}
theorem DG:∀(l:List I) (i:Nat) (r:aY) (t:Nat),(np i l r).get (g2 t)=if i<=t/\t<i+l.length then(l[t-i]?).getD .bad else r.get (g2 t)
 |[],i,r,t=>by
  simp only[np,List.length_nil]
  rw[if_neg (by omega)]
 |v::l,i,r,t=>by
  simp only[np,DG l (i+1),aY.cV,List.length_cons]
  by_cases h:i+1<=t/\t<i+1+l.length
  · rw[if_pos h,if_pos (by omega)]
    have:t-i=(t-(i+1))+1:=by omega
    rw[this];simp
  · rw[if_neg h]
    by_cases e:t=i
    · subst e;rw[if_pos rfl,if_pos (by omega)];simp
    · rw[if_neg e,if_neg (by omega)]
theorem I8{need:Nat}{μ:bq}{args:List I}{vs:List Value}(h:cf μ args vs)(n:Nat):iE need μ (np 0 args .leaf) (⟨vs⟩++Array.replicate n undef):=by
 intro t _
 rw[DG]
 have aw:=h.length
 by_cases ba:t<args.length
 · rw[if_pos (by omega)]
   simp only[Nat.sub_zero]
   obtain⟨v,aC,aj⟩:=h.get (List.getElem?_eq_getElem ba)
   rw[List.getElem?_eq_getElem ba]
   rw[Array.getD_eq_getD_getElem?,Array.getElem?_append_left (by simp;omega)]
   simp only[List.getElem?_toArray,aC,Option.getD_some]
   exact aj
 · rw[if_neg (by omega),aY.nq];trivial
theorem RD{need:Nat}{μ:bq}{H:J}{w:World}(ak:bt μ H w){r:aY}{cg:Array Value}(aj:iE need μ r cg){x:ResultVar}{v:I}(h:rf P need r H x=some v):
  ∃u,((match x with|.tmp t=>pure (cg.getD t undef)|.cell a t=>do loadVar t (<-asAddr (cg.getD a undef)):Sem Value)).run P w=.ok u w/\bm μ v u:=by
 unfold rf at h
 cases x with
 |tmp t=>
  simp only at h
  split at h
  · rename_i ae;cases h;exact⟨_,rfl,aj t ae⟩
  · cases h
 |cell t ty=>
  simp only at h
  split at h
  · rename_i ae
    have ab:=aj t ae
    split at h
    · rename_i b off n aK aT aN
      rw[aK] at ab
      obtain⟨i,af,aC⟩:=ab
      split at h
      · rename_i cs aw
        cases h
        obtain⟨us,a8,a6⟩:=rq (P:=P) ak af aw
        refine⟨.agg ⟨us⟩,?_,us,rfl,a6⟩
        simp[aC,asAddr,loadVar,u2 aT,run_sizeOf aN,a8]
      · cases h
    · rename_i b off aK aT
      rw[aK] at ab
      obtain⟨i,af,aC⟩:=ab
      obtain⟨u,a8,a6⟩:=C0 (P:=P) ak af h
      refine⟨u,?_,a6⟩
      simp only[aC,asAddr,loadVar,Sem.run_bind,Sem.run_pure,Result.andThen_ok,u2 aT,Bool.false_eq_true,if_false,a8]
    · cases h
  · cases h
theorem DH{need:Nat}{μ:bq}{H:J}{w:World}(ak:bt μ H w){r:aY}{cg:Array Value}(aj:iE need μ r cg):∀(l:List ResultVar) (vs:List I),pf (rf P need r H) l=some vs->
  ∃us:List Value,(l.mapM (λx=>(match x with|.tmp t=>pure (cg.getD t undef)|.cell a t=>do loadVar t (<-asAddr (cg.getD a undef)):Sem Value))).run P w=.ok us w/\cf μ vs us
 |[],vs,h=>by cases h;exact⟨[],rfl,rfl⟩
 |x::l,vs,h=>by
  simp only[pf] at h
  split at h
  · rename_i v vc ab ad
    cases h
    obtain⟨u,a8,a6⟩:=RD ak aj ab
    obtain⟨us,b4,fX⟩:=DH ak aj l vc ad
    refine⟨u::us,?_,⟨_,_,rfl,a6,fX⟩⟩
    rw[List.mapM_cons]
    simp only[Sem.run_bind]
    rw[a8]
    simp only[Result.andThen_ok,Sem.run_bind,b4,Sem.run_pure]
  · cases h
theorem I9{need:Nat}{μ:bq}{H:J}{w:World}(ak:bt μ H w){fn:Func}{r:aY}{cg:Array Value}(aj:iE need μ r cg){v:I}(h:qh P need fn r H=some v):
  ∃u,(results fn cg).run P w=.ok u w/\bm μ v u:=by
 unfold qh at h
 have iV:∀us:List Value,(fn.results.toList.mapM (λx=>(match x with|.tmp t=>pure (cg.getD t undef)|.cell a t=>do loadVar t (<-asAddr (cg.getD a undef)):Sem Value))).run P w=.ok us w->
   (results fn cg).run P w=.ok (if h:(⟨us⟩:Array Value).size=1 then(⟨us⟩:Array Value)[0] else .tuple ⟨us⟩) w:=by
  intro us iU
  have hm:(fn.results.mapM (λx=>(match x with|.tmp t=>pure (cg.getD t undef)|.cell a t=>do loadVar t (<-asAddr (cg.getD a undef)):Sem Value))).run P w=.ok ⟨us⟩ w:=by
   rw[Array.mapM_eq_mapM_toList]
   simp only[map_eq_pure_bind,Sem.run_bind]
   rw[iU];rfl
  unfold results
  simp only[Sem.run_bind]
  refine Eq.trans (congrArg (λq=>Result.andThen q _) hm) ?_
  rfl
 split at h
 · rename_i v' aT
   cases h
   obtain⟨us,a8,a6⟩:=DH ak aj _ _ aT
   obtain⟨u,rE,rfl,b4,fX⟩:=a6
   cases fX
   exact⟨_,iV _ a8,b4⟩
 · rename_i vs cS aT
   cases h
   obtain⟨us,a8,a6⟩:=DH ak aj _ _ aT
   refine⟨_,iV _ a8,?_⟩
   have:¬((⟨us⟩:Array Value).size=1):=by
    intro e
    have aw:=a6.length
    have cF:us.length=1:=e
    rw[cF] at aw
    obtain⟨x,aa⟩:=List.length_eq_one_iff.1 aw
    exact cS x aa
   rw[dif_neg this]
   exact⟨us,rfl,a6⟩
 · cases h
theorem I_{call:aI->List I->J->av}(ag:jq P call)(hdr:∀need bP,mL P need bP call){f:FuncId}{fn:Func}(hf:P.funcs[f]? =some fn){kind:CallKind}{c:Code}(ae:fn.body=some c)(de:hA fn.ntmps c=true)
  {args:List I}{vs:List Value}{q:bF}{H:J}{μ:bq}{w:World}{cs0 cs:List Frame}(aC:cf μ args vs)(ak:bt μ H w)(al:hn P μ)(aM:hD μ kind cs0 q cs):
  k2 P (dL fn) fn.ntmps μ H w {(default:Frame) with fn:=f,kind:=kind} [] cs0 (lone (Frame.enter P f ⟨vs⟩ kind) cs w) (mC P call fn args q H):=by
 unfold mC
 rw[ae]
 simp only
 cases hle:Nat.ble args.length fn.ntmps with
 |false=>trivial
 |true=>
  have Al:args.length<=fn.ntmps:=by simpa using hle
  have hlen:=aC.length
  simp only
  have DI:Frame.enter P f ⟨vs⟩ kind=({(default:Frame) with fn:=f,kind:=kind}:Frame).atR {tmps:=⟨vs⟩++Array.replicate (fn.ntmps-vs.length) undef,defers:=[]} [.code c]:=by
   simp[Frame.enter,Frame.atR,hf,ae]
   rfl
  rw[DI]
  exact oq ag (hdr _ _) (AG ag) none c de {(default:Frame) with fn:=f,kind:=kind} (np 0 args .leaf) [] q H μ w {tmps:=⟨vs⟩++Array.replicate (fn.ntmps-vs.length) undef,defers:=[]} [] cs0 cs rfl (I8 aC _) (by simp;omega) ak al rfl aM
def vd(P:Program):Prop:=∀(g:FuncId) (hz:Func) (gc:Code),P.funcs[g]? =some hz->hz.body=some gc->hA hz.ntmps gc=true/\(hz.name== "runtime.NumGoroutine")=false
theorem AH{f:FuncId}{fn:Func}{c:Code}(hf:P.funcs[f]? =some fn)(ae:fn.body=some c)(aN:(fn.name== "runtime.NumGoroutine")=false)(args:Array Value)(w:World):(callFunc f args).run P w=.ok (.enter f args) w:=by
 have nE:¬fn.name= "runtime.NumGoroutine" :=by simpa using aN
 simp[callFunc,hf,nE,ae]
def mM(μ:bq):Option I->FrameMode->Prop
 |none,m=>m=.returning
 |some v,m=>∃u,m=.panicking [{v:=u,recovered:=false}]/\bm μ v u
theorem mM.mono{μ aX:bq}(hle:e8 μ aX){eM:Option I}{m:FrameMode}(h:mM μ eM m):mM aX eM m:=by
 cases eM with
 |none=>exact h
 |some v=>obtain⟨u,ab,ad⟩:=h;exact⟨u,ab,ad.mono hle⟩
theorem mM.run{μ:bq}{eM:Option I}{m:FrameMode}(h:mM μ eM m):m≠ .run:=by
 cases eM with
 |none=>intro e;cases h.symm.trans e
 |some v=>obtain⟨u,ab,_⟩:=h;intro e;cases ab.symm.trans e
theorem mM.q{μ:bq}{eM:Option I}{c:Frame}{cs:List Frame}(h:mM μ eM c.mode):hD μ .deferred (c::cs) (uW eM) (c::cs):=by
 cases eM with
 |none=>
  refine⟨rfl,λc7 aq=>?_⟩
  have an:c.mode=.returning:=h
  simp only[tryRecover,aq,an]
 |some v=>obtain⟨u,ab,ad⟩:=h;exact⟨rfl,rfl,c,cs,u,rfl,ab,ad⟩
theorem RE{μ:bq}{H:J}{w:World}(ak:bt μ H w){r:Nat}{i:eV}(af:μ r=some i){cs:List bU}(al:H.get r=some (.defrd (some cs))):
  ∃w' l,(Instr.takeDeferred i.bl).run P w=.ok l w'/\gq μ cs l/\bt μ (H.set r (some (.defrd none))) w'/\cb μ H w μ (H.set r (some (.defrd none))) w':=by
 obtain⟨l,aA,ay⟩:=ak.rel _ _ i al af
 have cd:=(ak.lt _ _ af).2
 obtain⟨r1,r2⟩:=ak.update (w':={w with heap:=w.heap.setIfInBounds i.bl (.deferred none)}) (o':=.defrd none) al rfl af (by simp) (λr aj=>by simp[Array.getElem?_setIfInBounds];intro e;exact absurd e.symm aj) rfl rfl rfl
  (show({w with heap:=w.heap.setIfInBounds i.bl (.deferred none)}:World).heap[i.bl]? =some (.deferred none) by simp[cd])
 refine⟨_,l,?_,ay,r1,r2⟩
 have iI:(getObj i.bl).run P w=.ok (.deferred (some l)) w:=by simp[getObj,Sem.run,aA]
 have eB:(setObj i.bl (.deferred none)).run P w=.ok () {w with heap:=w.heap.setIfInBounds i.bl (.deferred none)}:=by simp[setObj,Sem.run,aA]
 simp only[Instr.takeDeferred,Sem.run_bind,iI,Result.andThen_ok,eB,Sem.run_pure]
end
end aP
namespace aP
open Go
section
variable {P:Program}
theorem step_take{c7:Frame}{cs:List Frame}{w w':World}{b:Nat}{args:Array Value}{ds calls:List Deferred}(hm:c7.mode≠ .run)(ao:c7.defers={target:=.collected b,args:=args}::ds)(ba:(Instr.takeDeferred b).run P w=.ok calls w'):
  step P (lone c7 cs w)=.next (lone {c7 with defers:=calls++ds} cs w'):=by
 refine step_lone_go ?_
 cases DJ:c7.mode with
 |run=>exact absurd DJ hm
 |returning=>simp[stepG,unwind,DJ,ao,Sem.runT_eq,ba]
 |panicking chain=>simp[stepG,unwind,DJ,ao,Sem.runT_eq,ba]
theorem Ends.trans{μ hO:bq}{H H1:J}{w cN:World}{x:av}{e:Ending}{w':World}(ak:bt μ H w)(iT:bt hO H1 cN)(aT:cb μ H w hO H1 cN)(h:Ends hO H1 cN x e w'):Ends μ H w x e w':=by
 cases x with
 |ret v aW=>obtain⟨aX,u,ab,ad,ar,aG⟩:=h;exact⟨aX,u,ab,ad,ar,cb.trans ak iT aT aG⟩
 |b6 v aW=>obtain⟨aX,u,ab,ad,ar,aG⟩:=h;exact⟨aX,u,ab,ad,ar,cb.trans ak iT aT aG⟩
 |fail s=>trivial
theorem AI{call:aI->List I->J->av}(ag:jq P call)(hdr:∀need bP,mL P need bP call)(en:vd P){need:Nat}{fn:Func}{r:aY}:
  ∀(k:Nat) (eM:Option I) (ds:List bU) (H:J) (μ:bq) (w:World) (c7:Frame) (cs:List Frame),(jj P call need fn r k eM ds H).k0=true->bt μ H w->hn P μ->iE need μ r c7.tmps->P.funcs[c7.fn]? =some fn->c7.kind=.normal->
   gq μ ds c7.defers->mM μ eM c7.mode->∃e w' DK,Ends μ H w (jj P call need fn r k eM ds H) e w'/\Steps P (lone c7 cs w) (lone DK cs w')/\DK.fn=c7.fn/\DK.leaving P w' e
 |0,eM,ds,H,μ,w,c7,cs,b7,ak,al,aj,hf,aq,ao,aK=>by cases b7
 |k+1,eM,[],H,μ,w,c7,cs,b7,ak,al,aj,hf,aq,ao,aK=>by
  have ov:c7.defers=[]:=ao
  cases eM with
  |none=>
   simp only[jj] at b7⊢
   cases iV:qh P need fn r H with
   |none=>rw[iV] at b7;cases b7
   |some v=>
    obtain⟨u,a8,a6⟩:=I9 (P:=P) ak aj iV
    exact⟨.returned u,w,c7,⟨μ,u,rfl,a6,ak,cb.refl _ _ _⟩,Steps.refl _ _,rfl,aK,ov,aq,fn,hf,a8⟩
  |some v=>
   obtain⟨u,ab,ad⟩:=aK
   exact⟨.panicked _,w,c7,⟨μ,u,rfl,ad,ak,cb.refl _ _ _⟩,Steps.refl _ _,rfl,ab,ov,fn,hf⟩
 |k+1,eM,.collected b::ds,H,μ,w,c7,cs,b7,ak,al,aj,hf,aq,ao,aK=>by
  obtain⟨rJ,dl,xK,ab,ad⟩:=ao
  cases ab with
  |collected _ i af=>
  simp only[jj] at b7⊢
  cases DL:H.get b with
  |none=>rw[DL] at b7;cases b7
  |some o=>
   rw[DL] at b7
   cases o<;>try (cases b7;done)
   case defrd calls=>
    cases calls with
    |none=>cases b7
    |some RF=>
     simp only at b7⊢
     obtain⟨w',l,aA,ay,bw,eh⟩:=RE (P:=P) ak af DL
     have hs:=step_take (cs:=cs) aK.run xK aA
     obtain⟨e,cK,jV,r1,r2,ec,fb⟩:=AI ag hdr en k eM (RF++ds) _ μ w' {c7 with defers:=l++dl} cs b7 bw al aj hf aq (ay.append ad) aK
     refine⟨e,cK,jV,?_,Steps.head hs r2,ec,fb⟩
     exact Ends.trans ak bw eh r1
 |k+1,eM,.call g args::ds,H,μ,w,c7,cs,b7,ak,al,aj,hf,aq,ao,aK=>by
  obtain⟨rJ,dl,xK,ab,ad⟩:=ao
  cases ab with
  |call _ _ cap vs RG=>
  simp only[jj] at b7⊢
  cases rQ:P.funcs[g]? with
  |none=>rw[rQ] at b7;cases b7
  |some hz=>
   rw[rQ] at b7
   simp only at b7⊢
   cases ve:hz.body with
   |none=>
    have:mC P call hz args (uW eM) H=.fail "no body" :=by simp[mC,ve]
    rw[this] at b7;cases b7
   |some gc=>
    obtain⟨kB,qC⟩:=en g hz gc rQ ve
    have aM:hD μ .deferred ({c7 with defers:=dl}::cs) (uW eM) ({c7 with defers:=dl}::cs):=mM.q (c:={c7 with defers:=dl}) aK
    have ae:=I_ (P:=P) ag hdr rQ (kind:=.deferred) ve kB (args:=args) (vs:=vs++cap) (q:=uW eM) RG ak al aM
    have hinv:(invoke (.fn (.func g) ⟨cap⟩) ⟨vs⟩).run P w=.ok (.enter g ⟨vs++cap⟩) w:=by
     have:=AH (P:=P) rQ ve qC (⟨vs⟩++⟨cap⟩) w
     simpa[invoke] using this
    have AJ:=step_defer (P:=P) (cs:=cs) aK.run xK (d:={target:=.fn (.func g) ⟨cap⟩,args:=⟨vs⟩}) rfl hinv
    cases aa:mC P call hz args (uW eM) H with
    |fail s=>rw[aa] at b7;cases b7
    |ok e r' bd bk aW=>
     rw[aa] at b7 ae
     obtain⟨aX,w',cA,bO,s1,s2,bK,bN,ch,c3,dA⟩:=ae
     simp only[HB] at b7⊢
     cases iV:qh P (dL hz) hz r' aW with
     |none=>rw[iV] at b7;cases e<;>cases bd<;>cases b7
     |some ac9=>
      rw[iV] at b7
      obtain⟨u,a8,a6⟩:=I9 (P:=P) bN s2 iV
      have main:∀(he:e=.nrm\/e=.ret) (ov:bd=[]) (gz:(jj P call need fn r k (xf bk eM) ds aW).k0=true),
        ∃ay cK jV,Ends μ H w (jj P call need fn r k (xf bk eM) ds aW) ay cK/\Steps P (lone c7 cs w) (lone jV cs cK)/\jV.fn=c7.fn/\jV.leaving P cK ay:=by
       intro he ov gz
       subst ov
       have xX:cA.defers=[]:=c3
       have xY:∃todo,Steps P (lone (Frame.enter P g ⟨vs++cap⟩ .deferred) ({c7 with defers:=dl}::cs) w) (lone {({(default:Frame) with fn:=g,kind:=.deferred}:Frame).atR cA todo with mode:=.returning} bO w'):=by
        rcases he with rfl|rfl
        · exact⟨_,Steps.trans s1 (.one (stepR_end rfl))⟩
        · obtain⟨bh,tp⟩:=s1
          exact⟨_,Steps.trans tp (.one (stepR_ret rfl))⟩
       obtain⟨todo,xY⟩:=xY
       have iI:({({(default:Frame) with fn:=g,kind:=.deferred}:Frame).atR cA todo with mode:=.returning}:Frame).going P w' (.returned u):=⟨rfl,xX,hz,rQ,a8⟩
       have caller:∃m,bO={({c7 with defers:=dl}:Frame) with mode:=m}::cs/\mM aX (xf bk eM) (settle m):=by
        have b8:mM aX eM (settle c7.mode):=by
         have xZ:=aK.mono ch.le
         cases eM with
         |none=>have:c7.mode=.returning:=xZ;rw[this];rfl
         |some v=>obtain⟨u,ab,ad⟩:=xZ;rw[ab];exact⟨u,rfl,ad⟩
        cases bk with
        |none=>exact⟨c7.mode,dA.1,b8⟩
        |act v=>exact⟨c7.mode,dA.1,b8⟩
        |done v=>
         obtain⟨_,c,rest,u,aA,ay,bw,eh⟩:=dA
         cases aA
         exact⟨_,eh,rfl⟩
       obtain⟨m,rfl,RH⟩:=caller
       have ar:=step_going_returned (P:=P) (c:={({c7 with defers:=dl}:Frame) with mode:=m}) (cs:=cs) rfl iI
       obtain⟨ay,cK,jV,r1,r2,ec,fb⟩:=AI ag hdr en k (xf bk eM) ds aW aX w' {c7 with defers:=dl,mode:=settle m} cs gz bN (al.mono ch.le) (aj.mono ch.le) hf aq (ad.mono ch.le) RH
       exact⟨ay,cK,jV,Ends.trans ak bN ch r1,Steps.head AJ (Steps.trans xY (Steps.head ar r2)),ec,fb⟩
      cases bd with
      |cons x xs=>cases e<;>cases b7
      |nil=>
       cases e with
       |nrm=>exact main (.inl rfl) rfl b7
       |ret=>exact main (.inr rfl) rfl b7
       |exit id=>cases b7
       |goto l=>cases b7
       |b6 v=>cases b7
theorem Ja{P:Program}{m jW:Machine}{e:Ending}(h:Steps P m jW)(he:e≠ .outgrown):Comes P m jW e:=by
 cases e with
 |outgrown=>exact absurd rfl he
 |_=>exact h
theorem RI{call:aI->List I->J->av}(ag:jq P call)(hdr:∀need bP,mL P need bP call)(en:vd P){f:FuncId}{fn:Func}{c:Code}(hf:P.funcs[f]? =some fn)(ae:fn.body=some c)
  {args:List I}{vs:List Value}{H:J}{μ:bq}{w:World}(aC:cf μ args vs)(ak:bt μ H w)(al:hn P μ)(b7:(pg P call fn (mC P call fn args .none H)).k0=true):
  Calls P f ⟨vs⟩ w (Ends μ H w (pg P call fn (mC P call fn args .none H))):=by
 intro cs
 obtain⟨kB,qC⟩:=en f fn c hf ae
 have aM:hD μ .normal cs .none cs:=⟨rfl,λc7 aq=>by simp[tryRecover,aq]⟩
 have fk:=I_ (P:=P) ag hdr hf (kind:=.normal) ae kB aC ak al aM
 generalize aa:mC P call fn args .none H=x at b7 fk⊢
 cases x with
 |fail s=>cases b7
 |ok e r d q aW=>
  obtain⟨aX,w',cA,bO,s1,s2,bK,bN,ch,c3,dA⟩:=fk
  have fC:bO=cs:=by
   cases q with
   |none=>exact dA.1
   |act v=>exact dA.1
   |done v=>exact absurd dA.1 (by intro h;cases h)
  subst fC
  have main:∀(eM:Option I) (c7:Frame),c7.fn=f->c7.tmps=cA.tmps->c7.defers=cA.defers->c7.kind=.normal->mM aX eM c7.mode->Steps P (lone (Frame.enter P f ⟨vs⟩ .normal) bO w) (lone c7 bO w')->
    (jj P call (dL fn) fn r 100 eM d aW).k0=true->∃e cK jV,Ends μ H w (jj P call (dL fn) fn r 100 eM d aW) e cK/\Comes P (lone (Frame.enter P f ⟨vs⟩ .normal) bO w) (lone jV bO cK) e/\jV.fn=f/\jV.leaving P cK e:=by
   intro eM c7 ab ad ar aG bJ cu gz
   subst ab
   obtain⟨ay,cK,jV,r1,r2,ec,fb⟩:=AI ag hdr en 100 eM d aW aX w' c7 bO gz bN (al.mono ch.le) (by rw[ad];exact s2) hf aG (by rw[ar];exact c3) bJ
   have x0:=Ends.trans ak bN ch r1
   exact⟨ay,cK,jV,x0,Ja (cu.trans r2) (λe=>Ay gz _ (e▸x0)),ec,fb⟩
  cases e with
  |nrm=>exact main none {({(default:Frame) with fn:=f,kind:=.normal}:Frame).atR cA [] with mode:=.returning} rfl rfl rfl rfl rfl (Steps.trans s1 (.one (stepR_end rfl))) b7
  |ret=>obtain⟨bh,tp⟩:=s1;exact main none {({(default:Frame) with fn:=f,kind:=.normal}:Frame).atR cA (.code .ret::bh) with mode:=.returning} rfl rfl rfl rfl rfl (Steps.trans tp (.one (stepR_ret rfl))) b7
  |b6 v=>obtain⟨bh,u,ab,ad⟩:=s1;exact main (some v) _ rfl rfl rfl rfl ⟨u,rfl,ab.1⟩ ad b7
  |exit id=>cases b7
  |goto l=>cases b7
end
end aP
namespace aP
open Go
section
variable {P:Program}
theorem Jb{need:Nat}{μ:bq}:∀(ps:List Nat) (args:List I) (vs:List Value) (r fA:aY) (cg:Array Value),(∀t∈ps,t<cg.size)->iE need μ r cg->cf μ args vs->uX ps args r=some fA->
  iE need μ fA ((ps.zip vs).foldl (λcg (p:Nat×Value)=>cg.setIfInBounds p.1 p.2) cg)/\((ps.zip vs).foldl (λcg (p:Nat×Value)=>cg.setIfInBounds p.1 p.2) cg).size=cg.size/\ps.length=vs.length
 |[],[],vs,r,fA,cg,aK,aj,aC,h=>by cases aC;cases h;exact⟨aj,rfl,rfl⟩
 |t::ck,v::args,vs,r,fA,cg,aK,aj,aC,h=>by
  obtain⟨u,us,rfl,ab,ad⟩:=aC
  simp only[uX] at h
  have qz:iE need μ (r.set (g2 t) v) (cg.setIfInBounds t u):=λs hs=>by
   rw[aY.cV,xV (aK t (by simp))]
   by_cases e:s=t
   · rw[if_pos e,if_pos e];exact ab
   · rw[if_neg e,if_neg e];exact aj s hs
  obtain⟨a8,a6,b4⟩:=Jb ck args us _ fA (cg.setIfInBounds t u) (λs hs=>by simp;exact aK s (by simp[hs])) qz ad h
  exact⟨a8,by rw[List.zip_cons_cons,List.foldl_cons];rw[a6];simp,by simp[b4]⟩
 |[],_::_,vs,r,fA,cg,aK,aj,aC,h=>by cases h
 |_::_,[],vs,r,fA,cg,aK,aj,aC,h=>by cases h
theorem DM{μ:bq}{H:J}{w:World}(ak:bt μ H w){l:Nat}{i:eV}(aw:μ l=some i){st:LoopState}{fS:Option Code}{gN:Nat}{rg:aY}{ps:List Nat}{as cn:Code}{eL:Nat}(al:H.get l=some (.loop st fS gN rg ps as cn eL)):
  ∃cg hN fn,μ eL=some hN/\(Instr.getLoop i.bl).run P w=.ok {state:=st,pending:=fS,fn:=fn,tmps:=cg,params:=⟨ps⟩,assign:=as,body:=cn,defers:=hN.bl} w/\iE gN μ rg cg/\hA cg.size as=true/\hA cg.size cn=true/\(∀t∈ps,t<cg.size)/\
   ∀b2 vf,∃w',(setObj i.bl (.loop {state:=b2,pending:=vf,fn:=fn,tmps:=cg,params:=⟨ps⟩,assign:=as,body:=cn,defers:=hN.bl})).run P w=.ok () w'/\
    bt μ (H.set l (some (.loop b2 vf gN rg ps as cn eL))) w'/\cb μ H w μ (H.set l (some (.loop b2 vf gN rg ps as cn eL))) w':=by
 obtain⟨cg,hN,fn,aA,ay,bw,eh,fH,gI⟩:=ak.rel _ _ i al aw
 have cd:=(ak.lt _ _ aw).2
 have iI:(getObj i.bl).run P w=.ok (.loop {state:=st,pending:=fS,fn:=fn,tmps:=cg,params:=⟨ps⟩,assign:=as,body:=cn,defers:=hN.bl}) w:=by simp[getObj,Sem.run,ay]
 refine⟨cg,hN,fn,aA,?_,bw,eh,fH,gI,λb2 vf=>?_⟩
 · simp only[Instr.getLoop,Sem.run_bind,iI,Result.andThen_ok,Sem.run_pure]
 · obtain⟨r1,r2⟩:=ak.update (w':={w with heap:=w.heap.setIfInBounds i.bl (.loop {state:=b2,pending:=vf,fn:=fn,tmps:=cg,params:=⟨ps⟩,assign:=as,body:=cn,defers:=hN.bl})}) (o':=.loop b2 vf gN rg ps as cn eL) al rfl aw (by simp) (λr aj=>by simp[Array.getElem?_setIfInBounds];intro e;exact absurd e.symm aj) rfl rfl rfl
     ⟨cg,hN,fn,aA,by simp[cd],bw,eh,fH,gI⟩
   exact⟨_,by simp[setObj,Sem.run,ay],r1,r2⟩
theorem RJ{b:Frame}{a:Act}{bh:List Item}{c:Frame}{cs:List Frame}{w:World}{chain:List PanicEntry}(ao:a.defers=[])(aN:DC bh):
  step P (lone {b.atR a bh with mode:=.panicking chain} (c::cs) w)=.next (lone (c.raise chain) cs w):=by
 have RK:({b.atR a bh with mode:=.panicking chain}:Frame).catches P=false:=by
  unfold Frame.catches
  cases hf:P.funcs[b.fn]? with
  |some fn=>simp[Frame.atR,hf]
  |none=>
   cases bh with
   |nil=>simp[Frame.atR,hf]
   |cons x t=>cases x<;>first|exact aN.elim|simp[Frame.atR,hf]
 refine step_lone_go ?_
 have Jc:=RK
 simp only[Frame.atR,ao] at Jc⊢
 simp[stepG,unwind,Jc]
theorem RL{μ:bq}{H:J}{w:World}{l:Nat}{i:eV}(aw:μ l=some i){b:Frame}(ae:b.roundOf=some i.bl)(aq:b.kind=.normal){need bP:Nat}{c:Frame}{cs:List Frame}{fe:Machine}{x:jG}(aa:k2 P need bP μ H w b [] (c::cs) fe x)(ac_:∀c7:Frame,c7.kind=b.kind->tryRecover c7 (c::cs)=none)(b7:(xg l x).k0=true)(ak:bt μ H w):
  rN P fe c cs (Ends μ H w (xg l x)):=by
 cases x with
 |fail s=>cases b7
 |ok e r d q aW=>
  obtain⟨aX,w',cA,bO,s1,s2,bK,bN,ch,c3,dA⟩:=aa
  have fC:bO=c::cs:=by
   cases q with
   |none=>exact dA.1
   |act v=>exact dA.1
   |done v=>exact absurd (aq.symm.trans dA.1) (by intro h;cases h)
  subst fC
  cases d with
  |cons y ys=>cases b7
  |nil=>
   have xX:cA.defers=[]:=c3
   simp only[xg] at b7⊢
   cases al:aW.get l with
   |none=>rw[al] at b7;cases b7
   |some o=>
    rw[al] at b7
    cases o<;>try (cases b7;done)
    case loop st fS gN rg ps as cn eL=>
     cases st<;>try (cases b7;done)
     simp only at b7⊢
     obtain⟨cg,hN,fn,ai,ax,_,_,_,_,aB⟩:=DM (P:=P) bN (ch.le _ _ aw) al
     have fin:∀nC:Option Code,∃cK,(Instr.endRound i.bl nC).run P w'=.ok (.bool nC.isNone) cK/\bt aX (aW.set l (some (.loop (if nC.isNone then .ready else .done) nC gN rg ps as cn eL))) cK/\cb aX aW w' aX (aW.set l (some (.loop (if nC.isNone then .ready else .done) nC gN rg ps as cn eL))) cK:=λnC=>by
      obtain⟨cK,a8,a6,b4⟩:=aB (if nC.isNone then .ready else .done) nC
      refine⟨cK,?_,a6,b4⟩
      simp only[Instr.endRound,Sem.run_bind,ax,Result.andThen_ok,a8,Sem.run_pure]
     cases e with
     |nrm=>
      obtain⟨cK,a8,a6,b4⟩:=fin none
      exact⟨.returned (.bool true),cK,⟨aX,_,rfl,rfl,a6,cb.trans ak bN ch b4⟩,Steps.trans s1 (.one (stepR_round_end ae aq a8))⟩
     |ret=>
      obtain⟨bh,s1⟩:=s1
      obtain⟨cK,a8,a6,b4⟩:=fin (some .ret)
      exact⟨.returned (.bool false),cK,⟨aX,_,rfl,rfl,a6,cb.trans ak bN ch b4⟩,Steps.trans s1 (.one (stepR_round_ret ae aq a8))⟩
     |exit id=>
      obtain⟨bh,tp,s1⟩:=s1
      obtain⟨cK,a8,a6,b4⟩:=fin (some (.exit id))
      exact⟨.returned (.bool false),cK,⟨aX,_,rfl,rfl,a6,cb.trans ak bN ch b4⟩,Steps.trans s1 (.one (stepR_round_exit ae aq (tp.trans rfl) a8))⟩
     |b6 v=>
      obtain⟨bh,u,⟨ab,ad⟩,s1⟩:=s1
      exact⟨.panicked _,w',⟨aX,u,rfl,ab,bN,ch⟩,Steps.trans s1 (.one (RJ xX ad))⟩
     |goto t=>cases b7
theorem RM{call:aI->List I->J->av}(ag:jq P call)(hdr:∀need bP,mL P need bP call){l:Nat}{args:List I}{H:J}{μ:bq}{w:World}{i:eV}{vs:List Value}(b7:(sZ P call l args H).k0=true)(ak:bt μ H w)(mH:hn P μ)(aw:μ l=some i)(aC:cf μ args vs):
  IN P i.bl vs w (Ends μ H w (sZ P call l args H)):=by
 unfold sZ at b7⊢
 cases al:H.get l with
 |none=>rw[al] at b7;cases b7
 |some o=>
  rw[al] at b7
  cases o<;>try (cases b7;done)
  case loop st fS gN rg ps as cn eL=>
   cases st<;>try (cases b7;done)
   simp only at b7⊢
   cases a2:uX ps args rg with
   |none=>rw[a2] at b7;cases b7
   |some fA=>
    rw[a2] at b7
    simp only at b7⊢
    obtain⟨cg,hN,fn,ai,ax,aB,bE,bS,dC,eY⟩:=DM (P:=P) ak aw al
    obtain⟨ep,gk,lY⟩:=Jb ps args vs rg fA cg dC aB aC a2
    obtain⟨vg,Jd⟩:∃vg,(ps.zip vs).foldl (λcg (p:Nat×Value)=>cg.setIfInBounds p.1 p.2) cg=vg:=⟨_,rfl⟩
    rw[Jd] at ep gk
    refine⟨fn,vg,as,cn,?_,λc cs=>?_⟩
    · simp only[Instr.yield,Sem.run_bind,ax,Result.andThen_ok]
      rw[if_neg (by simp;omega)]
      simp only[Sem.run_bind,Sem.run_pure,Result.andThen_ok]
      rw[<-Jd]
      simp
    · have RN:Frame.round i.bl fn vg as cn .normal=({(default:Frame) with fn:=fn,kind:=.normal,roundOf:=some i.bl}:Frame).atR {tmps:=vg,defers:=[]} [.code as,.beginRound,.code cn]:=rfl
      rw[RN]
      have aM:hD μ .normal (c::cs) .none (c::cs):=⟨rfl,λc7 aq=>by simp[tryRecover,aq]⟩
      have cI:mK μ ({(default:Frame) with fn:=fn,kind:=.normal,roundOf:=some i.bl}:Frame) (some l):=⟨i,aw,rfl⟩
      have ab:=oq ag (hdr gN cg.size) (AG ag) (some l) as bE {(default:Frame) with fn:=fn,kind:=.normal,roundOf:=some i.bl} fA [] .none H μ w {tmps:=vg,defers:=[]} [.beginRound,.code cn] (c::cs) (c::cs) cI ep gk ak mH rfl aM
      generalize dy P gN (some l) call as fA [] .none H=x at ab b7⊢
      cases x with
      |fail s=>cases b7
      |ok e r1 d1 a8 H1=>
       cases e<;>try (cases b7;done)
       case nrm=>
        cases d1<;>try (cases b7;done)
        case nil=>
         obtain⟨hO,cN,cr,jX,s1,s2,bK,bN,ch,c3,dA⟩:=ab
         have fC:jX=c::cs:=by
          cases a8 with
          |none=>exact dA.1
          |act v=>exact dA.1
          |done v=>exact absurd dA.1 (by intro h;cases h)
         subst fC
         simp only[CT] at b7⊢
         cases dZ:H1.get l with
         |none=>rw[dZ] at b7;cases b7
         |some dz=>
          rw[dZ] at b7
          cases dz<;>try (cases b7;done)
          case loop kC RO ada adb ade adf DN adg=>
           cases kC<;>try (cases b7;done)
           simp only at b7⊢
           obtain⟨adh,adi,adj,bH,bY,eb,gO,ho,im,x1⟩:=DM (P:=P) bN (ch.le _ _ aw) dZ
           obtain⟨cK,bo,bG,ed⟩:=x1 .busy RO
           have xS:(Instr.beginRound i.bl).run P cN=.ok () cK:=by
            simp only[Instr.beginRound,Sem.run_bind,bY,Result.andThen_ok,bo,Sem.run_pure]
           have ct:=stepR_beginRound (P:=P) (b:={(default:Frame) with fn:=fn,kind:=.normal,roundOf:=some i.bl}) (a:=cr) (k:=[.code cn]) (cs:=c::cs) rfl xS
           have qD:hD hO .normal (c::cs) .none (c::cs):=⟨rfl,λc7 aq=>by simp[tryRecover,aq]⟩
           have RP:mK hO ({(default:Frame) with fn:=fn,kind:=.normal,roundOf:=some i.bl}:Frame) (some l):=⟨i,ch.le _ _ aw,rfl⟩
           have xX:gq hO [] cr.defers:=c3
           have ad:=oq ag (hdr gN cg.size) (AG ag) (some l) cn bS {(default:Frame) with fn:=fn,kind:=.normal,roundOf:=some i.bl} r1 [] .none _ hO cK cr [] (c::cs) (c::cs) RP s2 bK bG (mH.mono ch.le) xX qD
           have ar:=ad.of_steps ak bG (Steps.trans s1 (.one ct)) (cb.trans ak bN ch ed)
           exact RL aw rfl rfl ar (λc7 aq=>by simp[tryRecover,aq]) b7 ak
end
end aP
namespace aP
open Go
section
variable {P:Program}
def rR:List String:=["internal/abi.NoEscape","internal/bytealg.MakeNoZero","internal/bytealg.IndexByteString","maps.clone"]
def AK(P:Program):Prop:=∀(g:FuncId) (hz:Func),P.funcs[g]? =some hz->hz.body=none->hz.name∈rR->Extern.findNext hz=none
theorem Je:∀(n t:Nat) (acc:Array Value),(Extern.BytealgMakeNoZero.digits n t acc).size=acc.size+n
 |0,t,acc=>rfl
 |n+1,t,acc=>by rw[Extern.BytealgMakeNoZero.digits,Je n];simp;omega
theorem RQ{fn:Func}(aN:fn.name= "internal/abi.NoEscape"):Extern.find fn=some Extern.AbiNoEscape.same:=by
 have ab:Extern.allGenericRows.lookup "internal/abi.NoEscape" =none:=by rfl
 have ad:Extern.allTypedRows.lookup "internal/abi.NoEscape" =none:=by rfl
 have ar:Extern.allRows.lookup "internal/abi.NoEscape" =some Extern.AbiNoEscape.same:=by rfl
 simp[Extern.find,aN,ab,ad,ar]
theorem RR{fn:Func}(aN:fn.name= "internal/bytealg.MakeNoZero"):Extern.find fn=some (Extern.BytealgMakeNoZero.makeNoZero fn.params fn.resultTypes):=by
 have ab:Extern.allGenericRows.lookup "internal/bytealg.MakeNoZero" =none:=by rfl
 have ad:Extern.allTypedRows.lookup "internal/bytealg.MakeNoZero" =some Extern.BytealgMakeNoZero.makeNoZero:=by rfl
 simp[Extern.find,aN,ab,ad]
theorem RS{fn:Func}(aN:fn.name= "internal/bytealg.IndexByteString"):Extern.find fn=some Extern.BytealgIndexByte.indexByte:=by
 have ab:Extern.allGenericRows.lookup "internal/bytealg.IndexByteString" =none:=by rfl
 have ad:Extern.allTypedRows.lookup "internal/bytealg.IndexByteString" =none:=by rfl
 have ar:Extern.allRows.lookup "internal/bytealg.IndexByteString" =some Extern.BytealgIndexByte.indexByte:=by rfl
 simp[Extern.find,aN,ab,ad,ar]
theorem RT{fn:Func}(aN:fn.name= "maps.clone"):Extern.find fn=some Extern.MapsClone.clone:=by
 have ab:Extern.allGenericRows.lookup "maps.clone" =none:=by rfl
 have ad:Extern.allTypedRows.lookup "maps.clone" =none:=by rfl
 have ar:Extern.allRows.lookup "maps.clone" =some Extern.MapsClone.clone:=by rfl
 simp[Extern.find,aN,ab,ad,ar]
theorem Jf(c:Nat):∀(l:List UInt8) (i:Nat),n_ c l i=match l.findIdx? (λb=>Nat.beq b.toNat c) with
  |some j=>((i+j:Nat):Int)
  |none=>-1
 |[],i=>rfl
 |b::l,i=>by
  rw[n_,List.findIdx?_cons]
  cases Nat.beq b.toNat c with
  |true=>simp
  |false=>
   simp only[Jf c l (i+1)]
   cases l.findIdx? (λb=>Nat.beq b.toNat c) with
   |none=>rfl
   |some j=>
    simp only[Option.map_some]
    have:((i+(j+1):Nat):Int)=((i+1+j:Nat):Int):=by congr 1;omega
    exact this.symm
theorem RU(b:ByteArray)(p:UInt8->Bool):(List.range b.size).find? (λi=>p b[i]!)=b.data.toList.findIdx? p:=by
 have bx:b.data.toList.length=b.size:=Array.length_toList
 have hP:∀(i:Nat) (af:i<b.data.toList.length),b[i]! =b.data.toList[i]:=λi af=>by
  have eQ:i<b.size:=by omega
  rw[getElem!_pos b i eQ];rfl
 cases hf:b.data.toList.findIdx? p with
 |none=>
  rw[List.find?_eq_none]
  intro i af
  have eQ:i<b.data.toList.length:=by rw[bx];simpa using af
  rw[hP i eQ]
  have:=List.findIdx?_eq_none_iff.1 hf _ (List.getElem_mem eQ)
  rw[this];exact Bool.false_ne_true
 |some j=>
  obtain⟨aJ,aK,cd⟩:=List.findIdx?_eq_some_iff_getElem.1 hf
  rw[List.find?_range_eq_some]
  refine⟨?_,by simp;omega,λi af=>?_⟩
  · rw[hP j aJ];exact aK
  · rw[hP i (by omega)]
    have:=cd i af
    simpa using this
theorem RV{α:Type}(n:Int)(f:Int->α)(g:Array Value->α):Extern.BytealgMakeNoZero.makeNoZero.match_3 (λ_=>α) #[.int .i64 n] f g=f n:=rfl
theorem RW{α:Type}(t:TypeId)(r:Nat)(f:TypeId->Nat->α)(e:TypeId->α)(g:Array Value->α):Extern.MapsClone.clone.match_2 (λ_=>α) #[.iface t (.map (some r))] f e g=f t r:=rfl
theorem RX{α:Type}(b c:Value)(f:Value->Value->α)(g:Array Value->α):Extern.BytealgIndexByte.indexByte.match_2 (λ_=>α) #[b,c] f g=f b c:=rfl
theorem RY{f:FuncId}{fn:Func}(hf:P.funcs[f]? =some fn)(ae:fn.body=none)(vh:AK P){args:List I}{H aW:J}{v:I}(h:rh P fn fn.name args H=some (v,aW))
  {μ:bq}{w:World}{vs:List Value}(ak:bt μ H w)(aC:cf μ args vs):
  ∃u w',(callFunc f ⟨vs⟩).run P w=.ok (.value u) w'/\Ends μ H w (.ret v aW) (.returned u) w':=by
 have call:∀e:Array Value->Sem Value,fn.name∈rR->Extern.find fn=some e->(callFunc f ⟨vs⟩).run P w=(do let v<-e ⟨vs⟩;pure (.value v):Sem Next).run P w:=by
  intro e hm he
  have aN:=vh f fn hf ae hm
  have DO:(fn.name== "runtime.NumGoroutine")=false:=by
   simp only[rR,List.mem_cons,List.mem_nil_iff,or_false] at hm
   rcases hm with h|h|h|h<;>rw[h]<;>decide
  rw[run_callFunc_extern hf DO (by rw[ae];rfl) aN he];simp only[Sem.run_bind];rfl
 unfold rh at h
 split at h
 · rename_i n
   split at h
   · rename_i ow
     split at h
     · rename_i t ba
       split at h
       · rename_i e hu
         split at h
         · rename_i hle
           cases h
           have Al:n<=1099511627776:=by simpa using hle
           obtain⟨u,us,rfl,ab,ad⟩:=aC
           cases ab;cases ad
           have bx:∀(t:TypeId),(Question.appendCap n 0 t).forced=false:=λ_=>rfl
           obtain⟨cap,iG,Jg⟩:∃cap,(Question.appendCap n 0 e).cut (w.tape w.drawn (Question.appendCap n 0 e))=cap/\n<=cap:=⟨_,rfl,by simp[Question.cut]⟩
           obtain⟨Jh,nF⟩:∃x,(Question.extern "internal/bytealg.MakeNoZero.bytes" 0).cut (w.drew.tape w.drew.drawn (Question.extern "internal/bytealg.MakeNoZero.bytes" 0))=x:=⟨_,rfl⟩
           have ao:=Je cap Jh #[]
           have rS:=ak.drew.drew
           obtain⟨r1,r2⟩:=rS.alloc (.cells (List.replicate n .bad) e .a1 0 0) (.cells (Extern.BytealgMakeNoZero.digits cap Jh #[]) e) cap
            ⟨_,0,0,World.heap_alloc_new _ _,λj v aJ=>by
              have gv:j<n:=by
               rcases Nat.lt_or_ge j n with h|h
               · exact h
               · rw[List.getElem?_eq_none (by simpa using h)] at aJ;cases aJ
              rw[List.getElem?_replicate,if_pos gv] at aJ
              cases aJ
              refine⟨_,Array.getElem?_eq_getElem (by rw[Nat.zero_add,ao];simp;omega),trivial⟩,by rw[ao];simp,by simpa using Jg,λj _ _ h=>by omega⟩
           refine⟨_,_,?_,fr μ H.n ⟨w.drew.drew.heap.size,0,cap⟩,_,rfl,⟨_,gw _ _ _,cap,rfl,Jg,by simp⟩,r1,cb.trans ak ak.drew cb.drew (cb.trans ak.drew rS cb.drew r2)⟩
           rw[call _ (by rw[ow];simp[rR]) (RR ow)]
           have RZ:¬((Int.ofNat n<0||Int.ofNat n>2^48)=true):=by
            have ad:(2:Int)^48=281474976710656:=by rfl
            have ar:Int.ofNat n=(n:Int):=rfl
            rw[ad,ar];simp only[Bool.or_eq_true,decide_eq_true_eq];omega
           have R0:(Question.extern "internal/bytealg.MakeNoZero.bytes" 0).forced=false:=rfl
           have x2:(Int.ofNat n).toNat=n:=rfl
           delta Extern.BytealgMakeNoZero.makeNoZero
           rw[RV]
           simp only[Sem.run_bind,ba,Sem.run_pure,bX hu,Result.andThen_ok]
           rw[if_neg RZ]
           simp only[Sem.run_bind,run_choose,x2,bx,R0,Bool.false_eq_true,if_false,World.drew_eq,iG,Result.andThen_ok,run_askRoom,nF,Sem.run_pure]
           rfl
         · cases h
       · cases h
     · cases h
   · cases h
 · rename_i x _
   obtain⟨u,us,rfl,ab,ad⟩:=aC
   cases ad
   split at h
   · rename_i ow
     cases h
     refine⟨u,w,?_,μ,u,rfl,ab,ak,cb.refl _ _ _⟩
     rw[call _ (by rw[ow];simp[rR]) (RQ ow)]
     rfl
   · split at h
     · rename_i ow
       split at h
       · rename_i t r
         split at h
         · rename_i es c al
           cases h
           obtain⟨y,rfl,i,af,rfl⟩:=ab
           obtain⟨ents,aA,ay⟩:=ak.rel _ _ i al af
           have hle:=ak.oc ⟨w.heap.size,0,0⟩
           obtain⟨r1,r2⟩:=ak.alloc (.map es c) (.map ⟨ents⟩ c) 0 ⟨ents,World.heap_alloc_new _ _,ay.mono hle⟩
           refine⟨_,_,?_,fr μ H.n ⟨w.heap.size,0,0⟩,.iface _ (.map (some w.heap.size)),rfl,⟨.map (some w.heap.size),rfl,⟨w.heap.size,0,0⟩,gw _ _ _,rfl⟩,r1,r2⟩
           rw[call _ (by rw[ow];simp[rR]) (RT ow)]
           have iI:(getObj i.bl).run P w=.ok (.map ⟨ents⟩ c) w:=by simp[getObj,Sem.run,aA]
           simp only[Sem.run_bind]
           rw[show(⟨[Value.iface _ (Value.map (some i.bl))]⟩:Array Value)=#[.iface _ (.map (some i.bl))] from rfl]
           delta Extern.MapsClone.clone
           rw[RW]
           simp only[Sem.run_bind,iI,Result.andThen_ok,run_newObj,Sem.run_pure]
           rfl
         · cases h
       · cases h
     · cases h
 · rename_i s c
   split at h
   · rename_i ow
     split at h
     · rename_i ag
       cases h
       have pk:c<256:=by simpa using ag
       obtain⟨u,us,rfl,ab,ad⟩:=aC
       obtain⟨oi,adk,rfl,ar,aG⟩:=ad
       cases ar;cases aG
       obtain⟨t,rfl,rfl⟩:=ab
       refine⟨_,w,?_,μ,_,rfl,rfl,ak,cb.refl _ _ _⟩
       rw[call _ (by rw[ow];simp[rR]) (RS ow)]
       have nF:(Int.ofNat c).toNat.toUInt8=UInt8.ofNat c:=rfl
       have heq:∀b:UInt8,(b==UInt8.ofNat c)=Nat.beq b.toNat c:=λb=>by
        rw[Bool.eq_iff_iff,beq_iff_eq,Nat.beq_eq,<-UInt8.toNat_inj]
        simp[Nat.mod_eq_of_lt pk]
       delta Extern.BytealgIndexByte.indexByte
       rw[RX]
       simp only[Sem.run_bind,Extern.Bytes.bytesOf,Extern.Bytes.asByte,Sem.run_pure,Result.andThen_ok,nF,heq]
       have hf:=RU t (λb=>Nat.beq b.toNat c)
       rw[hf,Jf]
       cases t.data.toList.findIdx? (λb=>Nat.beq b.toNat c) with
       |none=>rfl
       |some j=>
        simp only[Nat.zero_add]
        rfl
     · cases h
   · cases h
 · cases h
def nG(P:Program)(intr:Nat->List I->J->Option (I×J)):Prop:=
 ∀f args H v aW,intr f args H=some (v,aW)->∀μ w (vs:List Value),bt μ H w->hn P μ->cf μ args vs->tj P f vs w (Ends μ H w (.ret v aW))
theorem R2(P:Program):nG P (λ_ _ _=>none):=λ_ _ _ _ _ h=>by cases h
theorem R3{call:aI->List I->J->av}(ag:jq P call)(hdr:∀need bP,mL P need bP call)(en:vd P)(vh:AK P){f:Nat}{args:List I}{H:J}(b7:(qi P call f args H).k0=true)
  {μ:bq}{w:World}{vs:List Value}(ak:bt μ H w)(al:hn P μ)(aC:cf μ args vs):tj P f vs w (Ends μ H w (qi P call f args H)):=by
 unfold qi at b7⊢
 cases hf:P.funcs[f]? with
 |none=>rw[hf] at b7;cases b7
 |some fn=>
  rw[hf] at b7
  simp only at b7⊢
  cases ae:fn.body with
  |none=>
   rw[ae] at b7
   simp only at b7⊢
   cases aa:rh P fn fn.name args H with
   |none=>rw[aa] at b7;cases b7
   |some p=>
    obtain⟨v,aW⟩:=p
    obtain⟨u,w',ab,ad⟩:=RY hf ae vh aa ak aC
    exact .inl ⟨u,w',ab,ad⟩
  |some c=>
   rw[ae] at b7
   simp only at b7⊢
   obtain⟨kB,qC⟩:=en f fn c hf ae
   exact .inr ⟨AH hf ae qC _ _,RI ag hdr en hf ae aC ak al b7⟩
theorem Ji{intr:Nat->List I->J->Option (I×J)}(af:nG P intr)(hdr:∀call,jq P call->∀need bP,mL P need bP call)(en:vd P)(vh:AK P):∀n,jq P (fa P intr n)
 |0=>⟨λf args H al=>(by cases al),λl args H al=>(by cases al)⟩
 |n+1=>by
  have a7:=Ji af hdr en vh n
  refine⟨λf args H b7 μ w vs ak al aC=>?_,λl args H b7 μ w i vs ak al aw aC=>?_⟩
  · simp only[fa] at b7⊢
    cases aa:intr f args H with
    |some p=>
     obtain⟨v,aW⟩:=p
     exact af f args H v aW aa μ w vs ak al aC
    |none=>
     rw[aa] at b7
     exact R3 a7 (hdr _ a7) en vh b7 ak al aC
  · simp only[fa] at b7⊢
    exact RM a7 (hdr _ a7) b7 ak al aw aC
end
end aP
namespace aP
open Go
def tq(ops:Array Oper)(S:List Nat):List Nat->Prop
 |[]=>∀i,i<ops.size->i∈S
 |i::rest=>i<ops.size/\i∉S/\(∀o,ops[i]? =some o->∀e∈o.after,Region.binds .any e=true->e.on∈S)/\tq ops (i::S) rest
theorem filter_lt{p q:Nat->Bool}(DP:∀x,q x=true->p x=true):∀(l:List Nat) {i:Nat},i∈l->p i=true->q i=false->(l.filter q).length<(l.filter p).length
 |[],i,h,_,_=>by cases h
 |a::l,i,h,aK,aM=>by
  have hle:∀l:List Nat,(l.filter q).length<=(l.filter p).length:=λl=>by
   induction l with
   |nil=>simp
   |cons b l a7=>
    simp only[List.filter_cons]
    cases ae:q b with
    |true=>simp[DP b ae];exact a7
    |false=>cases p b<;>simp<;>omega
  rcases List.mem_cons.1 h with rfl|h
  · have:=hle l
    simp only[List.filter_cons,aK,aM,if_true,Bool.false_eq_true,if_false,List.length_cons];omega
  · have a7:=filter_lt DP l h aK aM
    simp only[List.filter_cons]
    cases ae:q a with
    |true=>simp[DP a ae];exact a7
    |false=>cases p a<;>simp<;>omega
theorem R4{ops:Array Oper}(rT:∀o i,ops[i]? =some o->oa o i=true){listed:Array Bool}(bx:listed.size=ops.size)(aj:Region.ready .any ops listed=[]):∀i,i<ops.size->listed.getD i true=true:=by
 intro i
 induction i using Nat.strongRecOn with
 |ind i a7=>
  intro af
  cases aw:listed.getD i true with
  |true=>rfl
  |false=>
   have a4:ops[i]? =some ops[i]:=Array.getElem?_eq_getElem af
   have:i∈Region.ready .any ops listed:=mem_ready.2 ⟨aw,ops[i],a4,λe he ae=>by
    have:=rT _ _ a4
    unfold oa at this
    rw[List.all_eq_true] at this
    have ad:=this e (by simpa using he)
    simp only[ae,Bool.not_true,Bool.false_or,Nat.blt_eq] at ad
    have ar:=a7 e.on ad (by omega)
    have cd:e.on<listed.size:=by omega
    simp[cd] at ar⊢
    exact ar⟩
   rw[aj] at this;cases this
theorem Jj{ops:Array Oper}(rT:∀o i,ops[i]? =some o->oa o i=true):∀(fuel t:Nat) (listed:Array Bool) (S:List Nat),listed.size=ops.size->(∀i,i<ops.size->(listed.getD i true=true<->i∈S))->
  ((List.range ops.size).filter λi=>!listed.getD i true).length<=fuel->tq ops S (Region.linearise.go .any ops fuel t listed [])
 |0,t,listed,S,bx,il,hf=>by
  simp only[Region.linearise.go,List.reverse_nil,tq]
  intro i af
  rw[<-il i af]
  have h0:((List.range ops.size).filter λi=>!listed.getD i true)=[]:=List.length_eq_zero_iff.1 (Nat.le_zero.1 hf)
  rw[List.filter_eq_nil_iff] at h0
  have:=h0 i (List.mem_range.2 af)
  simpa using this
 |fuel+1,t,listed,S,bx,il,hf=>by
  simp only[Region.linearise.go]
  change tq ops S (match(Region.ready .any ops listed)[t %(Region.ready .any ops listed).length]? with
   |some i=>Region.linearise.go .any ops fuel (t/(Region.ready .any ops listed).length) (listed.setIfInBounds i true) [i]
   |none=>[].reverse)
  cases af:(Region.ready .any ops listed)[t %(Region.ready .any ops listed).length]? with
  |none=>
   have qE:Region.ready .any ops listed=[]:=by
    cases aj:Region.ready .any ops listed with
    |nil=>rfl
    |cons x xs=>
     rw[aj] at af
     have cd:t %(x::xs).length<(x::xs).length:=Nat.mod_lt _ (by simp)
     rw[List.getElem?_eq_getElem cd] at af;cases af
   simp only[List.reverse_nil,tq]
   exactλi h=>(il i h).1 (R4 rT bx qE i h)
  |some i=>
   simp only[]
   rw[linearise_go_acc,List.reverse_singleton,List.singleton_append]
   obtain⟨ab,o,ad,ar⟩:=mem_ready.1 (List.mem_of_getElem? af)
   have cd:i<ops.size:=(Array.getElem?_eq_some_iff.1 ad).1
   have xx:i<listed.size:=by omega
   have qz:∀j d,(listed.setIfInBounds i true).getD j d=if j=i then true else listed.getD j d:=λj d=>by
    simp only[Array.getD_eq_getD_getElem?,Array.getElem?_setIfInBounds]
    by_cases e:i=j
    · subst e;simp[xx]
    · rw[if_neg e,if_neg (λh=>e h.symm)]
   refine⟨cd,λh=>?_,λo' iq e he ae=>?_,Jj rT fuel _ _ _ (by simpa using bx) (λj aJ=>?_) ?_⟩
   · have:=(il i cd).2 h
     rw[ab] at this;cases this
   · rw[ad] at iq;cases iq
     have aG:=ar e he ae
     have pA:e.on<listed.size:=by
      rcases Nat.lt_or_ge e.on listed.size with h|h
      · exact h
      · simp[Array.getElem?_eq_none h] at aG
     rw[<-il e.on (by omega)]
     simp[pA] at aG⊢
     exact aG
   · rw[qz,List.mem_cons]
     by_cases e:j=i
     · simp[e]
     · rw[if_neg e,il j aJ];simp[e]
   · have adl:((List.range ops.size).filter λj=>!(listed.setIfInBounds i true).getD j true).length<((List.range ops.size).filter λj=>!listed.getD j true).length:=
       filter_lt (λx aa=>by
        rw[qz] at aa
        by_cases e:x=i
        · rw[if_pos e] at aa;cases aa
        · rw[if_neg e] at aa;exact aa) _ (List.mem_range.2 cd) (by rw[ab];rfl) (by rw[qz,if_pos rfl];rfl)
     omega
theorem R5{ops:Array Oper}(rT:∀o i,ops[i]? =some o->oa o i=true)(t:Nat):tq ops [] (Region.schedule true ops t):=by
 simp only[Region.schedule,Bool.true_or,if_true,Region.linearise]
 refine Jj rT ops.size t _ [] (by simp) (λi af=>by simp[af]) ?_
 refine Nat.le_trans (List.length_filter_le _ _) (by simp)
section
variable {P:Program} {g f_:Operand->I}
theorem DQ{o:Option Operand}(h:∀x∈o.toArray,g x=f_ x):o.map g=o.map f_:=by
 cases o with
 |none=>rfl
 |some x=>simp[h x (by simp)]
theorem x3(o:Oper)(H:J)(h:∀x∈o.op.operands,g x=f_ x):cH P o g H=cH P o f_ H:=by
 obtain⟨dst,op,type,pos,after,guard⟩:=o
 have AL:∀ps:Array (Nat×Operand),(∀x∈ps.map (·.2),g x=f_ x)->(ps.toList.map λp=>(p.1,g p.2))=(ps.toList.map λp=>(p.1,f_ p.2)):=λps aK=>
  List.map_congr_left λp hm=>by rw[aK p.2 (Array.mem_map.2 ⟨p,by simpa using hm,rfl⟩)]
 cases op<;>simp only[Op.operands] at h<;>unfold cH
 case build t ps=>simp only[AL ps λx aa=>h x (by simpa using aa)]
 case buildSlice t n ps=>simp only[AL ps λx aa=>h x (by simpa using aa)]
 case makeFunc fn first captured=>
  simp only[List.map_congr_left (l:=first.toList) λx aa=>h x (by simp at aa;simp[aa]),List.map_congr_left (l:=captured.toList) λx aa=>h x (by simp at aa;simp[aa])]
 case call c=>
  have aT:c.args.toList.map g=c.args.toList.map f_:=List.map_congr_left λx aa=>h x (by simp at aa;simp[Call.operands,aa])
  simp only[aT]
  cases ag:c.callee with
  |value f=>have hf:g f=f_ f:=h f (by simp[Call.operands,ag]);simp only[hf]
  |invoke r m=>have aj:g r=f_ r:=h r (by simp[Call.operands,ag]);simp only[aj]
  |builtin b=>rfl
 case defer c=>
  have aT:c.args.toList.map g=c.args.toList.map f_:=List.map_congr_left λx aa=>h x (by simp at aa;simp[Call.operands,aa])
  simp only[aT]
  cases ag:c.callee with
  |value f=>have hf:g f=f_ f:=h f (by simp[Call.operands,ag]);simp only[hf]
  |invoke r m=>rfl
  |builtin b=>rfl
 case makeMap t r=>cases r<;>simp_all
 case slice t x aO af mx=>
  have aA:aO.map g=aO.map f_:=DQ λy aS=>h y (by simp at aS;simp[aS])
  have ay:af.map g=af.map f_:=DQ λy aS=>h y (by simp at aS;simp[aS])
  have bw:mx.map g=mx.map f_:=DQ λy aS=>h y (by simp at aS;simp[aS])
  have eh:g x=f_ x:=h x (by simp)
  have fH:∀o:Option Operand,(o.map λo=>kindName (g o))=(o.map g).map kindName:=λo=>by cases o<;>rfl
  have gI:∀o:Option Operand,(o.map λo=>kindName (f_ o))=(o.map f_).map kindName:=λo=>by cases o<;>rfl
  simp only[aA,ay,bw,eh,fH,gI]
 all_goals (first|rfl|(simp_all;done))
theorem x4(o:Op)(b:Nat)(h:∀x∈o.operands,g x=f_ x):j8 P o g b=j8 P o f_ b:=by
 have AL:∀ps:Array (Nat×Operand),(∀x∈ps.map (·.2),g x=f_ x)->(ps.toList.map λp=>(p.1,g p.2))=(ps.toList.map λp=>(p.1,f_ p.2)):=λps aK=>
  List.map_congr_left λp hm=>by rw[aK p.2 (Array.mem_map.2 ⟨p,by simpa using hm,rfl⟩)]
 cases o<;>simp only[Op.operands] at h<;>unfold j8
 case buildSlice t n ps=>simp only[AL ps λx aa=>h x (by simpa using aa)]
 case makeMap t r=>cases r<;>rfl
 all_goals (first|rfl|(simp_all;done))
theorem R6{o:Oper}{H aW:J}{v:I}(aq:kindOf P o.op=.pure)(h:cH P o g H=.val v aW):aW=H:=by
 have gY:∀{w:String} {x:Option I},fF H w x=.val v aW->aW=H:=λ{w x} e=>by
  cases x with
  |none=>cases e
  |some y=>cases e;rfl
 obtain⟨dst,op,type,pos,after,guard⟩:=o
 cases op<;>simp only[kindOf] at aq<;>(try (cases aq;done))<;>unfold cH at h<;>simp only at h
 case move=>cases h;rfl
 case assign=>cases h;rfl
 case pick=>
  split at h
  · cases h;rfl
  · cases h;rfl
  · cases h
 case build=>
  repeat' (first|contradiction|(cases h;rfl)|(cases h;done)|split at h)
 case load=>
  repeat' (first|contradiction|(cases h;rfl)|(cases h;done)|exact gY h|split at h)
 case nilCheck=>repeat' (first|contradiction|(cases h;rfl)|(cases h;done)|exact gY h|split at h)
 case binOp=>exact gY h
 case unOp=>repeat' (first|contradiction|(cases h;rfl)|(cases h;done)|exact gY h|split at h)
 case convert s d x=>
  have cS:∀e,P.underlying d≠some (.slice e):=λe he=>by rw[he] at aq;cases aq
  unfold iR at h
  repeat' (first|exact absurd (by assumption) (cS _)|(cases h;rfl)|(cases h;done)|split at h)
 case makeInterface=>repeat' (first|contradiction|(cases h;rfl)|(cases h;done)|exact gY h|split at h)
 case makeFunc=>repeat' (first|contradiction|(cases h;rfl)|(cases h;done)|exact gY h|split at h)
 case makeMap r=>cases r<;>cases aq
 case slice=>exact gY h
 case fieldAddr=>repeat' (first|contradiction|(cases h;rfl)|(cases h;done)|exact gY h|split at h)
 case field=>repeat' (first|contradiction|(cases h;rfl)|(cases h;done)|exact gY h|split at h)
 case indexAddr=>repeat' (first|contradiction|(cases h;rfl)|(cases h;done)|exact gY h|split at h)
 case index=>repeat' (first|contradiction|(cases h;rfl)|(cases h;done)|exact gY h|split at h)
 case lookup=>exact gY h
 case typeAssert=>repeat' (first|contradiction|(cases h;rfl)|(cases h;done)|exact gY h|split at h)
 case extract=>repeat' (first|contradiction|(cases h;rfl)|(cases h;done)|exact gY h|split at h)
 case call c=>
  cases ag:c.callee with
  |value f=>rw[ag] at aq;cases aq
  |invoke r m=>rw[ag] at aq;cases aq
  |builtin b=>
   rw[ag] at aq h
   simp only at h
   cases b<;>simp only at aq<;>(try (cases aq;done))<;>unfold h6 at h<;>simp only at h
   all_goals repeat' (first|contradiction|(cases h;rfl)|(cases h;done)|exact gY h|split at h)
end
end aP
namespace aP
open Go
def k3(ops:Array Oper)(S:List Nat)(j:Nat):Prop:=∀o,ops[j]? =some o->∀e∈o.after,Region.binds .any e=true->e.on∈S
def mN(ops:Array Oper)(S:List Nat):Prop:=∀j∈S,k3 ops S j
def Sound(ops:Array Oper)(j m:Nat):Prop:=∀S,mN ops S->k3 ops S j->∀b,Nat.testBit m b=true->b∈S
def x5(ops:Array Oper)(n:Nat)(gH:List Nat):Prop:=∀j,j<n->∃m,nth (n-1-j) gH=some m/\Sound ops j m
theorem R7(a b:Nat)(h:Nat.testBit (1<<<a) b=true):b=a:=by
 rw[Nat.shiftLeft_eq,Nat.one_mul,Nat.testBit_two_pow] at h
 exact(of_decide_eq_true h).symm
theorem Jk{gH:List Nat}{n:Nat}:∀(l:List Edge) (s b:Nat),Nat.testBit (l.foldl (λs e=>match Region.binds .any e with
  |true=>s|||1<<<e.on|||(nth (n-1-e.on) gH).getD 0
  |false=>s) s) b=true->Nat.testBit s b=true\/∃e∈l,Region.binds .any e=true/\(b=e.on\/Nat.testBit ((nth (n-1-e.on) gH).getD 0) b=true)
 |[],s,b,h=>.inl h
 |e::l,s,b,h=>by
  rw[List.foldl_cons] at h
  rcases Jk l _ b h with h|⟨cF,ab,ad⟩
  · cases ae:Region.binds .any e with
    |false=>rw[ae] at h;exact .inl h
    |true=>
     rw[ae] at h
     simp only[Nat.testBit_or,Bool.or_eq_true] at h
     rcases h with(h|h)|h
     · exact .inl h
     · exact .inr ⟨e,by simp,ae,.inl (R7 _ _ h)⟩
     · exact .inr ⟨e,by simp,ae,.inr h⟩
  · exact .inr ⟨cF,by simp[ab],ad⟩
theorem R8{ops:Array Oper}{gH:List Nat}{n:Nat}{o:Oper}(a4:ops[n]? =some o)(ae:oa o n=true)(hm:x5 ops n gH):Sound ops n (xd gH n o):=by
 intro S il aj b h
 unfold xd at h
 rw[<-Array.foldl_toList] at h
 rcases Jk _ _ _ h with h|⟨e,ab,ad,ar⟩
 · simp at h
 · have he:e∈o.after:=by simpa using ab
   have pA:=aj o a4 e he ad
   rcases ar with rfl|ar
   · exact pA
   · have cd:e.on<n:=by
       unfold oa at ae
       rw[List.all_eq_true] at ae
       have:=ae e ab
       simpa[ad] using this
     obtain⟨m,AM,AN⟩:=hm e.on cd
     rw[AM] at ar
     exact AN S il (il _ pA) b ar
theorem x5.cons{ops:Array Oper}{gH:List Nat}{n m:Nat}(h:x5 ops n gH)(hs:Sound ops n m):x5 ops (n+1) (m::gH):=by
 intro j aJ
 by_cases e:j=n
 · subst e;exact⟨m,by simp[nth],hs⟩
 · obtain⟨jW,ab,ad⟩:=h j (by omega)
   refine⟨jW,?_,ad⟩
   have:n+1-1-j=(n-1-j)+1:=by omega
   rw[this];exact ab
theorem Jl:∀(l:List Oper) (n:Nat) (loc:List (Nat×Acc)) (k:Nat) (o:Oper),l[k]? =some o->iS (l.take (k+1)) n loc=hh o (n+k) (iS (l.take k) n loc)
 |[],n,loc,k,o,h=>by simp at h
 |x::l,n,loc,0,o,h=>by simp at h;subst h;simp[iS]
 |x::l,n,loc,k+1,o,h=>by
  have an:l[k]? =some o:=by simpa using h
  have a7:=Jl l (n+1) (hh x n loc) k o an
  simp only[List.take_succ_cons,iS]
  rw[a7]
  have:n+1+k=n+(k+1):=by omega
  rw[this]
theorem x6{ops:Array Oper}:∀(l:List Oper) (n:Nat) (loc:List (Nat×Acc)) (gH:List Nat),(∀k,l[k]? =ops[n+k]?)->(∀s∈e7 l n loc gH,oa s.o s.i=true)->x5 ops n gH->∀(k:Nat) (o:Oper),l[k]? =some o->
  ∃s,(e7 l n loc gH)[k]? =some s/\s.i=n+k/\s.o=o/\s.loc=iS (l.take k) n loc/\Sound ops (n+k) s.e2
 |[],n,loc,gH,aw,he,hm,k,o,h=>by simp at h
 |x::l,n,loc,gH,aw,he,hm,k,o,h=>by
  simp only[e7] at he⊢
  have aa:ops[n]? =some x:=by have:=aw 0;simpa using this.symm
  have ae:oa x n=true:=he ⟨n,x,xd gH n x,loc⟩ (by simp)
  have hs:=R8 aa ae hm
  cases k with
  |zero=>
   simp at h;subst h
   exact⟨_,rfl,rfl,rfl,rfl,hs⟩
  |succ k=>
   obtain⟨s,ab,ad,ar,aG,bJ⟩:=x6 l (n+1) (hh x n loc) (xd gH n x::gH) (λj=>by have:=aw (j+1);simp at this;rw[this];congr 1;omega) (λs hs=>he s (by simp[hs])) (hm.cons hs) k o (by simpa using h)
   exact⟨s,by simpa using ab,by omega,ar,by simpa[iS] using aG,by rw[show n+(k+1)=n+1+k by omega];exact bJ⟩
theorem DR:∀(l:List Oper) (n:Nat) (loc:List (Nat×Acc)) (gH:List Nat),(e7 l n loc gH).length=l.length
 |[],_,_,_=>rfl
 |x::l,n,loc,gH=>by simp[e7,DR l]
theorem vi{ops:Array Oper}:∀{l:List DStep},qj ops l=true->∀s∈l,oa s.o s.i=true
 |[],_,s,h=>by cases h
 |x::l,ao,s,h=>by
  simp only[qj,Bool.and_eq_true] at ao
  rcases List.mem_cons.1 h with rfl|h
  · exact ao.1.1
  · exact vi ao.2 s h
theorem Jm{ops:Array Oper}{s:DStep}:∀{l:List DStep},z5 ops s l=true->∀bc∈l,(∃t,s.o.dst=some t/\t∈lQ ops bc.o)\/(∃t,bc.o.dst=some t/\t∈lQ ops s.o)->Nat.testBit bc.e2 s.i=true
 |[],_,bc,h=>by cases h
 |x::l,ao,bc,h=>by
  simp only[z5,Bool.and_eq_true] at ao
  rcases List.mem_cons.1 h with rfl|h
  · intro aN
    have ab:=ao.1
    split at ab
    · exact ab
    · rename_i ag
      exfalso
      rw[Bool.or_eq_false_iff] at ag
      rcases aN with⟨t,e,hm⟩|⟨t,e,hm⟩
      · have:=ag.1;rw[e] at this;simp[hm] at this
      · have:=ag.2;rw[e] at this;simp[hm] at this
  · exact Jm ao.2 bc h
theorem Jn{ops:Array Oper}:∀{l:List DStep},qj ops l=true->∀(i j:Nat) (s bc:DStep),i<j->l[i]? =some s->l[j]? =some bc->(∃t,s.o.dst=some t/\t∈lQ ops bc.o)\/(∃t,bc.o.dst=some t/\t∈lQ ops s.o)->Nat.testBit bc.e2 s.i=true
 |[],_,i,j,s,bc,_,h,_=>by simp at h
 |x::l,ao,i,j,s,bc,rU,ab,ad=>by
  simp only[qj,Bool.and_eq_true] at ao
  cases j with
  |zero=>omega
  |succ j=>
   have vj:l[j]? =some bc:=by simpa using ad
   cases i with
   |zero=>
    simp at ab;subst ab
    exact Jm ao.1.2 bc (List.mem_of_getElem? vj)
   |succ i=>exact Jn ao.2 i j s bc (by omega) (by simpa using ab) vj
structure tr where
 env:List I
 d:List bU
 q:bF
 h:J
 bf:List (Nat×Nat×J)
section
variable {P:Program} {need:Nat} {inR:Bool} {call:aI->List I->J->av} {ops:Array Oper} {r:aY} {cE:Nat}
def l1(P:Program)(need:Nat)(r:aY)(s:DStep)(env:List I):Operand->I:=λx=>dx s.i env r (cJ P need s.loc x)
inductive ts(P:Program)(need:Nat)(inR:Bool)(call:aI->List I->J->av)(ops:Array Oper)(r:aY)(cE:Nat)(s:DStep)(st:tr):tr->Prop where
 |vk (aq:kindOf P s.o.op=.alloc) (hw:ew (gV P need ops r s.i st.env s)=some false):ts P need inR call ops r cE s st {st with env:=.aQ []::st.env}
 |alloc {v:I} {cw:df} (aq:kindOf P s.o.op=.alloc) (hw:ew (gV P need ops r s.i st.env s)=some true) (aT:j8 P s.o.op (l1 P need r s st.env) (cE+s.i)=some (v,cw)):
   ts P need inR call ops r cE s st {st with env:=v::st.env,h:=st.h.set (cE+s.i) (some cw)}
 |pure {v:I} {bd:List bU} {bk:bF} {an:J} (aq:kindOf P s.o.op=.pure) (he:dO P inR call (gV P need ops r s.i st.env s) s.o (l1 P need r s st.env) st.d st.q st.h=.ok v bd bk an):
   ts P need inR call ops r cE s st {st with env:=v::st.env}
 |ek {v:I} {bd:List bU} {bk:bF} {an:J} (aq:kindOf P s.o.op=.ek) (a4:∀e m h0 l,st.bf=(e,m,h0)::l->Nat.testBit s.e2 e=true)
   (he:dO P inR call (gV P need ops r s.i st.env s) s.o (l1 P need r s st.env) st.d st.q st.h=.ok v bd bk an):ts P need inR call ops r cE s st ⟨v::st.env,bd,bk,an,(s.i,s.e2,st.h)::st.bf⟩
theorem R9{s:DStep}{rest:List DStep}{st:tr}{x:CR}(h:gn P need inR call ops r cE (s::rest) st.env st.d st.q st.h st.bf=x)(hf:∀w,x≠ .fail w):
  (∃b2,ts P need inR call ops r cE s st b2/\gn P need inR call ops r cE rest b2.env b2.d b2.q b2.h b2.bf=x)\/
  (kindOf P s.o.op=.ek/\(∀e m h0 l,st.bf=(e,m,h0)::l->Nat.testBit s.e2 e=true)/\rest.all (λbc=>Nat.testBit bc.e2 s.i)=true/\
   ∃v bd bk an,dO P inR call (gV P need ops r s.i st.env s) s.o (l1 P need r s st.env) st.d st.q st.h=.b6 v bd bk an/\x=.b6 v st.env bd bk an ((s.i,s.e2,st.h)::st.bf)):=by
 simp only[gn] at h
 split at h
 · rename_i aq
   split at h
   · exact absurd h.symm (hf _)
   · rename_i hw;exact .inl ⟨_,.vk aq hw,h⟩
   · rename_i hw
     split at h
     · rename_i v cw aT;exact .inl ⟨_,.alloc aq hw aT,h⟩
     · exact absurd h.symm (hf _)
 · rename_i aq
   split at h
   · rename_i he;exact .inl ⟨_,.pure aq he,h⟩
   · exact absurd h.symm (hf _)
   · exact absurd h.symm (hf _)
 · rename_i aq
   split at h
   · exact absurd h.symm (hf _)
   · rename_i a4
     have iq:∀e m h0 l,st.bf=(e,m,h0)::l->Nat.testBit s.e2 e=true:=λe m h0 l hs=>by rw[hs] at a4;exact a4
     split at h
     · rename_i he;exact .inl ⟨_,.ek aq iq he,h⟩
     · rename_i he
       split at h
       · rename_i en;exact .inr ⟨aq,iq,en,_,_,_,_,he,h.symm⟩
       · exact absurd h.symm (hf _)
     · exact absurd h.symm (hf _)
theorem Jo:∀(l:List DStep) (st:tr) (x:CR),gn P need inR call ops r cE l st.env st.d st.q st.h st.bf=x->(∀w,x≠ .fail w)->
  ∃(f:Nat->tr) (N:Nat),f 0=st/\N<=l.length/\(∀k s,k<N->l[k]? =some s->ts P need inR call ops r cE s (f k) (f (k+1)))/\
   ((N=l.length/\x=.ok (f N).env (f N).d (f N).q (f N).h (f N).bf)\/
    (∃s,l[N]? =some s/\kindOf P s.o.op=.ek/\(∀e m h0 l,(f N).bf=(e,m,h0)::l->Nat.testBit s.e2 e=true)/\(∀k bc,N<k->l[k]? =some bc->Nat.testBit bc.e2 s.i=true)/\
     ∃v bd bk an,dO P inR call (gV P need ops r s.i (f N).env s) s.o (l1 P need r s (f N).env) (f N).d (f N).q (f N).h=.b6 v bd bk an/\x=.b6 v (f N).env bd bk an ((s.i,s.e2,(f N).h)::(f N).bf)))
 |[],st,x,h,hf=>⟨λ_=>st,0,rfl,Nat.le_refl _,λk s aq=>by omega,.inl ⟨rfl,h.symm⟩⟩
 |s::l,st,x,h,hf=>by
  rcases R9 h hf with⟨b2,ab,ad⟩|⟨ab,ad,ar,aG⟩
  · obtain⟨f,N,ai,ax,aB,bE⟩:=Jo l b2 x ad hf
    refine⟨λk=>match k with|0=>st|k+1=>f k,N+1,rfl,by simpa using ax,λk bc aq hs=>?_,?_⟩
    · cases k with
      |zero=>simp at hs;subst hs;simp only[Nat.zero_add,ai];exact ab
      |succ k=>exact aB k bc (by omega) (by simpa using hs)
    · rcases bE with⟨aA,ay⟩|⟨s2,aA,ay,bw,eh,fH⟩
      · exact .inl ⟨by simp[aA],ay⟩
      · refine .inr ⟨s2,by simpa using aA,ay,bw,λk bc aq hs=>?_,fH⟩
        cases k with
        |zero=>omega
        |succ k=>exact eh k bc (by omega) (by simpa using hs)
  · refine⟨λ_=>st,0,rfl,by simp,λk s aq=>by omega,.inr ⟨s,rfl,ab,ad,λk bc aq hs=>?_,aG⟩⟩
    cases k with
    |zero=>omega
    |succ k=>
     rw[List.all_eq_true] at ar
     exact ar bc (List.mem_of_getElem? (by simpa using hs))
mutual
theorem beq_eq:∀(a c:I),I.beq a c=true->a=c
 |.bool a,c,h=>by
  cases c<;>simp only[I.beq] at h<;>first|(cases h;done)|(simp at h;subst h;rfl)
 |.int k n,c,h=>by
  cases c<;>simp only[I.beq] at h<;>first|(cases h;done)|(simp[a_] at h;obtain⟨rfl,rfl⟩:=h;rfl)
 |.str s,c,h=>by
  cases c<;>simp only[I.beq] at h<;>first|(cases h;done)|(rw[oe] at h;simp at h;subst h;rfl)
 |.bb,c,h=>by cases c<;>simp only[I.beq] at h<;>first|(cases h;done)|rfl
 |.ptr x y,c,h=>by
  cases c<;>simp only[I.beq] at h<;>first|(cases h;done)|(rw[Bool.and_eq_true,Nat.beq_eq,Nat.beq_eq] at h;obtain⟨rfl,rfl⟩:=h;rfl)
 |.a0,c,h=>by cases c<;>simp only[I.beq] at h<;>first|(cases h;done)|rfl
 |.slice x y z cap,c,h=>by
  cases c<;>simp only[I.beq] at h<;>(try (cases h;done))
  rename_i Jp PF adm R_
  simp only[Bool.and_eq_true,Nat.beq_eq] at h
  obtain⟨⟨⟨rfl,rfl⟩,rfl⟩,h⟩:=h
  cases cap<;>cases R_<;>simp only[b3.beq] at h<;>first|(cases h;done)|(rw[Nat.beq_eq] at h;subst h;rfl)|rfl
 |.h4,c,h=>by cases c<;>simp only[I.beq] at h<;>first|(cases h;done)|rfl
 |.map x,c,h=>by
  cases c<;>simp only[I.beq] at h<;>first|(cases h;done)|(rw[Nat.beq_eq] at h;subst h;rfl)
 |.fR,c,h=>by cases c<;>simp only[I.beq] at h<;>first|(cases h;done)|rfl
 |.fn x as bs,c,h=>by
  cases c<;>simp only[I.beq] at h<;>(try (cases h;done))
  simp only[Bool.and_eq_true,Nat.beq_eq] at h
  obtain⟨⟨rfl,ab⟩,ad⟩:=h
  rw[vl _ _ ab,vl _ _ ad]
 |.dh x,c,h=>by
  cases c<;>simp only[I.beq] at h<;>first|(cases h;done)|(rw[Nat.beq_eq] at h;subst h;rfl)
 |.e1,c,h=>by cases c<;>simp only[I.beq] at h<;>first|(cases h;done)|rfl
 |.iface t v,c,h=>by
  cases c<;>simp only[I.beq] at h<;>(try (cases h;done))
  simp only[Bool.and_eq_true,Nat.beq_eq] at h
  obtain⟨rfl,ab⟩:=h
  rw[beq_eq _ _ ab]
 |.agg cs,c,h=>by
  cases c<;>simp only[I.beq] at h<;>(try (cases h;done))
  rw[vl _ _ h]
 |.aQ cs,c,h=>by
  cases c<;>simp only[I.beq] at h<;>(try (cases h;done))
  rw[vl _ _ h]
 |.bad,c,h=>by cases c<;>simp only[I.beq] at h<;>cases h
theorem vl:∀(a c:List I),I.nk a c=true->a=c
 |[],[],_=>rfl
 |[],_::_,h=>by simp[I.nk] at h
 |_::_,[],h=>by simp[I.nk] at h
 |x::a,y::c,h=>by
  simp only[I.nk,Bool.and_eq_true] at h
  rw[beq_eq _ _ h.1,vl _ _ h.2]
end
end
end aP
