/-
  THE ABSTRACT EVALUATOR (code, functions, rounds, calls): a deterministic semantics of loaded code, and the proof that its runs are runs of the program in the model, whatever the tape draws. No condition.
-/
import Derived.Test.YtfooahfebojldaaGreatDoorAeb
import Derived.Defers
import Derived.Laws.Externs
import Derived.Orders
set_option linter.unusedVariables false
set_option linter.unusedSimpArgs false
namespace ay
open Go
def rW(P:Program)(need:Nat)(ops:Array Oper):List Oper->List (Nat×Acc)->Nat->List Step
 |[],_,_=>[]
 |o::rest,loc,m=>
  match aliasOf o with
  |some (t,x)=>rW P need ops rest ((t,cP P need loc x)::loc) m
  |none=>⟨j8 P need ops loc o,o,loc,m⟩::rW P need ops rest (lS o m loc) (m+1)
def pr(P:Program)(need:Nat)(ops:Array Oper):List Oper->List (Nat×Acc)->Nat->List (Nat×Acc)
 |[],loc,_=>loc
 |o::rest,loc,m=>
  match aliasOf o with
  |some (t,x)=>pr P need ops rest ((t,cP P need loc x)::loc) m
  |none=>pr P need ops rest (lS o m loc) (m+1)
theorem En(P:Program)(need:Nat)(ops:Array Oper):∀(l:List Oper) (loc:List (Nat×Acc)) (st:List Step) (m:Nat),vl P need ops l loc st m=⟨st.reverse++rW P need ops l loc m,pr P need ops l loc m⟩
 |[],loc,st,m=>by simp[vl,rW,pr]
 |o::rest,loc,st,m=>by
  unfold vl rW pr
  cases a5:aliasOf o with
  |some p=>obtain⟨t,x⟩:=p;simp only[a5];exact En P need ops rest _ st m
  |none=>simp only[a5];rw[En P need ops rest];simp
section
variable {P:Program} {need:Nat}
theorem oj(t u:Nat)(a:Acc)(l:List (Nat×Acc)):iC t ((u,a)::l)=if t=u then some a else iC t l:=by
 rw[iC]
 by_cases h:t=u
 · subst h;simp
 · have:Nat.beq t u=false:=by
     cases ag:Nat.beq t u with
     |false=>rfl
     |true=>exact absurd (Nat.eq_of_beq_eq_true ag) h
   rw[this,if_neg h]
def Acc.below(m:Nat):Acc->Prop
 |.env j=>j<m
 |_=>True
theorem SK{m:Nat}{env:List J}{r:aU}{v:J}{a:Acc}(h:a.below m):d_ (m+1) (v::env) r a=d_ m env r a:=by
 cases a with
 |env j=>
  simp only[Acc.below] at h
  have:m+1-1-j=(m-1-j)+1:=by omega
  simp only[d_,this,nth]
 |lh p=>rfl
 |val v=>rfl
theorem SL{m:Nat}{env:List J}{r:aU}{v:J}:d_ (m+1) (v::env) r (.env m)=v:=by
 simp[d_,nth]
def Eo(m:Nat)(loc:List (Nat×Acc)):Prop:=∀t a,iC t loc=some a->a.below m
theorem A_{m:Nat}{loc:List (Nat×Acc)}(h:Eo m loc)(x:Operand):(cP P need loc x).below m:=by
 cases x with
 |tmp t=>
  simp only[cP]
  cases hf:iC t loc with
  |some a=>exact h t a hf
  |none=>simp only[];cases Nat.testBit need t<;>trivial
 |const v=>trivial
 |global g=>simp only[cP];cases Nat.blt g P.globals.size<;>trivial
 |func f=>trivial
theorem Acc.JT{m n:Nat}(h:m<=n){a:Acc}(a5:a.below m):a.below n:=by
 cases a with
 |env j=>exact Nat.lt_of_lt_of_le a5 h
 |lh p=>trivial
 |val v=>trivial
structure jG(P:Program)(need:Nat)(μ:bl)(r:aU)(m:Nat)(env:List J)(loc:List (Nat×Acc))(b_:Array Value):Prop where
 vE:Eo m loc
 rel:∀t,bd μ (d_ m env r (cP P need loc (.tmp t))) (b_.getD t undef)
theorem jG.mono{μ aP:bl}{r:aU}{m:Nat}{env:List J}{loc:List (Nat×Acc)}{b_:Array Value}(hle:fa μ aP)(h:jG P need μ r m env loc b_):jG P need aP r m env loc b_:=⟨h.vE,λt=>(h.rel t).mono hle⟩
theorem jG.eval{μ:bl}{r:aU}{m:Nat}{env:List J}{loc:List (Nat×Acc)}{a:Act}(h:jG P need μ r m env loc a.tmps)(ao:h3 P μ)(x:Operand):bd μ (d_ m env r (cP P need loc x)) (a.eval x):=by
 cases x with
 |tmp t=>exact h.rel t
 |const v=>exact ke μ v
 |global g=>
  simp only[cP,Act.eval]
  cases ag:Nat.blt g P.globals.size with
  |false=>exact trivial
  |true=>
   obtain⟨i,ab,ae,av⟩:=ao g (by simpa using ag)
   obtain⟨jD,i0,A3⟩:=i
   simp only at ae av
   subst ae;subst av
   exact⟨_,ab,rfl⟩
 |func f=>exact⟨[],[],rfl,rfl,rfl⟩
theorem jG.init{μ:bl}{r:aU}{b_:Array Value}(h:ji need μ r b_):jG P need μ r 0 [] [] b_:=
 ⟨λt a h=>by simp[iC] at h,λt=>by
  simp only[cP,iC]
  cases ag:Nat.testBit need t with
  |true=>exact h t ag
  |false=>trivial⟩
theorem x6{b_:Array Value}{d t:Nat}{u:Value}(aq:d<b_.size):(b_.setIfInBounds d u).getD t undef=if t=d then u else b_.getD t undef:=by
 simp only[Array.getD_eq_getD_getElem?,Array.getElem?_setIfInBounds]
 by_cases h:d=t
 · subst h;simp[aq]
 · rw[if_neg h,if_neg (λe=>h e.symm)]
theorem jG.alias{μ:bl}{r:aU}{m:Nat}{env:List J}{loc:List (Nat×Acc)}{a:Act}(h:jG P need μ r m env loc a.tmps)(ao:h3 P μ){t:Nat}(a2:t<a.tmps.size)(x:Operand):
  jG P need μ r m env ((t,cP P need loc x)::loc) (a.put (some t) (a.eval x)).tmps:=by
 refine⟨λu b hu=>?_,λu=>?_⟩
 · rw[oj] at hu
   split at hu
   · cases hu;exact A_ h.vE x
   · exact h.vE u b hu
 · simp only[cP,oj,Act.put]
   rw[x6 a2]
   by_cases e:u=t
   · simp only[e,if_true];exact h.eval ao x
   · simp only[e,if_false];exact h.rel u
theorem jG.step{μ:bl}{r:aU}{m:Nat}{env:List J}{loc:List (Nat×Acc)}{a:Act}(h:jG P need μ r m env loc a.tmps){o:Oper}(a2:∀t,o.dst=some t->t<a.tmps.size){v:J}{u:Value}(aH:bd μ v u):
  jG P need μ r (m+1) (v::env) (lS o m loc) (a.put o.dst u).tmps:=by
 have old:∀t,bd μ (d_ (m+1) (v::env) r (cP P need loc (.tmp t))) (a.tmps.getD t undef):=λt=>by
  rw[SK (A_ h.vE _)];exact h.rel t
 unfold lS
 cases aq:o.dst with
 |none=>exact⟨λt b ag=>Acc.JT (Nat.le_succ m) (h.vE t b ag),old⟩
 |some d=>
  refine⟨λt b ag=>?_,λt=>?_⟩
  · rw[oj] at ag
    split at ag
    · cases ag;exact Nat.lt_succ_self m
    · exact Acc.JT (Nat.le_succ m) (h.vE t b ag)
  · simp only[Act.put]
    rw[x6 (a2 d aq)]
    by_cases e:t=d
    · simp only[cP,oj,e,if_true,SL];exact aH
    · have:=old t
      simp only[cP,oj,e,if_false] at this⊢
      exact this
theorem JU{ops:Array Oper}{b_:Array Value}{j t:Nat}(h:(ops[j]?).bind (·.dst)=some t):yielded ops b_ j=match b_.getD t undef with
  |.bool b=>some b
  |_=>none:=by
 unfold yielded
 rw[h,Option.bind_some]
 rw[Array.getD_eq_getD_getElem?]
 cases aj:b_[t]? with
 |none=>rfl
 |some v=>simp only[Option.getD_some];cases v<;>rfl
theorem SM{μ:bl}{ops:Array Oper}{loc:List (Nat×Acc)}{o:Oper}{acc:Acc->J}{b_:Array Value}(lo:∀t,bd μ (acc (cP P need loc (.tmp t))) (b_.getD t undef))(nv:∀v,acc (.val v)=v):
  ∀mv,eH (match j8 P need ops loc o with|none=>none|some (a,b)=>some (acc a,b))=some mv->Region.wanted o (yielded ops b_)=mv:=by
 intro mv h
 unfold j8 at h
 unfold Region.wanted
 cases ao:o.guard with
 |none=>rw[ao] at h;simp only[eH] at h;cases h;rfl
 |some p=>
  obtain⟨j,b⟩:=p
  rw[ao] at h
  simp only at h⊢
  cases a2:(ops[j]?).bind (·.dst) with
  |none=>rw[a2] at h;simp only[nv,eH] at h;cases h
  |some t=>
   rw[a2] at h
   simp only at h
   have ai:=lo t
   rw[JU a2]
   generalize acc (cP P need loc (.tmp t))=v at h ai
   unfold eH at h
   split at h
   · rename_i he;cases he
   · rename_i he;cases he;cases h
     have Ep:b_.getD t undef=_:=ai
     rw[Ep];rfl
   · rename_i he;cases he;cases h
     obtain⟨l,aw,kH⟩:=ai
     cases kH
     rw[aw];rfl
   · cases h
def Er:List Item->Prop
 |.call _ _ _ _::_=>False
 |_=>True
def pt(P:Program)(need ck:Nat)(μ:bl)(r:aU)(H:aa)(w:World)(b:Frame)(k:List Item)(cs0:List Frame)(gp:Machine)(loc:List (Nat×Acc)):mm->Prop
 |.ok env bx bq aZ=>∃aP w' dp bS,Steps P gp (lone (b.atR dp k) bS w')/\jG P need aP r env.length env loc dp.tmps/\dp.tmps.size=ck/\bm aP aZ w'/\b4 μ H w aP aZ w'/\gS aP bx dp.defers/\ik aP b.kind cs0 bq bS
 |.bk v bx bq aZ=>∃aP w' dp bS u cd,Steps P gp (lone {b.atR dp cd with mode:=.panicking [{v:=u,recovered:=false}]} bS w')/\Er cd/\bd aP v u/\
   (∀t,iC t loc=none->Nat.testBit need t=true->bd aP (r.get (hc t)) (dp.tmps.getD t undef))/\dp.tmps.size=ck/\bm aP aZ w'/\b4 μ H w aP aZ w'/\gS aP bx dp.defers/\ik aP b.kind cs0 bq bS
 |.fail _=>True
theorem pt.of_steps{ck:Nat}{μ gI:bl}{r:aU}{H H1:aa}{w cq:World}{b:Frame}{k:List Item}{cs0:List Frame}{gp cE:Machine}{loc:List (Nat×Acc)}{x:mm}(aj:bm μ H w)(jB:bm gI H1 cq)(h:Steps P gp cE)(a5:b4 μ H w gI H1 cq)
  (ab:pt P need ck gI r H1 cq b k cs0 cE loc x):pt P need ck μ r H w b k cs0 gp loc x:=by
 cases x with
 |ok env d q aZ=>
  obtain⟨aP,w',dp,bS,s1,s2,bV,cK,cY,dt⟩:=ab
  exact⟨aP,w',dp,bS,h.trans s1,s2,bV,cK,b4.trans aj jB a5 cY,dt⟩
 |bk v d q aZ=>
  obtain⟨aP,w',dp,bS,u,cd,s1,s0,s2,bV,cK,cY,dt,ev⟩:=ab
  exact⟨aP,w',dp,bS,u,cd,h.trans s1,s0,s2,bV,cK,cY,b4.trans aj jB a5 dt,ev⟩
 |fail s=>trivial
theorem Es{ops:Array Oper}:∀(l:List Oper) (loc:List (Nat×Acc)) (m t:Nat),iC t (pr P need ops l loc m)=none->iC t loc=none
 |[],loc,m,t,h=>h
 |o::rest,loc,m,t,h=>by
  unfold pr at h
  cases a5:aliasOf o with
  |some p=>
   obtain⟨u,x⟩:=p
   rw[a5] at h
   have:=Es rest _ m t h
   rw[oj] at this
   split at this
   · cases this
   · exact this
  |none=>
   rw[a5] at h
   have:=Es rest _ _ t h
   unfold lS at this
   split at this
   · rw[oj] at this
     split at this
     · cases this
     · exact this
   · exact this
theorem SN{o:Oper}{t:Nat}{x:Operand}(h:aliasOf o=some (t,x)):o.guard=none/\o.dst=some t/\∀cn,execOp cn o=pure (.value (cn x)):=by
 unfold aliasOf at h
 split at h
 · rename_i ab ae av;cases h;exact⟨ab,ae,λcn=>by simp[execOp,av]⟩
 · rename_i ab ae av;cases h;exact⟨ab,ae,λcn=>by simp[execOp,av]⟩
 · cases h
theorem Ba(a:Act)(dst:Option Tmp)(u:Value):(a.put dst u).tmps.size=a.tmps.size:=by cases dst<;>simp[Act.put]
theorem Et{call:aO->List J->aa->ax}(ah:l2 P call){ck:Nat}{ops:Array Oper}(pv:∀o∈ops.toList,∀t,o.dst=some t->t<ck){b:Frame}{inR:Bool}(dL:inR=b.roundOf.isSome){r:aU}{k:List Item}{cs0:List Frame}:
  ∀(l:List Oper) (i0:Nat) (loc:List (Nat×Acc)) (m:Nat) (env:List J) (d:List bC) (q:bG) (μ:bl) (H:aa) (w:World) (a:Act) (cs:List Frame),ops.toList.drop i0=l->env.length=m->
   jG P need μ r m env loc a.tmps->a.tmps.size=ck->bm μ H w->h3 P μ->gS μ d a.defers->ik μ b.kind cs0 q cs->
   pt P need ck μ r H w b k cs0 (lone (b.atR a (.inRegion ops (List.range' i0 l.length)::k)) cs w) (pr P need ops l loc m) (j9 P need inR call r (rW P need ops l loc m) env d q H)
 |[],i0,loc,m,env,d,q,μ,H,w,a,cs,aw,hm,tn,bE,aj,ao,aq,a1=>by
  subst hm
  exact⟨μ,w,a,cs,.one stepR_region_end,tn,bE,aj,b4.refl _ _ _,aq,a1⟩
 |o::rest,i0,loc,m,env,d,q,μ,H,w,a,cs,aw,hm,tn,bE,aj,ao,aq,a1=>by
  have a8:ops[i0]? =some o:=by
   have:=congrArg List.head? aw
   simpa[List.head?_drop] using this
  have rC:ops.toList.drop (i0+1)=rest:=by
   have:=congrArg List.tail aw
   simpa[List.tail_drop] using this
  have tp:o∈ops.toList:=by
   rw[<-Array.getElem?_toList] at a8
   exact List.mem_of_getElem? a8
  have JV:∀t,o.dst=some t->t<a.tmps.size:=λt h=>by rw[bE];exact pv o tp t h
  rw[List.length_cons,List.range'_succ]
  unfold rW pr
  cases a5:aliasOf o with
  |some p=>
   obtain⟨t,x⟩:=p
   simp only
   obtain⟨ds,eu,jj⟩:=SN a5
   have hw:Region.wanted o (yielded ops a.tmps)=true:=by simp[Region.wanted,ds]
   have cr:=stepGR_op (P:=P) (b:=b) (a:=a) (k:=k) (cs:=cs) (w:=w) (rest:=List.range' (i0+1) rest.length) a8 hw
   have x3:o.semAt b.roundOf a.eval=execOp a.eval o:=by
    refine Oper.semAt_eq _ _ _ λc e=>?_
    have:=jj a.eval
    unfold aliasOf at a5
    rw[e] at a5
    split at a5
    · rename_i h;cases h
    · rename_i h;cases h
    · cases a5
   rw[x3] at cr
   obtain⟨al,_⟩:=Ei cr
   have hs:=al (a.eval x) w (by rw[jj];rfl)
   have oi:(b.atR a (.inRegion ops (i0::List.range' (i0+1) rest.length)::k)).finish (a.eval x)=b.atR (a.put (some t) (a.eval x)) (.inRegion ops (List.range' (i0+1) rest.length)::k):=by
    rw[Frame.finish_atR,a8]
    simp only[Option.bind_some,eu]
   rw[oi] at hs
   have bp:=Et (k:=k) ah pv dL rest (i0+1) ((t,cP P need loc x)::loc) m env d q μ H w (a.put (some t) (a.eval x)) cs rC hm (tn.alias ao (JV t eu) x) ((Ba _ _ _).trans bE) aj ao (by rw[put_defers];exact aq) a1
   exact bp.of_steps aj aj hs (b4.refl _ _ _)
  |none=>
   simp only[j9]
   have gL:=JQ (P:=P) ah aj ao (b:=b) (a:=a) (ops:=ops) (i:=i0) (rest:=List.range' (i0+1) rest.length) (k:=k) (cs0:=cs0) (cs:=cs) a8 (gd:=match j8 P need ops loc o with|none=>none|some (x,c)=>some (d_ m env r x,c))
    (SM (acc:=d_ m env r) tn.rel (λv=>rfl)) (g:=λx=>d_ m env r (cP P need loc x)) (λx=>tn.eval ao x) aq a1 dL
   generalize eb P inR call (match j8 P need ops loc o with|none=>none|some (x,c)=>some (d_ m env r x,c)) o (λx=>d_ m env r (cP P need loc x)) d q H=res at gL⊢
   cases res with
   |ok v bx bq aZ=>
    obtain⟨aP,w',u,oh,bS,s1,s2,bV,cK,cY,dt⟩:=gL
    have SO:=(tn.mono cK.le).step (a:=a) (o:=o) JV s2
    have bp:=Et (k:=k) ah pv dL rest (i0+1) (lS o m loc) (m+1) (v::env) bx bq aP aZ w' {tmps:=(a.put o.dst u).tmps,defers:=oh} bS rC (by simp[hm]) SO ((Ba _ _ _).trans bE) bV (ao.mono cK.le) cY dt
    exact bp.of_steps aj bV s1 cK
   |bk v bx bq aZ=>
    obtain⟨aP,w',u,s1,s2,bV,cK,cY,dt⟩:=gL
    refine⟨aP,w',a,cs,u,_,s1,trivial,s2,λt a2 aJ=>?_,bE,bV,cK,cY,dt⟩
    have h0:=Es (P:=P) (need:=need) (ops:=ops) rest _ _ t a2
    have ab:iC t loc=none:=by
     unfold lS at h0
     split at h0
     · rw[oj] at h0
       split at h0
       · cases h0
       · exact h0
     · exact h0
    have:=(tn.mono cK.le).rel t
    simp only[cP,ab,aJ,d_] at this
    exact this
   |fail s=>trivial
end
end ay
namespace ay
open Go
section
variable {P:Program} {need:Nat}
theorem JW(need m:Nat)(env:List J)(gm:aU):∀(loc:List (Nat×Acc)) (r:aU) (t:Nat),Nat.testBit need t=true->
  (qg need m env gm loc r).get (hc t)=match iC t loc with|some a=>d_ m env gm a|none=>r.get (hc t)
 |[],r,t,a2=>rfl
 |(u,a)::l,r,t,a2=>by
  rw[oj]
  simp only[qg]
  by_cases e:t=u
  · subst e
    simp only[a2,if_true,aU.bH]
  · have bp:=JW need m env gm l r t a2
    cases hu:Nat.testBit need u with
    |true=>simp only[aU.bH,if_neg e,bp]
    |false=>simp only[if_neg e,bp]
theorem JX:∀(loc:List (Nat×Acc)) (r:aU) (t:Nat),(vm loc r).get (hc t)=match iC t loc with|some a=>.bad|none=>r.get (hc t)
 |[],r,t=>rfl
 |(u,a)::l,r,t=>by
  rw[oj]
  simp only[vm,aU.bH]
  by_cases e:t=u
  · simp only[e,if_true]
  · simp only[if_neg e,JX l r t]
theorem jG.outs{μ:bl}{r:aU}{m:Nat}{env:List J}{loc:List (Nat×Acc)}{b_:Array Value}(h:jG P need μ r m env loc b_):ji need μ (qg need m env r loc r) b_:=by
 intro t a2
 rw[JW need m env r loc r t a2]
 have:=h.rel t
 simp only[cP,a2] at this
 cases hf:iC t loc with
 |some a=>rw[hf] at this;exact this
 |none=>rw[hf] at this;exact this
theorem tq{e:bK}{r:aU}{d:List bC}{q:bG}{h:aa}{f:aU->List bC->bG->aa->jz}(he:e≠ .nrm):qi (.ok e r d q h) f=.ok e r d q h:=by
 cases e<;>first|rfl|exact absurd rfl he
def rX(P:Program)(μ:bl)(gp:Machine)(b:Frame)(k:List Item)(cs:List Frame)(a:Act)(w:World):bK->Prop
 |.nrm=>Steps P gp (lone (b.atR a k) cs w)
 |.exit id=>∃cd,exitTo id cd=exitTo id k/\Steps P gp (lone (b.atR a (.code (.exit id)::cd)) cs w)
 |.ret=>∃cd,Steps P gp (lone (b.atR a (.code .ret::cd)) cs w)
 |.goto _=>False
 |.bk v=>∃cd u,(bd μ v u/\Er cd)/\Steps P gp (lone {b.atR a cd with mode:=.panicking [{v:=u,recovered:=false}]} cs w)
theorem rX.of_steps{μ:bl}{gp cE:Machine}{b:Frame}{k:List Item}{cs:List Frame}{a:Act}{w:World}{e:bK}(h:Steps P gp cE)(an:rX P μ cE b k cs a w e):rX P μ gp b k cs a w e:=by
 cases e with
 |nrm=>exact h.trans an
 |exit id=>obtain⟨cd,ab,ae⟩:=an;exact⟨cd,ab,h.trans ae⟩
 |ret=>obtain⟨cd,ae⟩:=an;exact⟨cd,h.trans ae⟩
 |goto l=>exact an
 |bk v=>obtain⟨cd,u,ab,ae⟩:=an;exact⟨cd,u,ab,h.trans ae⟩
theorem rX.pass{μ:bl}{gp:Machine}{b:Frame}{x:Item}{k:List Item}{cs:List Frame}{a:Act}{w:World}{e:bK}(ad:∀id,x≠ .inBlock id)(he:e≠ .nrm)(h:rX P μ gp b (x::k) cs a w e):rX P μ gp b k cs a w e:=by
 cases e with
 |nrm=>exact absurd rfl he
 |exit id=>
  obtain⟨cd,ab,ae⟩:=h
  refine⟨cd,ab.trans ?_,ae⟩
  cases x<;>first|rfl|exact absurd rfl (ad _)
 |ret=>exact h
 |goto l=>exact h
 |bk v=>exact h
def nw(P:Program)(need ck:Nat)(μ:bl)(H:aa)(w:World)(b:Frame)(k:List Item)(cs0:List Frame)(gp:Machine):jz->Prop
 |.ok e r' bx bq aZ=>∃aP w' dp bS,rX P aP gp b k bS dp w' e/\ji need aP r' dp.tmps/\dp.tmps.size=ck/\bm aP aZ w'/\b4 μ H w aP aZ w'/\gS aP bx dp.defers/\ik aP b.kind cs0 bq bS
 |.fail _=>True
theorem nw.of_steps{ck:Nat}{μ gI:bl}{H H1:aa}{w cq:World}{b:Frame}{k:List Item}{cs0:List Frame}{gp cE:Machine}{x:jz}(aj:bm μ H w)(jB:bm gI H1 cq)(h:Steps P gp cE)(a5:b4 μ H w gI H1 cq)
  (ab:nw P need ck gI H1 cq b k cs0 cE x):nw P need ck μ H w b k cs0 gp x:=by
 cases x with
 |ok e r d q aZ=>
  obtain⟨aP,w',dp,bS,s1,s2,bV,cK,cY,dt⟩:=ab
  exact⟨aP,w',dp,bS,s1.of_steps h,s2,bV,cK,b4.trans aj jB a5 cY,dt⟩
 |fail s=>trivial
def om(μ:bl)(b:Frame):Option Nat->Prop
 |none=>b.roundOf=none
 |some l=>∃i,μ l=some i/\b.roundOf=some i.bg
theorem om.mono{μ aP:bl}(hle:fa μ aP){b:Frame}{rd:Option Nat}(h:om μ b rd):om aP b rd:=by
 cases rd with
 |none=>exact h
 |some l=>obtain⟨i,ab,ae⟩:=h;exact⟨i,hle _ _ ab,ae⟩
theorem om.isSome{μ:bl}{b:Frame}{rd:Option Nat}(h:om μ b rd):rd.isSome=b.roundOf.isSome:=by
 cases rd with
 |none=>have:b.roundOf=none:=h;simp[this]
 |some l=>obtain⟨i,ab,ae⟩:=h;simp[ae]
def rY(P:Program)(need ck:Nat)(call:aO->List J->aa->ax):Prop:=
 ∀(ops:Array Oper) (id:Nat),(∀o∈ops.toList,∀t,o.dst=some t->t<ck)->ql ops (fk ops.toList 0 [] [])=true->
  ∀(b:Frame) (inR:Bool) (r:aU) (d:List bC) (q:bG) (H:aa) (μ:bl) (w:World) (a:Act) (k:List Item) (cs0 cs:List Frame),inR=b.roundOf.isSome->ji need μ r a.tmps->a.tmps.size=ck->bm μ H w->h3 P μ->gS μ d a.defers->ik μ b.kind cs0 q cs->
   pt P need ck μ r H w b k cs0 (lone (b.atR a (.code (.region id ops true)::k)) cs w) (iP ops.toList 0 []) (sZ P need inR call ops r d q H)
def JY(P:Program)(need ck:Nat)(call:aO->List J->aa->ax):Prop:=
 ∀(f:Operand) (ps:Array Nat) (as cb:Code),iQ ck (.rangeFunc f ps as cb)=true->∀(b:Frame) (rd:Option Nat) (r:aU) (d:List bC) (q:bG) (H:aa) (μ:bl) (w:World) (a:Act) (k:List Item) (cs0 cs:List Frame),om μ b rd->ji need μ r a.tmps->a.tmps.size=ck->bm μ H w->h3 P μ->gS μ d a.defers->ik μ b.kind cs0 q cs->
  nw P need ck μ H w b k cs0 (lone (b.atR a (.code (.rangeFunc f ps as cb)::k)) cs w) (dD P need rd call (.rangeFunc f ps as cb) r d q H)
theorem SP{b:Frame}{a:Act}{c:Code}{k:List Item}{cs:List Frame}{w:World}:step P (lone (b.atR a (.inScope c::k)) cs w)=.next (lone (b.atR a k) cs w):=
 step_lone_go (by simp[stepG,stepG.exec,Frame.atR])
theorem JZ{b:Frame}{a:Act}{c:Code}{k:List Item}{cs:List Frame}{w:World}:step P (lone (b.atR a (.code (.scope c)::k)) cs w)=.next (lone (b.atR a (.code c::.inScope c::k)) cs w):=
 step_lone_go (by simp[stepG,stepG.exec,Frame.atR])
theorem pt.code{ck:Nat}{μ:bl}{r:aU}{H:aa}{w:World}{b:Frame}{k:List Item}{cs0:List Frame}{gp:Machine}{loc:List (Nat×Acc)}{x:mm}(h:pt P need ck μ r H w b k cs0 gp loc x):
  nw P need ck μ H w b k cs0 gp (qh need r loc x):=by
 cases x with
 |ok env d q aZ=>
  obtain⟨aP,w',dp,bS,s1,s2,bV,cK,cY,dt⟩:=h
  exact⟨aP,w',dp,bS,s1,s2.outs,bV,cK,cY,dt⟩
 |bk v d q aZ=>
  obtain⟨aP,w',dp,bS,u,cd,s1,s0,s2,bV,cK,cY,dt,ev⟩:=h
  refine⟨aP,w',dp,bS,⟨cd,u,⟨s2,s0⟩,s1⟩,λt a2=>?_,cK,cY,dt,ev⟩
  rw[JX]
  cases hf:iC t loc with
  |some x=>trivial
  |none=>exact bV t hf a2
 |fail s=>trivial
def J0(P:Program)(need ck:Nat)(call:aO->List J->aa->ax)(rd:Option Nat)(c:Code):Prop:=
 ∀(b:Frame) (r:aU) (d:List bC) (q:bG) (H:aa) (μ:bl) (w:World) (a:Act) (k:List Item) (cs0 cs:List Frame),om μ b rd->ji need μ r a.tmps->a.tmps.size=ck->bm μ H w->h3 P μ->gS μ d a.defers->ik μ b.kind cs0 q cs->
  nw P need ck μ H w b k cs0 (lone (b.atR a (.code c::k)) cs w) (dD P need rd call c r d q H)
theorem J1{ck:Nat}{call:aO->List J->aa->ax}{rd:Option Nat}{c:Code}(iR:J0 P need ck call rd c)(b:Frame)(k:List Item)(cs0:List Frame):∀(n:Nat) (r:aU) (d:List bC) (q:bG) (H:aa) (μ:bl) (w:World) (a:Act) (cs:List Frame),om μ b rd->ji need μ r a.tmps->a.tmps.size=ck->bm μ H w->h3 P μ->gS μ d a.defers->ik μ b.kind cs0 q cs->
  nw P need ck μ H w b k cs0 (lone (b.atR a (.code c::.inLoop c::k)) cs w) (o_ (dD P need rd call c) n r d q H)
 |0,r,d,q,H,μ,w,a,cs,db,ai,bE,aj,ao,aq,a1=>trivial
 |n+1,r,d,q,H,μ,w,a,cs,db,ai,bE,aj,ao,aq,a1=>by
  have ab:=iR b r d q H μ w a (.inLoop c::k) cs0 cs db ai bE aj ao aq a1
  unfold o_
  cases ad:dD P need rd call c r d q H with
  |fail s=>trivial
  |ok e r' bx bq aZ=>
   rw[ad] at ab
   obtain⟨aP,w',dp,bS,s1,s2,bV,cK,cY,dt,ev⟩:=ab
   by_cases he:e=.nrm
   · subst he
     have bp:=J1 iR b k cs0 n r' bx bq aZ aP w' dp bS (db.mono cY.le) s2 bV cK (ao.mono cY.le) dt ev
     exact bp.of_steps aj cK (Steps.trans s1 (.one stepR_inLoop)) cY
   · rw[tq he]
     exact⟨aP,w',dp,bS,s1.pass (λid h=>by cases h) he,s2,bV,cK,cY,dt,ev⟩
theorem pw{ck:Nat}{call:aO->List J->aa->ax}(ah:l2 P call)(hdr:rY P need ck call)(nq:JY P need ck call)(rd:Option Nat):∀(c:Code),iQ ck c=true->J0 P need ck call rd c
 |.skip,_=>λb r d q H μ w a k cs0 cs db ai bE aj ao aq a1=>⟨μ,w,a,cs,.one stepR_skip,ai,bE,aj,b4.refl _ _ _,aq,a1⟩
 |.label l,_=>λb r d q H μ w a k cs0 cs db ai bE aj ao aq a1=>⟨μ,w,a,cs,.one stepR_label,ai,bE,aj,b4.refl _ _ _,aq,a1⟩
 |.exit id,_=>λb r d q H μ w a k cs0 cs db ai bE aj ao aq a1=>⟨μ,w,a,cs,⟨k,rfl,Steps.refl _ _⟩,ai,bE,aj,b4.refl _ _ _,aq,a1⟩
 |.ret,_=>λb r d q H μ w a k cs0 cs db ai bE aj ao aq a1=>⟨μ,w,a,cs,⟨k,Steps.refl _ _⟩,ai,bE,aj,b4.refl _ _ _,aq,a1⟩
 |.goto l,_=>λb r d q H μ w a k cs0 cs db ai bE aj ao aq a1=>trivial
 |.refuse s,_=>λb r d q H μ w a k cs0 cs db ai bE aj ao aq a1=>trivial
 |.region id ops draw,cR=>λb r d q H μ w a k cs0 cs db ai bE aj ao aq a1=>by
  simp only[iQ,Bool.and_eq_true,List.all_eq_true] at cR
  have pv:∀o∈ops.toList,∀t,o.dst=some t->t<ck:=λo a8 t a2=>by
   have:=cR.1 o a8
   rw[a2] at this
   simpa using this
  cases draw with
  |false=>
   have h:=Et (P:=P) (need:=need) (k:=k) ah pv (b:=b) (inR:=rd.isSome) db.isSome (r:=r) (cs0:=cs0) ops.toList 0 [] 0 [] d q μ H w a cs rfl rfl (jG.init ai) bE aj ao aq a1
   have aw:List.range' 0 ops.toList.length=List.range ops.size:=by rw[List.range_eq_range'];simp
   rw[aw] at h
   have ae:=pt.code h
   have n9:o9 P need ops=⟨rW P need ops ops.toList [] 0,pr P need ops ops.toList [] 0⟩:=by
    unfold o9;rw[En];simp
   simp only[dD,n9]
   exact nw.of_steps aj aj (.one stepR_region) (b4.refl _ _ _) ae
  |true=>
   have J2:ql ops (fk ops.toList 0 [] [])=true:=by simpa using cR.2
   have h:=hdr ops id pv J2 b rd.isSome r d q H μ w a k cs0 cs db.isSome ai bE aj ao aq a1
   simp only[dD]
   exact pt.code h
 |.seq x y,cR=>λb r d q H μ w a k cs0 cs db ai bE aj ao aq a1=>by
  simp only[iQ,Bool.and_eq_true] at cR
  have ab:=pw ah hdr nq rd x cR.1 b r d q H μ w a (.code y::k) cs0 cs db ai bE aj ao aq a1
  simp only[dD]
  cases ad:dD P need rd call x r d q H with
  |fail s=>trivial
  |ok e r' bx bq aZ=>
   rw[ad] at ab
   obtain⟨aP,w',dp,bS,s1,s2,bV,cK,cY,dt,ev⟩:=ab
   by_cases he:e=.nrm
   · subst he
     have ae:=pw ah hdr nq rd y cR.2 b r' bx bq aZ aP w' dp k cs0 bS (db.mono cY.le) s2 bV cK (ao.mono cY.le) dt ev
     exact ae.of_steps aj cK (Steps.head stepR_seq s1) cY
   · rw[tq he]
     exact⟨aP,w',dp,bS,(s1.pass (λid h=>by cases h) he).of_steps (.one stepR_seq),s2,bV,cK,cY,dt,ev⟩
 |.cond c x y,cR=>λb r d q H μ w a k cs0 cs db ai bE aj ao aq a1=>by
  simp only[iQ,Bool.and_eq_true] at cR
  simp only[dD]
  have gK:=(jG.init (P:=P) ai).eval (a:=a) ao c
  split
  · rename_i jT
    rw[jT] at gK
    have h:=pw ah hdr nq rd x cR.1 b r d q H μ w a k cs0 cs db ai bE aj ao aq a1
    exact h.of_steps aj aj (.one (stepR_cond (t:=true) gK)) (b4.refl _ _ _)
  · rename_i jT
    rw[jT] at gK
    have h:=pw ah hdr nq rd y cR.2 b r d q H μ w a k cs0 cs db ai bE aj ao aq a1
    exact h.of_steps aj aj (.one (stepR_cond (t:=false) gK)) (b4.refl _ _ _)
  · trivial
 |.block id c,cR=>λb r d q H μ w a k cs0 cs db ai bE aj ao aq a1=>by
  have ab:=pw ah hdr nq rd c cR b r d q H μ w a (.inBlock id::k) cs0 cs db ai bE aj ao aq a1
  simp only[dD]
  cases ad:dD P need rd call c r d q H with
  |fail s=>trivial
  |ok e r' bx bq aZ=>
   rw[ad] at ab
   obtain⟨aP,w',dp,bS,s1,s2,bV,cK,cY,dt,ev⟩:=ab
   cases e with
   |nrm=>exact⟨aP,w',dp,bS,Steps.head stepR_block (Steps.trans s1 (.one stepR_inBlock)),s2,bV,cK,cY,dt,ev⟩
   |exit i=>
    obtain⟨cd,aE,aC⟩:=s1
    by_cases Bb:i=id
    · simp only[Bb,if_true]
      subst Bb
      have bu:exitTo i cd=some k:=by rw[aE];simp[exitTo]
      exact⟨aP,w',dp,bS,Steps.head stepR_block (Steps.trans aC (.one (stepR_exit bu))),s2,bV,cK,cY,dt,ev⟩
    · simp only[if_neg Bb]
      have:(id==i)=false:=by simp;exactλh=>Bb h.symm
      exact⟨aP,w',dp,bS,⟨cd,aE.trans (by simp[exitTo,this]),Steps.head stepR_block aC⟩,s2,bV,cK,cY,dt,ev⟩
   |ret=>obtain⟨cd,aC⟩:=s1;exact⟨aP,w',dp,bS,⟨cd,Steps.head stepR_block aC⟩,s2,bV,cK,cY,dt,ev⟩
   |goto l=>exact s1.elim
   |bk v=>obtain⟨cd,u,aE,aC⟩:=s1;exact⟨aP,w',dp,bS,⟨cd,u,aE,Steps.head stepR_block aC⟩,s2,bV,cK,cY,dt,ev⟩
 |.loop c,cR=>λb r d q H μ w a k cs0 cs db ai bE aj ao aq a1=>by
  have h:=J1 (pw ah hdr nq rd c cR) b k cs0 100000 r d q H μ w a cs db ai bE aj ao aq a1
  simp only[dD]
  exact h.of_steps aj aj (.one stepR_loop) (b4.refl _ _ _)
 |.scope c,cR=>λb r d q H μ w a k cs0 cs db ai bE aj ao aq a1=>by
  have ab:=pw ah hdr nq rd c cR b r d q H μ w a (.inScope c::k) cs0 cs db ai bE aj ao aq a1
  simp only[dD]
  cases ad:dD P need rd call c r d q H with
  |fail s=>trivial
  |ok e r' bx bq aZ=>
   rw[ad] at ab
   obtain⟨aP,w',dp,bS,s1,s2,bV,cK,cY,dt,ev⟩:=ab
   by_cases he:e=.nrm
   · subst he
     exact⟨aP,w',dp,bS,Steps.head JZ (Steps.trans s1 (.one SP)),s2,bV,cK,cY,dt,ev⟩
   · exact⟨aP,w',dp,bS,(s1.pass (λid h=>by cases h) he).of_steps (.one JZ),s2,bV,cK,cY,dt,ev⟩
 |.rangeFunc f ps as cb,cR=>λb r d q H μ w a k cs0 cs db ai bE aj ao aq a1=>nq f ps as cb cR b rd r d q H μ w a k cs0 cs db ai bE aj ao aq a1
end
end ay
namespace ay
open Go
section
variable {P:Program} {need:Nat}
theorem SQ{w df:World}{cs:List Frame}{b:Frame}{a:Act}{l:Nat}{k:List Item}{s:Sem Next}{Bc:Frame}
  (cr:(stepG P true {frame:=Bc,callers:=cs,status:=.running,dying:=none} df).bare=(stepG.apply P true (b.atR a (.inRangeFunc l::k)) cs none s w).bare):
  (∀v w',s.run P w=.ok (.value v) w'->Steps P (lone Bc cs df) (lone ((b.atR a (.inRangeFunc l::k)).finish v) cs w'))/\
  (∀f args w',s.run P w=.ok (.enter f args) w'->Steps P (lone Bc cs df) (lone (Frame.enter P f args .normal) (b.atR a (.inRangeFunc l::k)::cs) w'))/\
  (∀nt f tmps assign body w',s.run P w=.ok (.round nt f tmps assign body) w'->Steps P (lone Bc cs df) (lone (Frame.round nt f tmps assign body .normal) (b.atR a (.inRangeFunc l::k)::cs) w')):=by
 refine⟨λv w' ai=>.one (step_lone_go ?_),λf args w' ai=>.one (step_lone_go ?_),λl f tmps assign body w' ai=>.one (step_lone_go ?_)⟩
 · rw[cr];simp[stepG.apply,ai]
 · rw[cr];simp[stepG.apply,ai,Frame.atR]
 · rw[cr];simp[stepG.apply,ai]
theorem SR{b:Frame}{a:Act}{f:Operand}{ps:Array Nat}{as cb:Code}{k:List Item}{cs:List Frame}{w cq:World}{l:Nat}{mark:List Deferred}(he:(Instr.enterLoop b.fn a.tmps ps as cb b.roundOf).run P w=.ok (l,mark) cq):
  (stepG P true {frame:=b.atR a (.code (.rangeFunc f ps as cb)::k),callers:=cs,status:=.running,dying:=none} w).bare=
   (stepG.apply P true (b.atR {tmps:=a.tmps,defers:=mark++a.defers} (.inRangeFunc l::k)) cs none (do let d<-Deferred.ofValue (a.eval f) #[.func (.yield l) #[] #[]];invoke d.target d.args) cq).bare:=by
 have Bd:=Frame.eval_atR b {tmps:=a.tmps,defers:=mark++a.defers} (.inRangeFunc l::k)
 simp only[Frame.atR] at Bd
 have SS:({tmps:=a.tmps,defers:=mark++a.defers}:Act).eval=a.eval:=funext λx=>by cases x<;>rfl
 simp only[stepG,stepG.exec,Frame.atR,Sem.runT_eq,he,GStep.bare_after]
 have SU:resolve a.eval {callee:=.value f,args:=#[.const (.func (.yield l) #[] #[])],argTypes:=#[]} 0=Deferred.ofValue (a.eval f) #[.func (.yield l) #[] #[]]:=by simp[resolve,Act.eval]
 rw[Bd,SS,SU]
theorem SV{b:Frame}{a:Act}{l:Nat}{k:List Item}{cs:List Frame}{w w':World}{nx:Option Code}(he:(Instr.endLoop l).run P w=.ok nx w'):
  step P (lone (b.atR a (.endRangeFunc l::k)) cs w)=.next (lone (b.atR a ((nx.map Item.code).toList++k)) cs w'):=
 step_lone_go (by simp[stepG,stepG.exec,Frame.atR,Sem.runT_eq,he])
theorem SW{ck:Nat}{b:Frame}{a:Act}{r:aU}{ps:Array Nat}{as cb:Code}(cR:iQ ck as=true/\iQ ck cb=true/\∀t∈ps.toList,t<ck){μ:bl}{H:aa}{w:World}{rd:Option Nat}(db:om μ b rd)(ai:ji need μ r a.tmps)(bE:a.tmps.size=ck)(aj:bm μ H w)
  {d:List bC}(aq:gS μ d a.defers){l:Nat}{bx:List bC}{H1:aa}
  (aw:l=n2 rd H.n)(he:xw need rd r ps.toList as cb d H=some (bx,H1)):
  ∃aP w' mark i,(Instr.enterLoop b.fn a.tmps ps as cb b.roundOf).run P w=.ok (i.bg,mark) w'/\aP l=some i/\bm aP H1 w'/\b4 μ H w aP H1 w'/\gS aP bx (mark++a.defers):=by
 subst bE
 unfold n2 at aw
 unfold xw at he
 cases rd with
 |none=>
  have ag:b.roundOf=none:=db
  cases he
  obtain⟨ba,bt⟩:=aj.alloc (.defrd (some [])) (.deferred (some [])) 0 ⟨[],World.heap_alloc_new _ _,rfl⟩
  have hu:gy μ H.n ⟨w.heap.size,0,0⟩ H.n=some ⟨w.heap.size,0,0⟩:=gz _ _ _
  have Be:=ba.n6 ⟨(w.alloc (.deferred (some []))).heap.size,0,0⟩
  obtain⟨aR,aT⟩:=ba.alloc (.loop .ready none need r ps.toList as cb H.n) (.loop {state:=.ready,pending:=none,fn:=b.fn,tmps:=a.tmps,params:=ps,assign:=as,body:=cb,defers:=w.heap.size}) 0
   ⟨a.tmps,⟨w.heap.size,0,0⟩,b.fn,Be _ _ hu,World.heap_alloc_new _ _,ai.mono (bt.le.trans Be),cR.1,cR.2.1,cR.2.2⟩
  refine⟨_,_,[{target:=.collected w.heap.size,args:=#[]}],⟨(w.alloc (.deferred (some []))).heap.size,0,0⟩,?_,?_,aR,b4.trans aj ba bt aT,⟨_,_,rfl,.collected _ ⟨w.heap.size,0,0⟩ (Be _ _ hu),aq.mono (bt.le.trans Be)⟩⟩
  · rw[ag]
    simp only[Instr.enterLoop,Sem.run_bind,run_newObj,Result.andThen_ok,Sem.run_pure]
    rfl
  · rw[aw];exact gz _ _ _
 |some rm=>
  obtain⟨j,aI,ag⟩:=db
  simp only at aw he
  subst aw
  cases ao:H.get rm with
  |none=>rw[ao] at he;cases he
  |some Eu=>
  rw[ao] at he
  cases Eu<;>try (cases he;done)
  case loop px J3 acS acT J4 J5 J6 et=>
   cases he
   obtain⟨b_,hQ,fn,aE,aC,_⟩:=aj.rel _ _ j ao aI
   have hle:=aj.n6 ⟨w.heap.size,0,0⟩
   obtain⟨aR,aT⟩:=aj.alloc (.loop .ready none need r ps.toList as cb et) (.loop {state:=.ready,pending:=none,fn:=b.fn,tmps:=a.tmps,params:=ps,assign:=as,body:=cb,defers:=hQ.bg}) 0
    ⟨a.tmps,hQ,b.fn,hle _ _ aE,World.heap_alloc_new _ _,ai.mono hle,cR.1,cR.2.1,cR.2.2⟩
   refine⟨_,_,[],⟨w.heap.size,0,0⟩,?_,?_,aR,aT,aq.mono hle⟩
   · rw[ag]
     have pq:(Instr.getLoop j.bg).run P w=.ok {state:=px,pending:=J3,fn:=fn,tmps:=b_,params:=⟨J4⟩,assign:=J5,body:=J6,defers:=hQ.bg} w:=by
      have:(getObj j.bg).run P w=.ok (.loop {state:=px,pending:=J3,fn:=fn,tmps:=b_,params:=⟨J4⟩,assign:=J5,body:=J6,defers:=hQ.bg}) w:=by simp[getObj,Sem.run,aC]
      simp only[Instr.getLoop,Sem.run_bind,this];rfl
     simp only[Instr.enterLoop,Sem.run_bind,pq,Result.andThen_ok,Sem.run_pure,run_newObj]
     rfl
   · exact gz _ _ _
theorem SX{μ:bl}{H:aa}{w:World}(aj:bm μ H w){l:Nat}{i:eX}(aw:μ l=some i){st:LoopState}{gb:Option Code}{ef:Nat}{rg:aU}{ps:List Nat}{as cb:Code}{et:Nat}(ao:H.get l=some (.loop st gb ef rg ps as cb et))(cr:st≠ .busy):
  ∃w',(Instr.endLoop i.bg).run P w=.ok gb w'/\bm μ (H.set l (some (.loop .exhausted gb ef rg ps as cb et))) w'/\b4 μ H w μ (H.set l (some (.loop .exhausted gb ef rg ps as cb et))) w':=by
 obtain⟨b_,hQ,fn,aE,aC,bu⟩:=aj.rel _ _ i ao aw
 have cx:=(aj.lt _ _ aw).2
 obtain⟨ba,bt⟩:=aj.update (w':={w with heap:=w.heap.setIfInBounds i.bg (.loop {state:=.exhausted,pending:=gb,fn:=fn,tmps:=b_,params:=⟨ps⟩,assign:=as,body:=cb,defers:=hQ.bg})}) (o':=.loop .exhausted gb ef rg ps as cb et) ao rfl aw (by simp) (λr ai=>by simp[Array.getElem?_setIfInBounds];intro e;exact absurd e.symm ai) rfl rfl rfl
  ⟨b_,hQ,fn,aE,by simp[cx],bu⟩
 refine⟨_,?_,ba,bt⟩
 have hp:(getObj i.bg).run P w=.ok (.loop {state:=st,pending:=gb,fn:=fn,tmps:=b_,params:=⟨ps⟩,assign:=as,body:=cb,defers:=hQ.bg}) w:=by simp[getObj,Sem.run,aC]
 have fL:(setObj i.bg (.loop {state:=.exhausted,pending:=gb,fn:=fn,tmps:=b_,params:=⟨ps⟩,assign:=as,body:=cb,defers:=hQ.bg})).run P w=.ok () {w with heap:=w.heap.setIfInBounds i.bg (.loop {state:=.exhausted,pending:=gb,fn:=fn,tmps:=b_,params:=⟨ps⟩,assign:=as,body:=cb,defers:=hQ.bg})}:=by simp[setObj,Sem.run,aC]
 have ag:(st==LoopState.busy)=false:=by cases st<;>first|rfl|exact absurd rfl cr
 simp only[Instr.endLoop,Instr.getLoop,Sem.run_bind,hp,Result.andThen_ok,Sem.run_pure,ag,Bool.false_eq_true,if_false,fL]
theorem Ev{ck:Nat}{call:aO->List J->aa->ax}(ah:l2 P call):JY P need ck call:=by
 intro f ps as cb cR b rd r d q H μ w a k cs0 cs db ai bE aj ao aq a1
 simp only[iQ,Bool.and_eq_true,List.all_eq_true] at cR
 have Ew:∀t∈ps.toList,t<ck:=λt a2=>by simpa using cR.1.1 t a2
 have gK:=(jG.init (P:=P) ai).eval (a:=a) ao f
 simp only[dD]
 cases cr:xw need rd r ps.toList as cb d H with
 |none=>trivial
 |some p=>
  obtain⟨bx,H1⟩:=p
  simp only
  obtain⟨gI,cq,mark,i,ab,ae,av,aK,bU⟩:=SW (P:=P) (b:=b) (a:=a) (ps:=ps) ⟨cR.1.2,cR.2,Ew⟩ db ai bE aj aq rfl cr
  have SY:=gK.mono aK.le
  have SZ:=SR (P:=P) (f:=f) (k:=k) (cs:=cs) ab
  obtain⟨al,ak,aS⟩:=SQ SZ
  have jT:=JK (P:=P) (w:=cq) av SY (args:=[.bR (n2 rd H.n)]) (vs:=[.func (.yield i.bg) #[] #[]]) ⟨_,_,rfl,⟨i,ae,rfl⟩,rfl⟩
  have fin:∀(res:ax),rV P (lone (b.atR a (.code (.rangeFunc f ps as cb)::k)) cs w) (b.atR {tmps:=a.tmps,defers:=mark++a.defers} (.inRangeFunc i.bg::k)) cs (Ends gI H1 cq res)->
    nw P need ck μ H w b k cs0 (lone (b.atR a (.code (.rangeFunc f ps as cb)::k)) cs w) (jh (n2 rd H.n) r bx q res):=by
   intro res aw
   obtain⟨e,jm,fY,jU⟩:=aw
   cases res with
   |fail s=>trivial
   |bk v b1=>
    obtain⟨aP,u,rfl,aR,aT,bP⟩:=fY
    exact⟨aP,jm,{tmps:=a.tmps,defers:=mark++a.defers},cs,⟨.inRangeFunc i.bg::k,u,⟨aR,trivial⟩,jU⟩,ai.mono (aK.le.trans bP.le),bE,aT,b4.trans aj av aK bP,bU.mono bP.le,a1.mono (aK.le.trans bP.le)⟩
   |ret v b1=>
    obtain⟨aP,u,rfl,aR,aT,bP⟩:=fY
    have oi:(b.atR {tmps:=a.tmps,defers:=mark++a.defers} (.inRangeFunc i.bg::k)).finish u=b.atR {tmps:=a.tmps,defers:=mark++a.defers} (.endRangeFunc i.bg::k):=rfl
    simp only[oi] at jU
    unfold jh
    simp only
    cases hh:b1.get (n2 rd H.n) with
    |none=>trivial
    |some Eu=>
     cases Eu<;>try trivial
     case loop st gb ef rg S0 AE AF et=>
      simp only
      by_cases ag:st=.busy
      · subst ag;trivial
      · obtain⟨Bf,aE,aC,bu⟩:=SX (P:=P) aT (bP.le _ _ ae) hh ag
        have kh:=Steps.trans jU (.one (SV (b:=b) (a:={tmps:=a.tmps,defers:=mark++a.defers}) (k:=k) (cs:=cs) aE))
        have hle:=aK.le.trans (bP.le.trans bu.le)
        have oo:=b4.trans aj aT (b4.trans aj av aK bP) bu
        have done:∀(e:bK),rX P aP (lone (b.atR a (.code (.rangeFunc f ps as cb)::k)) cs w) b k cs {tmps:=a.tmps,defers:=mark++a.defers} Bf e->
          nw P need ck μ H w b k cs0 (lone (b.atR a (.code (.rangeFunc f ps as cb)::k)) cs w) (.ok e r bx q (b1.set (n2 rd H.n) (some (.loop .exhausted gb ef rg S0 AE AF et)))):=λe he=>
         ⟨aP,Bf,{tmps:=a.tmps,defers:=mark++a.defers},cs,he,ai.mono hle,bE,aC,oo,bU.mono (bP.le.trans bu.le),a1.mono hle⟩
        have acU:∀X:jz,(match st with|.busy=>jz.fail "rangeFunc: busy" |_=>X)=X:=λX=>by cases st<;>first|rfl|exact absurd rfl ag
        cases st<;>first
         |exact absurd rfl ag
         |(cases gb with
          |none=>exact done .nrm kh
          |some c=>
           cases c<;>first
            |trivial
            |exact done .ret ⟨k,kh⟩
            |exact done (.exit _) ⟨k,rfl,kh⟩)
  cases J7:sY (d_ 0 [] r (cP P need [] f)) [.bR (n2 rd H.n)] H1 with
  |call g args a7=>
   rw[J7] at jT
   obtain⟨rfl,vs,aE,aC⟩:=jT
   simp only
   cases bX:(call (.fn g) args a7).lp with
   |false=>obtain⟨s,hs⟩:=A9 bX;rw[hs];trivial
   |true=>
    apply fin
    rcases ah.fn g args a7 bX gI cq vs av (ao.mono aK.le) aC with⟨v,w',aR,aT⟩|⟨aR,aT⟩
    · rw[<-aE] at aR
      exact⟨_,_,aT,al _ _ aR⟩
    · rw[<-aE] at aR
      exact(JO (Ek bX) aT _ _).of_steps (ak _ _ _ aR)
  |bR bT args a7=>
   rw[J7] at jT
   obtain⟨rfl,eB,vs,kH,aE,aC⟩:=jT
   simp only
   cases bX:(call (.bR bT) args a7).lp with
   |false=>obtain⟨s,hs⟩:=A9 bX;rw[hs];trivial
   |true=>
    apply fin
    obtain⟨acV,tmps,AE,AF,aR,aT⟩:=ah.bR bT args a7 bX gI cq eB vs av (ao.mono aK.le) kH aC
    rw[<-aE] at aR
    exact(aT _ _).of_steps (aS _ _ _ _ _ _ aR)
  |val v a7=>trivial
  |bk v a7=>trivial
  |ju x=>trivial
  |sW=>trivial
  |fail s=>trivial
end
end ay
namespace ay
open Go
section
variable {P:Program}
theorem Ex:∀(l:List J) (i:Nat) (r:aU) (t:Nat),(nd i l r).get (hc t)=if i<=t/\t<i+l.length then(l[t-i]?).getD .bad else r.get (hc t)
 |[],i,r,t=>by
  simp only[nd,List.length_nil]
  rw[if_neg (by omega)]
 |v::l,i,r,t=>by
  simp only[nd,Ex l (i+1),aU.bH,List.length_cons]
  by_cases h:i+1<=t/\t<i+1+l.length
  · rw[if_pos h,if_pos (by omega)]
    have:t-i=(t-(i+1))+1:=by omega
    rw[this];simp
  · rw[if_neg h]
    by_cases e:t=i
    · subst e;rw[if_pos rfl,if_pos (by omega)];simp
    · rw[if_neg e,if_neg (by omega)]
theorem S1{need:Nat}{μ:bl}{args:List J}{vs:List Value}(h:b9 μ args vs)(n:Nat):ji need μ (nd 0 args .leaf) (⟨vs⟩++Array.replicate n undef):=by
 intro t _
 rw[Ex]
 have aw:=h.length
 by_cases a2:t<args.length
 · rw[if_pos (by omega)]
   simp only[Nat.sub_zero]
   obtain⟨v,aH,ai⟩:=h.get (List.getElem?_eq_getElem a2)
   rw[List.getElem?_eq_getElem a2]
   rw[Array.getD_eq_getD_getElem?,Array.getElem?_append_left (by simp;omega)]
   simp only[List.getElem?_toArray,aH,Option.getD_some]
   exact ai
 · rw[if_neg (by omega),aU.nf];trivial
theorem S2{need:Nat}{μ:bl}{H:aa}{w:World}(aj:bm μ H w){r:aU}{b_:Array Value}(ai:ji need μ r b_){x:ResultVar}{v:J}(h:rp P need r H x=some v):
  ∃u,((match x with|.tmp t=>pure (b_.getD t undef)|.cell a t=>do loadVar t (<-asAddr (b_.getD a undef)):Sem Value)).run P w=.ok u w/\bd μ v u:=by
 unfold rp at h
 cases x with
 |tmp t=>
  simp only at h
  split at h
  · rename_i ag;cases h;exact⟨_,rfl,ai t ag⟩
  · cases h
 |cell t ty=>
  simp only at h
  split at h
  · rename_i ag
    have ab:=ai t ag
    split at h
    · rename_i b off n aY a5 aJ
      rw[aY] at ab
      obtain⟨i,af,aH⟩:=ab
      split at h
      · rename_i cs aw
        cases h
        obtain⟨us,aR,aT⟩:=rz (P:=P) aj af aw
        refine⟨.agg ⟨us⟩,?_,us,rfl,aT⟩
        simp[aH,asAddr,loadVar,vu a5,run_sizeOf aJ,aR]
      · cases h
    · rename_i b off aY a5
      rw[aY] at ab
      obtain⟨i,af,aH⟩:=ab
      obtain⟨u,aR,aT⟩:=DN (P:=P) aj af h
      refine⟨u,?_,aT⟩
      simp only[aH,asAddr,loadVar,Sem.run_bind,Sem.run_pure,Result.andThen_ok,vu a5,Bool.false_eq_true,if_false,aR]
    · cases h
  · cases h
theorem Ey{need:Nat}{μ:bl}{H:aa}{w:World}(aj:bm μ H w){r:aU}{b_:Array Value}(ai:ji need μ r b_):∀(l:List ResultVar) (vs:List J),mn (rp P need r H) l=some vs->
  ∃us:List Value,(l.mapM (λx=>(match x with|.tmp t=>pure (b_.getD t undef)|.cell a t=>do loadVar t (<-asAddr (b_.getD a undef)):Sem Value))).run P w=.ok us w/\b9 μ vs us
 |[],vs,h=>by cases h;exact⟨[],rfl,rfl⟩
 |x::l,vs,h=>by
  simp only[mn] at h
  split at h
  · rename_i v vF ab ae
    cases h
    obtain⟨u,aR,aT⟩:=S2 aj ai ab
    obtain⟨us,bP,eR⟩:=Ey aj ai l vF ae
    refine⟨u::us,?_,⟨_,_,rfl,aT,eR⟩⟩
    rw[List.mapM_cons]
    simp only[Sem.run_bind]
    rw[aR]
    simp only[Result.andThen_ok,Sem.run_bind,bP,Sem.run_pure]
  · cases h
theorem J8{need:Nat}{μ:bl}{H:aa}{w:World}(aj:bm μ H w){fn:Func}{r:aU}{b_:Array Value}(ai:ji need μ r b_){v:J}(h:pa P need fn r H=some v):
  ∃u,(results fn b_).run P w=.ok u w/\bd μ v u:=by
 unfold pa at h
 have hD:∀us:List Value,(fn.results.toList.mapM (λx=>(match x with|.tmp t=>pure (b_.getD t undef)|.cell a t=>do loadVar t (<-asAddr (b_.getD a undef)):Sem Value))).run P w=.ok us w->
   (results fn b_).run P w=.ok (if h:(⟨us⟩:Array Value).size=1 then(⟨us⟩:Array Value)[0] else .tuple ⟨us⟩) w:=by
  intro us lY
  have hm:(fn.results.mapM (λx=>(match x with|.tmp t=>pure (b_.getD t undef)|.cell a t=>do loadVar t (<-asAddr (b_.getD a undef)):Sem Value))).run P w=.ok ⟨us⟩ w:=by
   rw[Array.mapM_eq_mapM_toList]
   simp only[map_eq_pure_bind,Sem.run_bind]
   rw[lY];rfl
  unfold results
  simp only[Sem.run_bind]
  refine Eq.trans (congrArg (λq=>Result.andThen q _) hm) ?_
  rfl
 split at h
 · rename_i v' a5
   cases h
   obtain⟨us,aR,aT⟩:=Ey aj ai _ _ a5
   obtain⟨u,rI,rfl,bP,eR⟩:=aT
   cases eR
   exact⟨_,hD _ aR,bP⟩
 · rename_i vs dK a5
   cases h
   obtain⟨us,aR,aT⟩:=Ey aj ai _ _ a5
   refine⟨_,hD _ aR,?_⟩
   have:¬((⟨us⟩:Array Value).size=1):=by
    intro e
    have aw:=aT.length
    have cI:us.length=1:=e
    rw[cI] at aw
    obtain⟨x,ad⟩:=List.length_eq_one_iff.1 aw
    exact dK x ad
   rw[dif_neg this]
   exact⟨us,rfl,aT⟩
 · cases h
theorem J9{call:aO->List J->aa->ax}(ah:l2 P call)(hdr:∀need ck,rY P need ck call){f:FuncId}{fn:Func}(hf:P.funcs[f]? =some fn){kind:CallKind}{c:Code}(ag:fn.body=some c)(cR:iQ fn.ntmps c=true)
  {args:List J}{vs:List Value}{q:bG}{H:aa}{μ:bl}{w:World}{cs0 cs:List Frame}(aH:b9 μ args vs)(aj:bm μ H w)(ao:h3 P μ)(a1:ik μ kind cs0 q cs):
  nw P (dh fn) fn.ntmps μ H w {(default:Frame) with fn:=f,kind:=kind} [] cs0 (lone (Frame.enter P f ⟨vs⟩ kind) cs w) (kC P call fn args q H):=by
 unfold kC
 rw[ag]
 simp only
 cases hle:Nat.ble args.length fn.ntmps with
 |false=>trivial
 |true=>
  have D2:args.length<=fn.ntmps:=by simpa using hle
  have hlen:=aH.length
  simp only
  have S3:Frame.enter P f ⟨vs⟩ kind=({(default:Frame) with fn:=f,kind:=kind}:Frame).atR {tmps:=⟨vs⟩++Array.replicate (fn.ntmps-vs.length) undef,defers:=[]} [.code c]:=by
   simp[Frame.enter,Frame.atR,hf,ag]
   rfl
  rw[S3]
  exact pw ah (hdr _ _) (Ev ah) none c cR {(default:Frame) with fn:=f,kind:=kind} (nd 0 args .leaf) [] q H μ w {tmps:=⟨vs⟩++Array.replicate (fn.ntmps-vs.length) undef,defers:=[]} [] cs0 cs rfl (S1 aH _) (by simp;omega) aj ao rfl a1
def x7(P:Program):Prop:=∀(g:FuncId) (eW:Func) (gc:Code),P.funcs[g]? =some eW->eW.body=some gc->iQ eW.ntmps gc=true/\(eW.name== "runtime.NumGoroutine")=false
theorem Ez{f:FuncId}{fn:Func}{c:Code}(hf:P.funcs[f]? =some fn)(ag:fn.body=some c)(aJ:(fn.name== "runtime.NumGoroutine")=false)(args:Array Value)(w:World):(callFunc f args).run P w=.ok (.enter f args) w:=by
 have x8:¬fn.name= "runtime.NumGoroutine" :=by simpa using aJ
 simp[callFunc,hf,x8,ag]
def ny(μ:bl):Option J->FrameMode->Prop
 |none,m=>m=.returning
 |some v,m=>∃u,m=.panicking [{v:=u,recovered:=false}]/\bd μ v u
theorem ny.mono{μ aP:bl}(hle:fa μ aP){eI:Option J}{m:FrameMode}(h:ny μ eI m):ny aP eI m:=by
 cases eI with
 |none=>exact h
 |some v=>obtain⟨u,ab,ae⟩:=h;exact⟨u,ab,ae.mono hle⟩
theorem ny.run{μ:bl}{eI:Option J}{m:FrameMode}(h:ny μ eI m):m≠ .run:=by
 cases eI with
 |none=>intro e;cases h.symm.trans e
 |some v=>obtain⟨u,ab,_⟩:=h;intro e;cases ab.symm.trans e
theorem ny.q{μ:bl}{eI:Option J}{c:Frame}{cs:List Frame}(h:ny μ eI c.mode):ik μ .deferred (c::cs) (qj eI) (c::cs):=by
 cases eI with
 |none=>
  refine⟨rfl,λb0 au=>?_⟩
  have an:c.mode=.returning:=h
  simp only[tryRecover,au,an]
 |some v=>obtain⟨u,ab,ae⟩:=h;exact⟨rfl,rfl,c,cs,u,rfl,ab,ae⟩
theorem S4{μ:bl}{H:aa}{w:World}(aj:bm μ H w){r:Nat}{i:eX}(af:μ r=some i){cs:List bC}(ao:H.get r=some (.defrd (some cs))):
  ∃w' l,(Instr.takeDeferred i.bg).run P w=.ok l w'/\gS μ cs l/\bm μ (H.set r (some (.defrd none))) w'/\b4 μ H w μ (H.set r (some (.defrd none))) w':=by
 obtain⟨l,aE,aC⟩:=aj.rel _ _ i ao af
 have cx:=(aj.lt _ _ af).2
 obtain⟨ba,bt⟩:=aj.update (w':={w with heap:=w.heap.setIfInBounds i.bg (.deferred none)}) (o':=.defrd none) ao rfl af (by simp) (λr ai=>by simp[Array.getElem?_setIfInBounds];intro e;exact absurd e.symm ai) rfl rfl rfl
  (show({w with heap:=w.heap.setIfInBounds i.bg (.deferred none)}:World).heap[i.bg]? =some (.deferred none) by simp[cx])
 refine⟨_,l,?_,aC,ba,bt⟩
 have hp:(getObj i.bg).run P w=.ok (.deferred (some l)) w:=by simp[getObj,Sem.run,aE]
 have fL:(setObj i.bg (.deferred none)).run P w=.ok () {w with heap:=w.heap.setIfInBounds i.bg (.deferred none)}:=by simp[setObj,Sem.run,aE]
 simp only[Instr.takeDeferred,Sem.run_bind,hp,Result.andThen_ok,fL,Sem.run_pure]
end
end ay
namespace ay
open Go
section
variable {P:Program}
theorem step_take{b0:Frame}{cs:List Frame}{w w':World}{b:Nat}{args:Array Value}{aV calls:List Deferred}(hm:b0.mode≠ .run)(aq:b0.defers={target:=.collected b,args:=args}::aV)(a2:(Instr.takeDeferred b).run P w=.ok calls w'):
  step P (lone b0 cs w)=.next (lone {b0 with defers:=calls++aV} cs w'):=by
 refine step_lone_go ?_
 cases EA:b0.mode with
 |run=>exact absurd EA hm
 |returning=>simp[stepG,unwind,EA,aq,Sem.runT_eq,a2]
 |panicking chain=>simp[stepG,unwind,EA,aq,Sem.runT_eq,a2]
theorem Ends.trans{μ gI:bl}{H H1:aa}{w cq:World}{x:ax}{e:Ending}{w':World}(aj:bm μ H w)(jB:bm gI H1 cq)(a5:b4 μ H w gI H1 cq)(h:Ends gI H1 cq x e w'):Ends μ H w x e w':=by
 cases x with
 |ret v aZ=>obtain⟨aP,u,ab,ae,av,aK⟩:=h;exact⟨aP,u,ab,ae,av,b4.trans aj jB a5 aK⟩
 |bk v aZ=>obtain⟨aP,u,ab,ae,av,aK⟩:=h;exact⟨aP,u,ab,ae,av,b4.trans aj jB a5 aK⟩
 |fail s=>trivial
theorem EB{call:aO->List J->aa->ax}(ah:l2 P call)(hdr:∀need ck,rY P need ck call)(fI:x7 P){need:Nat}{fn:Func}{r:aU}:
  ∀(k:Nat) (eI:Option J) (aV:List bC) (H:aa) (μ:bl) (w:World) (b0:Frame) (cs:List Frame),(jA P call need fn r k eI aV H).lp=true->bm μ H w->h3 P μ->ji need μ r b0.tmps->P.funcs[b0.fn]? =some fn->b0.kind=.normal->
   gS μ aV b0.defers->ny μ eI b0.mode->∃e w' EC,Ends μ H w (jA P call need fn r k eI aV H) e w'/\Steps P (lone b0 cs w) (lone EC cs w')/\EC.fn=b0.fn/\EC.leaving P w' e
 |0,eI,aV,H,μ,w,b0,cs,bX,aj,ao,ai,hf,au,aq,aY=>by cases bX
 |k+1,eI,[],H,μ,w,b0,cs,bX,aj,ao,ai,hf,au,aq,aY=>by
  have qt:b0.defers=[]:=aq
  cases eI with
  |none=>
   simp only[jA] at bX⊢
   cases hD:pa P need fn r H with
   |none=>rw[hD] at bX;cases bX
   |some v=>
    obtain⟨u,aR,aT⟩:=J8 (P:=P) aj ai hD
    exact⟨.returned u,w,b0,⟨μ,u,rfl,aT,aj,b4.refl _ _ _⟩,Steps.refl _ _,rfl,aY,qt,au,fn,hf,aR⟩
  |some v=>
   obtain⟨u,ab,ae⟩:=aY
   exact⟨.panicked _,w,b0,⟨μ,u,rfl,ae,aj,b4.refl _ _ _⟩,Steps.refl _ _,rfl,ab,qt,fn,hf⟩
 |k+1,eI,.collected b::aV,H,μ,w,b0,cs,bX,aj,ao,ai,hf,au,aq,aY=>by
  obtain⟨pn,dl,xY,ab,ae⟩:=aq
  cases ab with
  |collected _ i af=>
  simp only[jA] at bX⊢
  cases x9:H.get b with
  |none=>rw[x9] at bX;cases bX
  |some o=>
   rw[x9] at bX
   cases o<;>try (cases bX;done)
   case defrd calls=>
    cases calls with
    |none=>cases bX
    |some S5=>
     simp only at bX⊢
     obtain⟨w',l,aE,aC,bu,cX⟩:=S4 (P:=P) aj af x9
     have hs:=step_take (cs:=cs) aY.run xY aE
     obtain⟨e,cp,my,ba,bt,ft,hC⟩:=EB ah hdr fI k eI (S5++aV) _ μ w' {b0 with defers:=l++dl} cs bX bu ao ai hf au (aC.append ae) aY
     refine⟨e,cp,my,?_,Steps.head hs bt,ft,hC⟩
     exact Ends.trans aj bu cX ba
 |k+1,eI,.call g args::aV,H,μ,w,b0,cs,bX,aj,ao,ai,hf,au,aq,aY=>by
  obtain⟨pn,dl,xY,ab,ae⟩:=aq
  cases ab with
  |call _ _ cap vs ED=>
  simp only[jA] at bX⊢
  cases rZ:P.funcs[g]? with
  |none=>rw[rZ] at bX;cases bX
  |some eW=>
   rw[rZ] at bX
   simp only at bX⊢
   cases Bg:eW.body with
   |none=>
    have:kC P call eW args (qj eI) H=.fail "no body" :=by simp[kC,Bg]
    rw[this] at bX;cases bX
   |some gc=>
    obtain⟨tr,Bh⟩:=fI g eW gc rZ Bg
    have a1:ik μ .deferred ({b0 with defers:=dl}::cs) (qj eI) ({b0 with defers:=dl}::cs):=ny.q (c:={b0 with defers:=dl}) aY
    have ag:=J9 (P:=P) ah hdr rZ (kind:=.deferred) Bg tr (args:=args) (vs:=vs++cap) (q:=qj eI) ED aj ao a1
    have hinv:(invoke (.fn (.func g) ⟨cap⟩) ⟨vs⟩).run P w=.ok (.enter g ⟨vs++cap⟩) w:=by
     have:=Ez (P:=P) rZ Bg Bh (⟨vs⟩++⟨cap⟩) w
     simpa[invoke] using this
    have S6:=step_defer (P:=P) (cs:=cs) aY.run xY (d:={target:=.fn (.func g) ⟨cap⟩,args:=⟨vs⟩}) rfl hinv
    cases ad:kC P call eW args (qj eI) H with
    |fail s=>rw[ad] at bX;cases bX
    |ok e r' bx bq aZ=>
     rw[ad] at bX ag
     obtain⟨aP,w',dp,bS,s1,s2,bV,cK,cY,dt,ev⟩:=ag
     simp only[AB] at bX⊢
     cases hD:pa P (dh eW) eW r' aZ with
     |none=>rw[hD] at bX;cases e<;>cases bx<;>cases bX
     |some EE=>
      rw[hD] at bX
      obtain⟨u,aR,aT⟩:=J8 (P:=P) cK s2 hD
      have main:∀(he:e=.nrm\/e=.ret) (qt:bx=[]) (hg:(jA P call need fn r k (vo bq eI) aV aZ).lp=true),
        ∃aC cp my,Ends μ H w (jA P call need fn r k (vo bq eI) aV aZ) aC cp/\Steps P (lone b0 cs w) (lone my cs cp)/\my.fn=b0.fn/\my.leaving P cp aC:=by
       intro he qt hg
       subst qt
       have x_:dp.defers=[]:=dt
       have EF:∃todo,Steps P (lone (Frame.enter P g ⟨vs++cap⟩ .deferred) ({b0 with defers:=dl}::cs) w) (lone {({(default:Frame) with fn:=g,kind:=.deferred}:Frame).atR dp todo with mode:=.returning} bS w'):=by
        rcases he with rfl|rfl
        · exact⟨_,Steps.trans s1 (.one (stepR_end rfl))⟩
        · obtain⟨cd,ya⟩:=s1
          exact⟨_,Steps.trans ya (.one (stepR_ret rfl))⟩
       obtain⟨todo,EF⟩:=EF
       have hp:({({(default:Frame) with fn:=g,kind:=.deferred}:Frame).atR dp todo with mode:=.returning}:Frame).going P w' (.returned u):=⟨rfl,x_,eW,rZ,aR⟩
       have caller:∃m,bS={({b0 with defers:=dl}:Frame) with mode:=m}::cs/\ny aP (vo bq eI) (settle m):=by
        have bM:ny aP eI (settle b0.mode):=by
         have yb:=aY.mono cY.le
         cases eI with
         |none=>have:b0.mode=.returning:=yb;rw[this];rfl
         |some v=>obtain⟨u,ab,ae⟩:=yb;rw[ab];exact⟨u,rfl,ae⟩
        cases bq with
        |none=>exact⟨b0.mode,ev.1,bM⟩
        |act v=>exact⟨b0.mode,ev.1,bM⟩
        |done v=>
         obtain⟨_,c,rest,u,aE,aC,bu,cX⟩:=ev
         cases aE
         exact⟨_,cX,rfl⟩
       obtain⟨m,rfl,S7⟩:=caller
       have av:=step_going_returned (P:=P) (c:={({b0 with defers:=dl}:Frame) with mode:=m}) (cs:=cs) rfl hp
       obtain⟨aC,cp,my,ba,bt,ft,hC⟩:=EB ah hdr fI k (vo bq eI) aV aZ aP w' {b0 with defers:=dl,mode:=settle m} cs hg cK (ao.mono cY.le) (ai.mono cY.le) hf au (ae.mono cY.le) S7
       exact⟨aC,cp,my,Ends.trans aj cK cY ba,Steps.head S6 (Steps.trans EF (Steps.head av bt)),ft,hC⟩
      cases bx with
      |cons x xs=>cases e<;>cases bX
      |nil=>
       cases e with
       |nrm=>exact main (.inl rfl) rfl bX
       |ret=>exact main (.inr rfl) rfl bX
       |exit id=>cases bX
       |goto l=>cases bX
       |bk v=>cases bX
theorem S8{P:Program}{m Bi:Machine}{e:Ending}(h:Steps P m Bi)(he:e≠ .outgrown):Comes P m Bi e:=by
 cases e with
 |outgrown=>exact absurd rfl he
 |_=>exact h
theorem S9{call:aO->List J->aa->ax}(ah:l2 P call)(hdr:∀need ck,rY P need ck call)(fI:x7 P){f:FuncId}{fn:Func}{c:Code}(hf:P.funcs[f]? =some fn)(ag:fn.body=some c)
  {args:List J}{vs:List Value}{H:aa}{μ:bl}{w:World}(aH:b9 μ args vs)(aj:bm μ H w)(ao:h3 P μ)(bX:(kd P call fn (kC P call fn args .none H)).lp=true):
  Calls P f ⟨vs⟩ w (Ends μ H w (kd P call fn (kC P call fn args .none H))):=by
 intro cs
 obtain⟨tr,Bh⟩:=fI f fn c hf ag
 have a1:ik μ .normal cs .none cs:=⟨rfl,λb0 au=>by simp[tryRecover,au]⟩
 have ie:=J9 (P:=P) ah hdr hf (kind:=.normal) ag tr aH aj ao a1
 generalize ad:kC P call fn args .none H=x at bX ie⊢
 cases x with
 |fail s=>cases bX
 |ok e r d q aZ=>
  obtain⟨aP,w',dp,bS,s1,s2,bV,cK,cY,dt,ev⟩:=ie
  have iR:bS=cs:=by
   cases q with
   |none=>exact ev.1
   |act v=>exact ev.1
   |done v=>exact absurd ev.1 (by intro h;cases h)
  subst iR
  have main:∀(eI:Option J) (b0:Frame),b0.fn=f->b0.tmps=dp.tmps->b0.defers=dp.defers->b0.kind=.normal->ny aP eI b0.mode->Steps P (lone (Frame.enter P f ⟨vs⟩ .normal) bS w) (lone b0 bS w')->
    (jA P call (dh fn) fn r 100 eI d aZ).lp=true->∃e cp my,Ends μ H w (jA P call (dh fn) fn r 100 eI d aZ) e cp/\Comes P (lone (Frame.enter P f ⟨vs⟩ .normal) bS w) (lone my bS cp) e/\my.fn=f/\my.leaving P cp e:=by
   intro eI b0 ab ae av aK bU cB hg
   subst ab
   obtain⟨aC,cp,my,ba,bt,ft,hC⟩:=EB ah hdr fI 100 eI d aZ aP w' b0 bS hg cK (ao.mono cY.le) (by rw[ae];exact s2) hf aK (by rw[av];exact dt) bU
   have J_:=Ends.trans aj cK cY ba
   exact⟨aC,cp,my,J_,S8 (cB.trans bt) (λe=>Ek hg _ (e▸J_)),ft,hC⟩
  cases e with
  |nrm=>exact main none {({(default:Frame) with fn:=f,kind:=.normal}:Frame).atR dp [] with mode:=.returning} rfl rfl rfl rfl rfl (Steps.trans s1 (.one (stepR_end rfl))) bX
  |ret=>obtain⟨cd,ya⟩:=s1;exact main none {({(default:Frame) with fn:=f,kind:=.normal}:Frame).atR dp (.code .ret::cd) with mode:=.returning} rfl rfl rfl rfl rfl (Steps.trans ya (.one (stepR_ret rfl))) bX
  |bk v=>obtain⟨cd,u,ab,ae⟩:=s1;exact main (some v) _ rfl rfl rfl rfl ⟨u,rfl,ab.1⟩ ae bX
  |exit id=>cases bX
  |goto l=>cases bX
end
end ay
namespace ay
open Go
section
variable {P:Program}
theorem Ka{need:Nat}{μ:bl}:∀(ps:List Nat) (args:List J) (vs:List Value) (r gm:aU) (b_:Array Value),(∀t∈ps,t<b_.size)->ji need μ r b_->b9 μ args vs->s3 ps args r=some gm->
  ji need μ gm ((ps.zip vs).foldl (λb_ (p:Nat×Value)=>b_.setIfInBounds p.1 p.2) b_)/\((ps.zip vs).foldl (λb_ (p:Nat×Value)=>b_.setIfInBounds p.1 p.2) b_).size=b_.size/\ps.length=vs.length
 |[],[],vs,r,gm,b_,aY,ai,aH,h=>by cases aH;cases h;exact⟨ai,rfl,rfl⟩
 |t::ts,v::args,vs,r,gm,b_,aY,ai,aH,h=>by
  obtain⟨u,us,rfl,ab,ae⟩:=aH
  simp only[s3] at h
  have ti:ji need μ (r.set (hc t) v) (b_.setIfInBounds t u):=λs hs=>by
   rw[aU.bH,x6 (aY t (by simp))]
   by_cases e:s=t
   · rw[if_pos e,if_pos e];exact ab
   · rw[if_neg e,if_neg e];exact ai s hs
  obtain⟨aR,aT,bP⟩:=Ka ts args us _ gm (b_.setIfInBounds t u) (λs hs=>by simp;exact aY s (by simp[hs])) ti ae h
  exact⟨aR,by rw[List.zip_cons_cons,List.foldl_cons];rw[aT];simp,by simp[bP]⟩
 |[],_::_,vs,r,gm,b_,aY,ai,aH,h=>by cases h
 |_::_,[],vs,r,gm,b_,aY,ai,aH,h=>by cases h
theorem EG{μ:bl}{H:aa}{w:World}(aj:bm μ H w){l:Nat}{i:eX}(aw:μ l=some i){st:LoopState}{gb:Option Code}{ef:Nat}{rg:aU}{ps:List Nat}{as cb:Code}{et:Nat}(ao:H.get l=some (.loop st gb ef rg ps as cb et)):
  ∃b_ hQ fn,μ et=some hQ/\(Instr.getLoop i.bg).run P w=.ok {state:=st,pending:=gb,fn:=fn,tmps:=b_,params:=⟨ps⟩,assign:=as,body:=cb,defers:=hQ.bg} w/\ji ef μ rg b_/\iQ b_.size as=true/\iQ b_.size cb=true/\(∀t∈ps,t<b_.size)/\
   ∀b2 vG,∃w',(setObj i.bg (.loop {state:=b2,pending:=vG,fn:=fn,tmps:=b_,params:=⟨ps⟩,assign:=as,body:=cb,defers:=hQ.bg})).run P w=.ok () w'/\
    bm μ (H.set l (some (.loop b2 vG ef rg ps as cb et))) w'/\b4 μ H w μ (H.set l (some (.loop b2 vG ef rg ps as cb et))) w':=by
 obtain⟨b_,hQ,fn,aE,aC,bu,cX,gJ,eK⟩:=aj.rel _ _ i ao aw
 have cx:=(aj.lt _ _ aw).2
 have hp:(getObj i.bg).run P w=.ok (.loop {state:=st,pending:=gb,fn:=fn,tmps:=b_,params:=⟨ps⟩,assign:=as,body:=cb,defers:=hQ.bg}) w:=by simp[getObj,Sem.run,aC]
 refine⟨b_,hQ,fn,aE,?_,bu,cX,gJ,eK,λb2 vG=>?_⟩
 · simp only[Instr.getLoop,Sem.run_bind,hp,Result.andThen_ok,Sem.run_pure]
 · obtain⟨ba,bt⟩:=aj.update (w':={w with heap:=w.heap.setIfInBounds i.bg (.loop {state:=b2,pending:=vG,fn:=fn,tmps:=b_,params:=⟨ps⟩,assign:=as,body:=cb,defers:=hQ.bg})}) (o':=.loop b2 vG ef rg ps as cb et) ao rfl aw (by simp) (λr ai=>by simp[Array.getElem?_setIfInBounds];intro e;exact absurd e.symm ai) rfl rfl rfl
     ⟨b_,hQ,fn,aE,by simp[cx],bu,cX,gJ,eK⟩
   exact⟨_,by simp[setObj,Sem.run,aC],ba,bt⟩
theorem S_{b:Frame}{a:Act}{cd:List Item}{c:Frame}{cs:List Frame}{w:World}{chain:List PanicEntry}(aq:a.defers=[])(aJ:Er cd):
  step P (lone {b.atR a cd with mode:=.panicking chain} (c::cs) w)=.next (lone (c.raise chain) cs w):=by
 have Ta:({b.atR a cd with mode:=.panicking chain}:Frame).catches P=false:=by
  unfold Frame.catches
  cases hf:P.funcs[b.fn]? with
  |some fn=>simp[Frame.atR,hf]
  |none=>
   cases cd with
   |nil=>simp[Frame.atR,hf]
   |cons x t=>cases x<;>first|exact aJ.elim|simp[Frame.atR,hf]
 refine step_lone_go ?_
 have Kb:=Ta
 simp only[Frame.atR,aq] at Kb⊢
 simp[stepG,unwind,Kb]
theorem Tb{μ:bl}{H:aa}{w:World}{l:Nat}{i:eX}(aw:μ l=some i){b:Frame}(ag:b.roundOf=some i.bg)(au:b.kind=.normal){need ck:Nat}{c:Frame}{cs:List Frame}{gp:Machine}{x:jz}(ad:nw P need ck μ H w b [] (c::cs) gp x)(kI:∀b0:Frame,b0.kind=b.kind->tryRecover b0 (c::cs)=none)(bX:(vp l x).lp=true)(aj:bm μ H w):
  rV P gp c cs (Ends μ H w (vp l x)):=by
 cases x with
 |fail s=>cases bX
 |ok e r d q aZ=>
  obtain⟨aP,w',dp,bS,s1,s2,bV,cK,cY,dt,ev⟩:=ad
  have iR:bS=c::cs:=by
   cases q with
   |none=>exact ev.1
   |act v=>exact ev.1
   |done v=>exact absurd (au.symm.trans ev.1) (by intro h;cases h)
  subst iR
  cases d with
  |cons y ys=>cases bX
  |nil=>
   have x_:dp.defers=[]:=dt
   simp only[vp] at bX⊢
   cases ao:aZ.get l with
   |none=>rw[ao] at bX;cases bX
   |some o=>
    rw[ao] at bX
    cases o<;>try (cases bX;done)
    case loop st gb ef rg ps as cb et=>
     cases st<;>try (cases bX;done)
     simp only at bX⊢
     obtain⟨b_,hQ,fn,al,ak,_,_,_,_,aS⟩:=EG (P:=P) cK (cY.le _ _ aw) ao
     have fin:∀nx:Option Code,∃cp,(Instr.endRound i.bg nx).run P w'=.ok (.bool nx.isNone) cp/\bm aP (aZ.set l (some (.loop (if nx.isNone then .ready else .done) nx ef rg ps as cb et))) cp/\b4 aP aZ w' aP (aZ.set l (some (.loop (if nx.isNone then .ready else .done) nx ef rg ps as cb et))) cp:=λnx=>by
      obtain⟨cp,aR,aT,bP⟩:=aS (if nx.isNone then .ready else .done) nx
      refine⟨cp,?_,aT,bP⟩
      simp only[Instr.endRound,Sem.run_bind,ak,Result.andThen_ok,aR,Sem.run_pure]
     cases e with
     |nrm=>
      obtain⟨cp,aR,aT,bP⟩:=fin none
      exact⟨.returned (.bool true),cp,⟨aP,_,rfl,rfl,aT,b4.trans aj cK cY bP⟩,Steps.trans s1 (.one (stepR_round_end ag au aR))⟩
     |ret=>
      obtain⟨cd,s1⟩:=s1
      obtain⟨cp,aR,aT,bP⟩:=fin (some .ret)
      exact⟨.returned (.bool false),cp,⟨aP,_,rfl,rfl,aT,b4.trans aj cK cY bP⟩,Steps.trans s1 (.one (stepR_round_ret ag au aR))⟩
     |exit id=>
      obtain⟨cd,ya,s1⟩:=s1
      obtain⟨cp,aR,aT,bP⟩:=fin (some (.exit id))
      exact⟨.returned (.bool false),cp,⟨aP,_,rfl,rfl,aT,b4.trans aj cK cY bP⟩,Steps.trans s1 (.one (stepR_round_exit ag au (ya.trans rfl) aR))⟩
     |bk v=>
      obtain⟨cd,u,⟨ab,ae⟩,s1⟩:=s1
      exact⟨.panicked _,w',⟨aP,u,rfl,ab,cK,cY⟩,Steps.trans s1 (.one (S_ x_ ae))⟩
     |goto t=>cases bX
theorem Tc{call:aO->List J->aa->ax}(ah:l2 P call)(hdr:∀need ck,rY P need ck call){l:Nat}{args:List J}{H:aa}{μ:bl}{w:World}{i:eX}{vs:List Value}(bX:(n4 P call l args H).lp=true)(aj:bm μ H w)(pq:h3 P μ)(aw:μ l=some i)(aH:b9 μ args vs):
  JN P i.bg vs w (Ends μ H w (n4 P call l args H)):=by
 unfold n4 at bX⊢
 cases ao:H.get l with
 |none=>rw[ao] at bX;cases bX
 |some o=>
  rw[ao] at bX
  cases o<;>try (cases bX;done)
  case loop st gb ef rg ps as cb et=>
   cases st<;>try (cases bX;done)
   simp only at bX⊢
   cases a0:s3 ps args rg with
   |none=>rw[a0] at bX;cases bX
   |some gm=>
    rw[a0] at bX
    simp only at bX⊢
    obtain⟨b_,hQ,fn,al,ak,aS,bb,ch,cc,bY⟩:=EG (P:=P) aj aw ao
    obtain⟨dI,eS,kg⟩:=Ka ps args vs rg gm b_ cc aS aH a0
    obtain⟨vH,Kc⟩:∃vH,(ps.zip vs).foldl (λb_ (p:Nat×Value)=>b_.setIfInBounds p.1 p.2) b_=vH:=⟨_,rfl⟩
    rw[Kc] at dI eS
    refine⟨fn,vH,as,cb,?_,λc cs=>?_⟩
    · simp only[Instr.yield,Sem.run_bind,ak,Result.andThen_ok]
      rw[if_neg (by simp;omega)]
      simp only[Sem.run_bind,Sem.run_pure,Result.andThen_ok]
      rw[<-Kc]
      simp
    · have Td:Frame.round i.bg fn vH as cb .normal=({(default:Frame) with fn:=fn,kind:=.normal,roundOf:=some i.bg}:Frame).atR {tmps:=vH,defers:=[]} [.code as,.beginRound,.code cb]:=rfl
      rw[Td]
      have a1:ik μ .normal (c::cs) .none (c::cs):=⟨rfl,λb0 au=>by simp[tryRecover,au]⟩
      have db:om μ ({(default:Frame) with fn:=fn,kind:=.normal,roundOf:=some i.bg}:Frame) (some l):=⟨i,aw,rfl⟩
      have ab:=pw ah (hdr ef b_.size) (Ev ah) (some l) as bb {(default:Frame) with fn:=fn,kind:=.normal,roundOf:=some i.bg} gm [] .none H μ w {tmps:=vH,defers:=[]} [.beginRound,.code cb] (c::cs) (c::cs) db dI eS aj pq rfl a1
      generalize dD P ef (some l) call as gm [] .none H=x at ab bX⊢
      cases x with
      |fail s=>cases bX
      |ok e ba d1 aR H1=>
       cases e<;>try (cases bX;done)
       case nrm=>
        cases d1<;>try (cases bX;done)
        case nil=>
         obtain⟨gI,cq,ds,jV,s1,s2,bV,cK,cY,dt,ev⟩:=ab
         have iR:jV=c::cs:=by
          cases aR with
          |none=>exact ev.1
          |act v=>exact ev.1
          |done v=>exact absurd ev.1 (by intro h;cases h)
         subst iR
         simp only[AD] at bX⊢
         cases dn:H1.get l with
         |none=>rw[dn] at bX;cases bX
         |some cT=>
          rw[dn] at bX
          cases cT<;>try (cases bX;done)
          case loop g1 Te acW acX acY acZ ac0 ac1=>
           cases g1<;>try (cases bX;done)
           simp only at bX⊢
           obtain⟨ac2,ac3,ac4,bz,bA,c8,e1,r0,py,l3⟩:=EG (P:=P) cK (cY.le _ _ aw) dn
           obtain⟨cp,bh,bf,dM⟩:=l3 .busy Te
           have x4:(Instr.beginRound i.bg).run P cq=.ok () cp:=by
            simp only[Instr.beginRound,Sem.run_bind,bA,Result.andThen_ok,bh,Sem.run_pure]
           have cr:=stepR_beginRound (P:=P) (b:={(default:Frame) with fn:=fn,kind:=.normal,roundOf:=some i.bg}) (a:=ds) (k:=[.code cb]) (cs:=c::cs) rfl x4
           have qu:ik gI .normal (c::cs) .none (c::cs):=⟨rfl,λb0 au=>by simp[tryRecover,au]⟩
           have Tf:om gI ({(default:Frame) with fn:=fn,kind:=.normal,roundOf:=some i.bg}:Frame) (some l):=⟨i,cY.le _ _ aw,rfl⟩
           have x_:gS gI [] ds.defers:=dt
           have ae:=pw ah (hdr ef b_.size) (Ev ah) (some l) cb ch {(default:Frame) with fn:=fn,kind:=.normal,roundOf:=some i.bg} ba [] .none _ gI cp ds [] (c::cs) (c::cs) Tf s2 bV bf (pq.mono cY.le) x_ qu
           have av:=ae.of_steps aj bf (Steps.trans s1 (.one cr)) (b4.trans aj cK cY dM)
           exact Tb aw rfl rfl av (λb0 au=>by simp[tryRecover,au]) bX aj
end
end ay
namespace ay
open Go
section
variable {P:Program}
def r1:List String:=["internal/abi.NoEscape","internal/bytealg.MakeNoZero","internal/bytealg.IndexByteString","maps.clone"]
def Bj(P:Program):Prop:=∀(g:FuncId) (eW:Func),P.funcs[g]? =some eW->eW.body=none->eW.name∈r1->Extern.findNext eW=none
theorem Kd:∀(n t:Nat) (acc:Array Value),(Extern.BytealgMakeNoZero.digits n t acc).size=acc.size+n
 |0,t,acc=>rfl
 |n+1,t,acc=>by rw[Extern.BytealgMakeNoZero.digits,Kd n];simp;omega
theorem Tg{fn:Func}(aJ:fn.name= "internal/abi.NoEscape"):Extern.find fn=some Extern.AbiNoEscape.same:=by
 have ab:Extern.allGenericRows.lookup "internal/abi.NoEscape" =none:=by rfl
 have ae:Extern.allTypedRows.lookup "internal/abi.NoEscape" =none:=by rfl
 have av:Extern.allRows.lookup "internal/abi.NoEscape" =some Extern.AbiNoEscape.same:=by rfl
 simp[Extern.find,aJ,ab,ae,av]
theorem Th{fn:Func}(aJ:fn.name= "internal/bytealg.MakeNoZero"):Extern.find fn=some (Extern.BytealgMakeNoZero.makeNoZero fn.params fn.resultTypes):=by
 have ab:Extern.allGenericRows.lookup "internal/bytealg.MakeNoZero" =none:=by rfl
 have ae:Extern.allTypedRows.lookup "internal/bytealg.MakeNoZero" =some Extern.BytealgMakeNoZero.makeNoZero:=by rfl
 simp[Extern.find,aJ,ab,ae]
theorem Ti{fn:Func}(aJ:fn.name= "internal/bytealg.IndexByteString"):Extern.find fn=some Extern.BytealgIndexByte.indexByte:=by
 have ab:Extern.allGenericRows.lookup "internal/bytealg.IndexByteString" =none:=by rfl
 have ae:Extern.allTypedRows.lookup "internal/bytealg.IndexByteString" =none:=by rfl
 have av:Extern.allRows.lookup "internal/bytealg.IndexByteString" =some Extern.BytealgIndexByte.indexByte:=by rfl
 simp[Extern.find,aJ,ab,ae,av]
theorem Tj{fn:Func}(aJ:fn.name= "maps.clone"):Extern.find fn=some Extern.MapsClone.clone:=by
 have ab:Extern.allGenericRows.lookup "maps.clone" =none:=by rfl
 have ae:Extern.allTypedRows.lookup "maps.clone" =none:=by rfl
 have av:Extern.allRows.lookup "maps.clone" =some Extern.MapsClone.clone:=by rfl
 simp[Extern.find,aJ,ab,ae,av]
theorem Ke(c:Nat):∀(l:List UInt8) (i:Nat),n3 c l i=match l.findIdx? (λb=>Nat.beq b.toNat c) with
  |some j=>((i+j:Nat):Int)
  |none=>-1
 |[],i=>rfl
 |b::l,i=>by
  rw[n3,List.findIdx?_cons]
  cases Nat.beq b.toNat c with
  |true=>simp
  |false=>
   simp only[Ke c l (i+1)]
   cases l.findIdx? (λb=>Nat.beq b.toNat c) with
   |none=>rfl
   |some j=>
    simp only[Option.map_some]
    have:((i+(j+1):Nat):Int)=((i+1+j:Nat):Int):=by congr 1;omega
    exact this.symm
theorem Tk(b:ByteArray)(p:UInt8->Bool):(List.range b.size).find? (λi=>p b[i]!)=b.data.toList.findIdx? p:=by
 have bE:b.data.toList.length=b.size:=Array.length_toList
 have fR:∀(i:Nat) (af:i<b.data.toList.length),b[i]! =b.data.toList[i]:=λi af=>by
  have eQ:i<b.size:=by omega
  rw[getElem!_pos b i eQ];rfl
 cases hf:b.data.toList.findIdx? p with
 |none=>
  rw[List.find?_eq_none]
  intro i af
  have eQ:i<b.data.toList.length:=by rw[bE];simpa using af
  rw[fR i eQ]
  have:=List.findIdx?_eq_none_iff.1 hf _ (List.getElem_mem eQ)
  rw[this];exact Bool.false_ne_true
 |some j=>
  obtain⟨aI,aY,cx⟩:=List.findIdx?_eq_some_iff_getElem.1 hf
  rw[List.find?_range_eq_some]
  refine⟨?_,by simp;omega,λi af=>?_⟩
  · rw[fR j aI];exact aY
  · rw[fR i (by omega)]
    have:=cx i af
    simpa using this
theorem Tl{α:Type}(n:Int)(f:Int->α)(g:Array Value->α):Extern.BytealgMakeNoZero.makeNoZero.match_3 (λ_=>α) #[.int .i64 n] f g=f n:=rfl
theorem Tm{α:Type}(t:TypeId)(r:Nat)(f:TypeId->Nat->α)(e:TypeId->α)(g:Array Value->α):Extern.MapsClone.clone.match_2 (λ_=>α) #[.iface t (.map (some r))] f e g=f t r:=rfl
theorem Tn{α:Type}(b c:Value)(f:Value->Value->α)(g:Array Value->α):Extern.BytealgIndexByte.indexByte.match_2 (λ_=>α) #[b,c] f g=f b c:=rfl
theorem To{f:FuncId}{fn:Func}(hf:P.funcs[f]? =some fn)(ag:fn.body=none)(pz:Bj P){args:List J}{H aZ:aa}{v:J}(h:vn P fn fn.name args H=some (v,aZ))
  {μ:bl}{w:World}{vs:List Value}(aj:bm μ H w)(aH:b9 μ args vs):
  ∃u w',(callFunc f ⟨vs⟩).run P w=.ok (.value u) w'/\Ends μ H w (.ret v aZ) (.returned u) w':=by
 have call:∀e:Array Value->Sem Value,fn.name∈r1->Extern.find fn=some e->(callFunc f ⟨vs⟩).run P w=(do let v<-e ⟨vs⟩;pure (.value v):Sem Next).run P w:=by
  intro e hm he
  have aJ:=pz f fn hf ag hm
  have yc:(fn.name== "runtime.NumGoroutine")=false:=by
   simp only[r1,List.mem_cons,List.mem_nil_iff,or_false] at hm
   rcases hm with h|h|h|h<;>rw[h]<;>decide
  rw[run_callFunc_extern hf yc (by rw[ag];rfl) aJ he];simp only[Sem.run_bind];rfl
 unfold vn at h
 split at h
 · rename_i n
   split at h
   · rename_i oq
     split at h
     · rename_i t a2
       split at h
       · rename_i e hu
         split at h
         · rename_i hle
           cases h
           have D2:n<=1099511627776:=by simpa using hle
           obtain⟨u,us,rfl,ab,ae⟩:=aH
           cases ab;cases ae
           have bE:∀(t:TypeId),(Question.appendCap n 0 t).forced=false:=λ_=>rfl
           obtain⟨cap,pg,Kf⟩:∃cap,(Question.appendCap n 0 e).cut (w.tape w.drawn (Question.appendCap n 0 e))=cap/\n<=cap:=⟨_,rfl,by simp[Question.cut]⟩
           obtain⟨Kg,nz⟩:∃x,(Question.extern "internal/bytealg.MakeNoZero.bytes" 0).cut (w.drew.tape w.drew.drawn (Question.extern "internal/bytealg.MakeNoZero.bytes" 0))=x:=⟨_,rfl⟩
           have aq:=Kd cap Kg #[]
           have Kh:=aj.drew.drew
           obtain⟨ba,bt⟩:=Kh.alloc (.cells (List.replicate n .bad) e .aM 0 0) (.cells (Extern.BytealgMakeNoZero.digits cap Kg #[]) e) cap
            ⟨_,0,0,World.heap_alloc_new _ _,λj v aI=>by
              have DL:j<n:=by
               rcases Nat.lt_or_ge j n with h|h
               · exact h
               · rw[List.getElem?_eq_none (by simpa using h)] at aI;cases aI
              rw[List.getElem?_replicate,if_pos DL] at aI
              cases aI
              refine⟨_,Array.getElem?_eq_getElem (by rw[Nat.zero_add,aq];simp;omega),trivial⟩,by rw[aq];simp,by simpa using Kf,λj _ _ h=>by omega⟩
           refine⟨_,_,?_,gy μ H.n ⟨w.drew.drew.heap.size,0,cap⟩,_,rfl,⟨_,gz _ _ _,cap,rfl,Kf,by simp⟩,ba,b4.trans aj aj.drew b4.drew (b4.trans aj.drew Kh b4.drew bt)⟩
           rw[call _ (by rw[oq];simp[r1]) (Th oq)]
           have Tp:¬((Int.ofNat n<0||Int.ofNat n>2^48)=true):=by
            have ae:(2:Int)^48=281474976710656:=by rfl
            have av:Int.ofNat n=(n:Int):=rfl
            rw[ae,av];simp only[Bool.or_eq_true,decide_eq_true_eq];omega
           have Tq:(Question.extern "internal/bytealg.MakeNoZero.bytes" 0).forced=false:=rfl
           have Bk:(Int.ofNat n).toNat=n:=rfl
           delta Extern.BytealgMakeNoZero.makeNoZero
           rw[Tl]
           simp only[Sem.run_bind,a2,Sem.run_pure,bO hu,Result.andThen_ok]
           rw[if_neg Tp]
           simp only[Sem.run_bind,run_choose,Bk,bE,Tq,Bool.false_eq_true,if_false,World.drew_eq,pg,Result.andThen_ok,run_askRoom,nz,Sem.run_pure]
           rfl
         · cases h
       · cases h
     · cases h
   · cases h
 · rename_i x _
   obtain⟨u,us,rfl,ab,ae⟩:=aH
   cases ae
   split at h
   · rename_i oq
     cases h
     refine⟨u,w,?_,μ,u,rfl,ab,aj,b4.refl _ _ _⟩
     rw[call _ (by rw[oq];simp[r1]) (Tg oq)]
     rfl
   · split at h
     · rename_i oq
       split at h
       · rename_i t r
         split at h
         · rename_i es c ao
           cases h
           obtain⟨y,rfl,i,af,rfl⟩:=ab
           obtain⟨ents,aE,aC⟩:=aj.rel _ _ i ao af
           have hle:=aj.n6 ⟨w.heap.size,0,0⟩
           obtain⟨ba,bt⟩:=aj.alloc (.map es c) (.map ⟨ents⟩ c) 0 ⟨ents,World.heap_alloc_new _ _,aC.mono hle⟩
           refine⟨_,_,?_,gy μ H.n ⟨w.heap.size,0,0⟩,.iface _ (.map (some w.heap.size)),rfl,⟨.map (some w.heap.size),rfl,⟨w.heap.size,0,0⟩,gz _ _ _,rfl⟩,ba,bt⟩
           rw[call _ (by rw[oq];simp[r1]) (Tj oq)]
           have hp:(getObj i.bg).run P w=.ok (.map ⟨ents⟩ c) w:=by simp[getObj,Sem.run,aE]
           simp only[Sem.run_bind]
           rw[show(⟨[Value.iface _ (Value.map (some i.bg))]⟩:Array Value)=#[.iface _ (.map (some i.bg))] from rfl]
           delta Extern.MapsClone.clone
           rw[Tm]
           simp only[Sem.run_bind,hp,Result.andThen_ok,run_newObj,Sem.run_pure]
           rfl
         · cases h
       · cases h
     · cases h
 · rename_i s c
   split at h
   · rename_i oq
     split at h
     · rename_i ah
       cases h
       have pb:c<256:=by simpa using ah
       obtain⟨u,us,rfl,ab,ae⟩:=aH
       obtain⟨A2,ac5,rfl,av,aK⟩:=ae
       cases av;cases aK
       obtain⟨t,rfl,rfl⟩:=ab
       refine⟨_,w,?_,μ,_,rfl,rfl,aj,b4.refl _ _ _⟩
       rw[call _ (by rw[oq];simp[r1]) (Ti oq)]
       have nz:(Int.ofNat c).toNat.toUInt8=UInt8.ofNat c:=rfl
       have heq:∀b:UInt8,(b==UInt8.ofNat c)=Nat.beq b.toNat c:=λb=>by
        rw[Bool.eq_iff_iff,beq_iff_eq,Nat.beq_eq,<-UInt8.toNat_inj]
        simp[Nat.mod_eq_of_lt pb]
       delta Extern.BytealgIndexByte.indexByte
       rw[Tn]
       simp only[Sem.run_bind,Extern.Bytes.bytesOf,Extern.Bytes.asByte,Sem.run_pure,Result.andThen_ok,nz,heq]
       have hf:=Tk t (λb=>Nat.beq b.toNat c)
       rw[hf,Ke]
       cases t.data.toList.findIdx? (λb=>Nat.beq b.toNat c) with
       |none=>rfl
       |some j=>
        simp only[Nat.zero_add]
        rfl
     · cases h
   · cases h
 · cases h
def l4(P:Program)(intr:Nat->List J->aa->Option (J×aa)):Prop:=
 ∀f args H v aZ,intr f args H=some (v,aZ)->∀μ w (vs:List Value),bm μ H w->h3 P μ->b9 μ args vs->vD P f vs w (Ends μ H w (.ret v aZ))
theorem Tr{call:aO->List J->aa->ax}(ah:l2 P call)(hdr:∀need ck,rY P need ck call)(fI:x7 P)(pz:Bj P){f:Nat}{args:List J}{H:aa}(bX:(qk P call f args H).lp=true)
  {μ:bl}{w:World}{vs:List Value}(aj:bm μ H w)(ao:h3 P μ)(aH:b9 μ args vs):vD P f vs w (Ends μ H w (qk P call f args H)):=by
 unfold qk at bX⊢
 cases hf:P.funcs[f]? with
 |none=>rw[hf] at bX;cases bX
 |some fn=>
  rw[hf] at bX
  simp only at bX⊢
  cases ag:fn.body with
  |none=>
   rw[ag] at bX
   simp only at bX⊢
   cases ad:vn P fn fn.name args H with
   |none=>rw[ad] at bX;cases bX
   |some p=>
    obtain⟨v,aZ⟩:=p
    obtain⟨u,w',ab,ae⟩:=To hf ag pz ad aj aH
    exact .inl ⟨u,w',ab,ae⟩
  |some c=>
   rw[ag] at bX
   simp only at bX⊢
   obtain⟨tr,Bh⟩:=fI f fn c hf ag
   exact .inr ⟨Ez hf ag Bh _ _,S9 ah hdr fI hf ag aH aj ao bX⟩
theorem Ki{intr:Nat->List J->aa->Option (J×aa)}(af:l4 P intr)(hdr:∀call,l2 P call->∀need ck,rY P need ck call)(fI:x7 P)(pz:Bj P):∀n,l2 P (e_ P intr n)
 |0=>⟨λf args H ao=>(by cases ao),λl args H ao=>(by cases ao)⟩
 |n+1=>by
  have bp:=Ki af hdr fI pz n
  refine⟨λf args H bX μ w vs aj ao aH=>?_,λl args H bX μ w i vs aj ao aw aH=>?_⟩
  · simp only[e_] at bX⊢
    cases ad:intr f args H with
    |some p=>
     obtain⟨v,aZ⟩:=p
     exact af f args H v aZ ad μ w vs aj ao aH
    |none=>
     rw[ad] at bX
     exact Tr bp (hdr _ bp) fI pz bX aj ao aH
  · simp only[e_] at bX⊢
    exact Tc bp (hdr _ bp) bX aj ao aw aH
end
end ay
namespace ay
open Go
def tt(ops:Array Oper)(S:List Nat):List Nat->Prop
 |[]=>∀i,i<ops.size->i∈S
 |i::rest=>i<ops.size/\i∉S/\(∀o,ops[i]? =some o->∀e∈o.after,Region.binds .any e=true->e.on∈S)/\tt ops (i::S) rest
theorem filter_lt{p q:Nat->Bool}(ki:∀x,q x=true->p x=true):∀(l:List Nat) {i:Nat},i∈l->p i=true->q i=false->(l.filter q).length<(l.filter p).length
 |[],i,h,_,_=>by cases h
 |a::l,i,h,aY,a1=>by
  have hle:∀l:List Nat,(l.filter q).length<=(l.filter p).length:=λl=>by
   induction l with
   |nil=>simp
   |cons b l bp=>
    simp only[List.filter_cons]
    cases ag:q b with
    |true=>simp[ki b ag];exact bp
    |false=>cases p b<;>simp<;>omega
  rcases List.mem_cons.1 h with rfl|h
  · have:=hle l
    simp only[List.filter_cons,aY,a1,if_true,Bool.false_eq_true,if_false,List.length_cons];omega
  · have bp:=filter_lt ki l h aY a1
    simp only[List.filter_cons]
    cases ag:q a with
    |true=>simp[ki a ag];exact bp
    |false=>cases p a<;>simp<;>omega
theorem Ts{ops:Array Oper}(r2:∀o i,ops[i]? =some o->n5 o i=true){listed:Array Bool}(bE:listed.size=ops.size)(ai:Region.ready .any ops listed=[]):∀i,i<ops.size->listed.getD i true=true:=by
 intro i
 induction i using Nat.strongRecOn with
 |ind i bp=>
  intro af
  cases aw:listed.getD i true with
  |true=>rfl
  |false=>
   have a8:ops[i]? =some ops[i]:=Array.getElem?_eq_getElem af
   have:i∈Region.ready .any ops listed:=mem_ready.2 ⟨aw,ops[i],a8,λe he ag=>by
    have:=r2 _ _ a8
    unfold n5 at this
    rw[List.all_eq_true] at this
    have ae:=this e (by simpa using he)
    simp only[ag,Bool.not_true,Bool.false_or,Nat.blt_eq] at ae
    have av:=bp e.on ae (by omega)
    have cx:e.on<listed.size:=by omega
    simp[cx] at av⊢
    exact av⟩
   rw[ai] at this;cases this
theorem Kj{ops:Array Oper}(r2:∀o i,ops[i]? =some o->n5 o i=true):∀(fuel t:Nat) (listed:Array Bool) (S:List Nat),listed.size=ops.size->(∀i,i<ops.size->(listed.getD i true=true<->i∈S))->
  ((List.range ops.size).filter λi=>!listed.getD i true).length<=fuel->tt ops S (Region.linearise.go .any ops fuel t listed [])
 |0,t,listed,S,bE,jU,hf=>by
  simp only[Region.linearise.go,List.reverse_nil,tt]
  intro i af
  rw[<-jU i af]
  have h0:((List.range ops.size).filter λi=>!listed.getD i true)=[]:=List.length_eq_zero_iff.1 (Nat.le_zero.1 hf)
  rw[List.filter_eq_nil_iff] at h0
  have:=h0 i (List.mem_range.2 af)
  simpa using this
 |fuel+1,t,listed,S,bE,jU,hf=>by
  simp only[Region.linearise.go]
  change tt ops S (match(Region.ready .any ops listed)[t %(Region.ready .any ops listed).length]? with
   |some i=>Region.linearise.go .any ops fuel (t/(Region.ready .any ops listed).length) (listed.setIfInBounds i true) [i]
   |none=>[].reverse)
  cases af:(Region.ready .any ops listed)[t %(Region.ready .any ops listed).length]? with
  |none=>
   have tu:Region.ready .any ops listed=[]:=by
    cases ai:Region.ready .any ops listed with
    |nil=>rfl
    |cons x xs=>
     rw[ai] at af
     have cx:t %(x::xs).length<(x::xs).length:=Nat.mod_lt _ (by simp)
     rw[List.getElem?_eq_getElem cx] at af;cases af
   simp only[List.reverse_nil,tt]
   exactλi h=>(jU i h).1 (Ts r2 bE tu i h)
  |some i=>
   simp only[]
   rw[linearise_go_acc,List.reverse_singleton,List.singleton_append]
   obtain⟨ab,o,ae,av⟩:=mem_ready.1 (List.mem_of_getElem? af)
   have cx:i<ops.size:=(Array.getElem?_eq_some_iff.1 ae).1
   have DU:i<listed.size:=by omega
   have ti:∀j d,(listed.setIfInBounds i true).getD j d=if j=i then true else listed.getD j d:=λj d=>by
    simp only[Array.getD_eq_getD_getElem?,Array.getElem?_setIfInBounds]
    by_cases e:i=j
    · subst e;simp[DU]
    · rw[if_neg e,if_neg (λh=>e h.symm)]
   refine⟨cx,λh=>?_,λo' il e he ag=>?_,Kj r2 fuel _ _ _ (by simpa using bE) (λj aI=>?_) ?_⟩
   · have:=(jU i cx).2 h
     rw[ab] at this;cases this
   · rw[ae] at il;cases il
     have aK:=av e he ag
     have Bl:e.on<listed.size:=by
      rcases Nat.lt_or_ge e.on listed.size with h|h
      · exact h
      · simp[Array.getElem?_eq_none h] at aK
     rw[<-jU e.on (by omega)]
     simp[Bl] at aK⊢
     exact aK
   · rw[ti,List.mem_cons]
     by_cases e:j=i
     · simp[e]
     · rw[if_neg e,jU j aI];simp[e]
   · have ac6:((List.range ops.size).filter λj=>!(listed.setIfInBounds i true).getD j true).length<((List.range ops.size).filter λj=>!listed.getD j true).length:=
       filter_lt (λx ad=>by
        rw[ti] at ad
        by_cases e:x=i
        · rw[if_pos e] at ad;cases ad
        · rw[if_neg e] at ad;exact ad) _ (List.mem_range.2 cx) (by rw[ab];rfl) (by rw[ti,if_pos rfl];rfl)
     omega
theorem Tt{ops:Array Oper}(r2:∀o i,ops[i]? =some o->n5 o i=true)(t:Nat):tt ops [] (Region.schedule true ops t):=by
 simp only[Region.schedule,Bool.true_or,if_true,Region.linearise]
 refine Kj r2 ops.size t _ [] (by simp) (λi af=>by simp[af]) ?_
 refine Nat.le_trans (List.length_filter_le _ _) (by simp)
section
variable {P:Program} {g ez:Operand->J}
theorem EH{o:Option Operand}(h:∀x∈o.toArray,g x=ez x):o.map g=o.map ez:=by
 cases o with
 |none=>rfl
 |some x=>simp[h x (by simp)]
theorem yd(o:Oper)(H:aa)(h:∀x∈o.op.operands,g x=ez x):cD P o g H=cD P o ez H:=by
 obtain⟨dst,op,type,pos,after,guard⟩:=o
 have Bm:∀ps:Array (Nat×Operand),(∀x∈ps.map (·.2),g x=ez x)->(ps.toList.map λp=>(p.1,g p.2))=(ps.toList.map λp=>(p.1,ez p.2)):=λps aY=>
  List.map_congr_left λp hm=>by rw[aY p.2 (Array.mem_map.2 ⟨p,by simpa using hm,rfl⟩)]
 cases op<;>simp only[Op.operands] at h<;>unfold cD
 case build t ps=>simp only[Bm ps λx ad=>h x (by simpa using ad)]
 case buildSlice t n ps=>simp only[Bm ps λx ad=>h x (by simpa using ad)]
 case makeFunc fn first captured=>
  simp only[List.map_congr_left (l:=first.toList) λx ad=>h x (by simp at ad;simp[ad]),List.map_congr_left (l:=captured.toList) λx ad=>h x (by simp at ad;simp[ad])]
 case call c=>
  have a5:c.args.toList.map g=c.args.toList.map ez:=List.map_congr_left λx ad=>h x (by simp at ad;simp[Call.operands,ad])
  simp only[a5]
  cases ah:c.callee with
  |value f=>have hf:g f=ez f:=h f (by simp[Call.operands,ah]);simp only[hf]
  |invoke r m=>have ai:g r=ez r:=h r (by simp[Call.operands,ah]);simp only[ai]
  |builtin b=>rfl
 case defer c=>
  have a5:c.args.toList.map g=c.args.toList.map ez:=List.map_congr_left λx ad=>h x (by simp at ad;simp[Call.operands,ad])
  simp only[a5]
  cases ah:c.callee with
  |value f=>have hf:g f=ez f:=h f (by simp[Call.operands,ah]);simp only[hf]
  |invoke r m=>rfl
  |builtin b=>rfl
 case makeMap t r=>cases r<;>simp_all
 case slice t x aW af mx=>
  have aE:aW.map g=aW.map ez:=EH λy a6=>h y (by simp at a6;simp[a6])
  have aC:af.map g=af.map ez:=EH λy a6=>h y (by simp at a6;simp[a6])
  have bu:mx.map g=mx.map ez:=EH λy a6=>h y (by simp at a6;simp[a6])
  have cX:g x=ez x:=h x (by simp)
  have gJ:∀o:Option Operand,(o.map λo=>kindName (g o))=(o.map g).map kindName:=λo=>by cases o<;>rfl
  have eK:∀o:Option Operand,(o.map λo=>kindName (ez o))=(o.map ez).map kindName:=λo=>by cases o<;>rfl
  simp only[aE,aC,bu,cX,gJ,eK]
 all_goals (first|rfl|(simp_all;done))
theorem ye(o:Op)(b:Nat)(h:∀x∈o.operands,g x=ez x):kb P o g b=kb P o ez b:=by
 have Bm:∀ps:Array (Nat×Operand),(∀x∈ps.map (·.2),g x=ez x)->(ps.toList.map λp=>(p.1,g p.2))=(ps.toList.map λp=>(p.1,ez p.2)):=λps aY=>
  List.map_congr_left λp hm=>by rw[aY p.2 (Array.mem_map.2 ⟨p,by simpa using hm,rfl⟩)]
 cases o<;>simp only[Op.operands] at h<;>unfold kb
 case buildSlice t n ps=>simp only[Bm ps λx ad=>h x (by simpa using ad)]
 case makeMap t r=>cases r<;>rfl
 all_goals (first|rfl|(simp_all;done))
theorem Tu{o:Oper}{H aZ:aa}{v:J}(au:kindOf P o.op=.pure)(h:cD P o g H=.val v aZ):aZ=H:=by
 have g2:∀{w:String} {x:Option J},fX H w x=.val v aZ->aZ=H:=λ{w x} e=>by
  cases x with
  |none=>cases e
  |some y=>cases e;rfl
 obtain⟨dst,op,type,pos,after,guard⟩:=o
 cases op<;>simp only[kindOf] at au<;>(try (cases au;done))<;>unfold cD at h<;>simp only at h
 case move=>cases h;rfl
 case assign=>cases h;rfl
 case pick=>
  split at h
  · cases h;rfl
  · cases h;rfl
  · cases h
 case build=>
  repeat' (first|contradiction|(cases h;rfl)|(cases h;done)|split at h)
 case load=>
  repeat' (first|contradiction|(cases h;rfl)|(cases h;done)|exact g2 h|split at h)
 case nilCheck=>repeat' (first|contradiction|(cases h;rfl)|(cases h;done)|exact g2 h|split at h)
 case binOp=>exact g2 h
 case unOp=>repeat' (first|contradiction|(cases h;rfl)|(cases h;done)|exact g2 h|split at h)
 case convert s d x=>
  have dK:∀e,P.underlying d≠some (.slice e):=λe he=>by rw[he] at au;cases au
  unfold ea at h
  repeat' (first|exact absurd (by assumption) (dK _)|(cases h;rfl)|(cases h;done)|split at h)
 case makeInterface=>repeat' (first|contradiction|(cases h;rfl)|(cases h;done)|exact g2 h|split at h)
 case makeFunc=>repeat' (first|contradiction|(cases h;rfl)|(cases h;done)|exact g2 h|split at h)
 case makeMap r=>cases r<;>cases au
 case slice=>exact g2 h
 case fieldAddr=>repeat' (first|contradiction|(cases h;rfl)|(cases h;done)|exact g2 h|split at h)
 case field=>repeat' (first|contradiction|(cases h;rfl)|(cases h;done)|exact g2 h|split at h)
 case indexAddr=>repeat' (first|contradiction|(cases h;rfl)|(cases h;done)|exact g2 h|split at h)
 case index=>repeat' (first|contradiction|(cases h;rfl)|(cases h;done)|exact g2 h|split at h)
 case lookup=>exact g2 h
 case typeAssert=>repeat' (first|contradiction|(cases h;rfl)|(cases h;done)|exact g2 h|split at h)
 case extract=>repeat' (first|contradiction|(cases h;rfl)|(cases h;done)|exact g2 h|split at h)
 case call c=>
  cases ah:c.callee with
  |value f=>rw[ah] at au;cases au
  |invoke r m=>rw[ah] at au;cases au
  |builtin b=>
   rw[ah] at au h
   simp only at h
   cases b<;>simp only at au<;>(try (cases au;done))<;>unfold iD at h<;>simp only at h
   all_goals repeat' (first|contradiction|(cases h;rfl)|(cases h;done)|exact g2 h|split at h)
end
end ay
namespace ay
open Go
def k2(ops:Array Oper)(S:List Nat)(j:Nat):Prop:=∀o,ops[j]? =some o->∀e∈o.after,Region.binds .any e=true->e.on∈S
def Bn(ops:Array Oper)(S:List Nat):Prop:=∀j∈S,k2 ops S j
def Sound(ops:Array Oper)(j m:Nat):Prop:=∀S,Bn ops S->k2 ops S j->∀b,Nat.testBit m b=true->b∈S
def yf(ops:Array Oper)(n:Nat)(gH:List Nat):Prop:=∀j,j<n->∃m,nth (n-1-j) gH=some m/\Sound ops j m
theorem Tv(a b:Nat)(h:Nat.testBit (1<<<a) b=true):b=a:=by
 rw[Nat.shiftLeft_eq,Nat.one_mul,Nat.testBit_two_pow] at h
 exact(of_decide_eq_true h).symm
theorem Kk{gH:List Nat}{n:Nat}:∀(l:List Edge) (s b:Nat),Nat.testBit (l.foldl (λs e=>match Region.binds .any e with
  |true=>s|||1<<<e.on|||(nth (n-1-e.on) gH).getD 0
  |false=>s) s) b=true->Nat.testBit s b=true\/∃e∈l,Region.binds .any e=true/\(b=e.on\/Nat.testBit ((nth (n-1-e.on) gH).getD 0) b=true)
 |[],s,b,h=>.inl h
 |e::l,s,b,h=>by
  rw[List.foldl_cons] at h
  rcases Kk l _ b h with h|⟨cI,ab,ae⟩
  · cases ag:Region.binds .any e with
    |false=>rw[ag] at h;exact .inl h
    |true=>
     rw[ag] at h
     simp only[Nat.testBit_or,Bool.or_eq_true] at h
     rcases h with(h|h)|h
     · exact .inl h
     · exact .inr ⟨e,by simp,ag,.inl (Tv _ _ h)⟩
     · exact .inr ⟨e,by simp,ag,.inr h⟩
  · exact .inr ⟨cI,by simp[ab],ae⟩
theorem Tw{ops:Array Oper}{gH:List Nat}{n:Nat}{o:Oper}(a8:ops[n]? =some o)(ag:n5 o n=true)(hm:yf ops n gH):Sound ops n (xv gH n o):=by
 intro S jU ai b h
 unfold xv at h
 rw[<-Array.foldl_toList] at h
 rcases Kk _ _ _ h with h|⟨e,ab,ae,av⟩
 · simp at h
 · have he:e∈o.after:=by simpa using ab
   have Bl:=ai o a8 e he ae
   rcases av with rfl|av
   · exact Bl
   · have cx:e.on<n:=by
       unfold n5 at ag
       rw[List.all_eq_true] at ag
       have:=ag e ab
       simpa[ae] using this
     obtain⟨m,Kl,Km⟩:=hm e.on cx
     rw[Kl] at av
     exact Km S jU (jU _ Bl) b av
theorem yf.cons{ops:Array Oper}{gH:List Nat}{n m:Nat}(h:yf ops n gH)(hs:Sound ops n m):yf ops (n+1) (m::gH):=by
 intro j aI
 by_cases e:j=n
 · subst e;exact⟨m,by simp[nth],hs⟩
 · obtain⟨Bi,ab,ae⟩:=h j (by omega)
   refine⟨Bi,?_,ae⟩
   have:n+1-1-j=(n-1-j)+1:=by omega
   rw[this];exact ab
theorem Kn:∀(l:List Oper) (n:Nat) (loc:List (Nat×Acc)) (k:Nat) (o:Oper),l[k]? =some o->iP (l.take (k+1)) n loc=lS o (n+k) (iP (l.take k) n loc)
 |[],n,loc,k,o,h=>by simp at h
 |x::l,n,loc,0,o,h=>by simp at h;subst h;simp[iP]
 |x::l,n,loc,k+1,o,h=>by
  have an:l[k]? =some o:=by simpa using h
  have bp:=Kn l (n+1) (lS x n loc) k o an
  simp only[List.take_succ_cons,iP]
  rw[bp]
  have:n+1+k=n+(k+1):=by omega
  rw[this]
theorem yg{ops:Array Oper}:∀(l:List Oper) (n:Nat) (loc:List (Nat×Acc)) (gH:List Nat),(∀k,l[k]? =ops[n+k]?)->(∀s∈fk l n loc gH,n5 s.o s.i=true)->yf ops n gH->∀(k:Nat) (o:Oper),l[k]? =some o->
  ∃s,(fk l n loc gH)[k]? =some s/\s.i=n+k/\s.o=o/\s.loc=iP (l.take k) n loc/\Sound ops (n+k) s.e9
 |[],n,loc,gH,aw,he,hm,k,o,h=>by simp at h
 |x::l,n,loc,gH,aw,he,hm,k,o,h=>by
  simp only[fk] at he⊢
  have ad:ops[n]? =some x:=by have:=aw 0;simpa using this.symm
  have ag:n5 x n=true:=he ⟨n,x,xv gH n x,loc⟩ (by simp)
  have hs:=Tw ad ag hm
  cases k with
  |zero=>
   simp at h;subst h
   exact⟨_,rfl,rfl,rfl,rfl,hs⟩
  |succ k=>
   obtain⟨s,ab,ae,av,aK,bU⟩:=yg l (n+1) (lS x n loc) (xv gH n x::gH) (λj=>by have:=aw (j+1);simp at this;rw[this];congr 1;omega) (λs hs=>he s (by simp[hs])) (hm.cons hs) k o (by simpa using h)
   exact⟨s,by simpa using ab,by omega,av,by simpa[iP] using aK,by rw[show n+(k+1)=n+1+k by omega];exact bU⟩
theorem EI:∀(l:List Oper) (n:Nat) (loc:List (Nat×Acc)) (gH:List Nat),(fk l n loc gH).length=l.length
 |[],_,_,_=>rfl
 |x::l,n,loc,gH=>by simp[fk,EI l]
theorem vI{ops:Array Oper}:∀{l:List DStep},ql ops l=true->∀s∈l,n5 s.o s.i=true
 |[],_,s,h=>by cases h
 |x::l,aq,s,h=>by
  simp only[ql,Bool.and_eq_true] at aq
  rcases List.mem_cons.1 h with rfl|h
  · exact aq.1.1
  · exact vI aq.2 s h
theorem Ko{ops:Array Oper}{s:DStep}:∀{l:List DStep},AG ops s l=true->∀a4∈l,(∃t,s.o.dst=some t/\t∈lU ops a4.o)\/(∃t,a4.o.dst=some t/\t∈lU ops s.o)->Nat.testBit a4.e9 s.i=true
 |[],_,a4,h=>by cases h
 |x::l,aq,a4,h=>by
  simp only[AG,Bool.and_eq_true] at aq
  rcases List.mem_cons.1 h with rfl|h
  · intro aJ
    have ab:=aq.1
    split at ab
    · exact ab
    · rename_i ah
      exfalso
      rw[Bool.or_eq_false_iff] at ah
      rcases aJ with⟨t,e,hm⟩|⟨t,e,hm⟩
      · have:=ah.1;rw[e] at this;simp[hm] at this
      · have:=ah.2;rw[e] at this;simp[hm] at this
  · exact Ko aq.2 a4 h
theorem Kp{ops:Array Oper}:∀{l:List DStep},ql ops l=true->∀(i j:Nat) (s a4:DStep),i<j->l[i]? =some s->l[j]? =some a4->(∃t,s.o.dst=some t/\t∈lU ops a4.o)\/(∃t,a4.o.dst=some t/\t∈lU ops s.o)->Nat.testBit a4.e9 s.i=true
 |[],_,i,j,s,a4,_,h,_=>by simp at h
 |x::l,aq,i,j,s,a4,r3,ab,ae=>by
  simp only[ql,Bool.and_eq_true] at aq
  cases j with
  |zero=>omega
  |succ j=>
   have pA:l[j]? =some a4:=by simpa using ae
   cases i with
   |zero=>
    simp at ab;subst ab
    exact Ko aq.1.2 a4 (List.mem_of_getElem? pA)
   |succ i=>exact Kp aq.2 i j s a4 (by omega) (by simpa using ab) pA
structure tv where
 env:List J
 d:List bC
 q:bG
 h:aa
 a9:List (Nat×Nat×aa)
section
variable {P:Program} {need:Nat} {inR:Bool} {call:aO->List J->aa->ax} {ops:Array Oper} {r:aU} {cF:Nat}
def l5(P:Program)(need:Nat)(r:aU)(s:DStep)(env:List J):Operand->J:=λx=>d_ s.i env r (cP P need s.loc x)
inductive tw(P:Program)(need:Nat)(inR:Bool)(call:aO->List J->aa->ax)(ops:Array Oper)(r:aU)(cF:Nat)(s:DStep)(st:tv):tv->Prop where
 |vJ (au:kindOf P s.o.op=.alloc) (hw:eH (g0 P need ops r s.i st.env s)=some false):tw P need inR call ops r cF s st {st with env:=.aD []::st.env}
 |alloc {v:J} {ob:b3} (au:kindOf P s.o.op=.alloc) (hw:eH (g0 P need ops r s.i st.env s)=some true) (a5:kb P s.o.op (l5 P need r s st.env) (cF+s.i)=some (v,ob)):
   tw P need inR call ops r cF s st {st with env:=v::st.env,h:=st.h.set (cF+s.i) (some ob)}
 |pure {v:J} {bx:List bC} {bq:bG} {an:aa} (au:kindOf P s.o.op=.pure) (he:eb P inR call (g0 P need ops r s.i st.env s) s.o (l5 P need r s st.env) st.d st.q st.h=.ok v bx bq an):
   tw P need inR call ops r cF s st {st with env:=v::st.env}
 |ey {v:J} {bx:List bC} {bq:bG} {an:aa} (au:kindOf P s.o.op=.ey) (a8:∀e m h0 l,st.a9=(e,m,h0)::l->Nat.testBit s.e9 e=true)
   (he:eb P inR call (g0 P need ops r s.i st.env s) s.o (l5 P need r s st.env) st.d st.q st.h=.ok v bx bq an):tw P need inR call ops r cF s st ⟨v::st.env,bx,bq,an,(s.i,s.e9,st.h)::st.a9⟩
theorem Tx{s:DStep}{rest:List DStep}{st:tv}{x:DF}(h:gw P need inR call ops r cF (s::rest) st.env st.d st.q st.h st.a9=x)(hf:∀w,x≠ .fail w):
  (∃b2,tw P need inR call ops r cF s st b2/\gw P need inR call ops r cF rest b2.env b2.d b2.q b2.h b2.a9=x)\/
  (kindOf P s.o.op=.ey/\(∀e m h0 l,st.a9=(e,m,h0)::l->Nat.testBit s.e9 e=true)/\rest.all (λa4=>Nat.testBit a4.e9 s.i)=true/\
   ∃v bx bq an,eb P inR call (g0 P need ops r s.i st.env s) s.o (l5 P need r s st.env) st.d st.q st.h=.bk v bx bq an/\x=.bk v st.env bx bq an ((s.i,s.e9,st.h)::st.a9)):=by
 simp only[gw] at h
 split at h
 · rename_i au
   split at h
   · exact absurd h.symm (hf _)
   · rename_i hw;exact .inl ⟨_,.vJ au hw,h⟩
   · rename_i hw
     split at h
     · rename_i v ob a5;exact .inl ⟨_,.alloc au hw a5,h⟩
     · exact absurd h.symm (hf _)
 · rename_i au
   split at h
   · rename_i he;exact .inl ⟨_,.pure au he,h⟩
   · exact absurd h.symm (hf _)
   · exact absurd h.symm (hf _)
 · rename_i au
   split at h
   · exact absurd h.symm (hf _)
   · rename_i a8
     have il:∀e m h0 l,st.a9=(e,m,h0)::l->Nat.testBit s.e9 e=true:=λe m h0 l hs=>by rw[hs] at a8;exact a8
     split at h
     · rename_i he;exact .inl ⟨_,.ey au il he,h⟩
     · rename_i he
       split at h
       · rename_i fI;exact .inr ⟨au,il,fI,_,_,_,_,he,h.symm⟩
       · exact absurd h.symm (hf _)
     · exact absurd h.symm (hf _)
theorem Kq:∀(l:List DStep) (st:tv) (x:DF),gw P need inR call ops r cF l st.env st.d st.q st.h st.a9=x->(∀w,x≠ .fail w)->
  ∃(f:Nat->tv) (N:Nat),f 0=st/\N<=l.length/\(∀k s,k<N->l[k]? =some s->tw P need inR call ops r cF s (f k) (f (k+1)))/\
   ((N=l.length/\x=.ok (f N).env (f N).d (f N).q (f N).h (f N).a9)\/
    (∃s,l[N]? =some s/\kindOf P s.o.op=.ey/\(∀e m h0 l,(f N).a9=(e,m,h0)::l->Nat.testBit s.e9 e=true)/\(∀k a4,N<k->l[k]? =some a4->Nat.testBit a4.e9 s.i=true)/\
     ∃v bx bq an,eb P inR call (g0 P need ops r s.i (f N).env s) s.o (l5 P need r s (f N).env) (f N).d (f N).q (f N).h=.bk v bx bq an/\x=.bk v (f N).env bx bq an ((s.i,s.e9,(f N).h)::(f N).a9)))
 |[],st,x,h,hf=>⟨λ_=>st,0,rfl,Nat.le_refl _,λk s au=>by omega,.inl ⟨rfl,h.symm⟩⟩
 |s::l,st,x,h,hf=>by
  rcases Tx h hf with⟨b2,ab,ae⟩|⟨ab,ae,av,aK⟩
  · obtain⟨f,N,al,ak,aS,bb⟩:=Kq l b2 x ae hf
    refine⟨λk=>match k with|0=>st|k+1=>f k,N+1,rfl,by simpa using ak,λk a4 au hs=>?_,?_⟩
    · cases k with
      |zero=>simp at hs;subst hs;simp only[Nat.zero_add,al];exact ab
      |succ k=>exact aS k a4 (by omega) (by simpa using hs)
    · rcases bb with⟨aE,aC⟩|⟨s2,aE,aC,bu,cX,gJ⟩
      · exact .inl ⟨by simp[aE],aC⟩
      · refine .inr ⟨s2,by simpa using aE,aC,bu,λk a4 au hs=>?_,gJ⟩
        cases k with
        |zero=>omega
        |succ k=>exact cX k a4 (by omega) (by simpa using hs)
  · refine⟨λ_=>st,0,rfl,by simp,λk s au=>by omega,.inr ⟨s,rfl,ab,ae,λk a4 au hs=>?_,aK⟩⟩
    cases k with
    |zero=>omega
    |succ k=>
     rw[List.all_eq_true] at av
     exact av a4 (List.mem_of_getElem? (by simpa using hs))
mutual
theorem beq_eq:∀(a c:J),J.beq a c=true->a=c
 |.bool a,c,h=>by
  cases c<;>simp only[J.beq] at h<;>first|(cases h;done)|(simp at h;subst h;rfl)
 |.int k n,c,h=>by
  cases c<;>simp only[J.beq] at h<;>first|(cases h;done)|(simp[de] at h;obtain⟨rfl,rfl⟩:=h;rfl)
 |.str s,c,h=>by
  cases c<;>simp only[J.beq] at h<;>first|(cases h;done)|(rw[nk] at h;simp at h;subst h;rfl)
 |.bc,c,h=>by cases c<;>simp only[J.beq] at h<;>first|(cases h;done)|rfl
 |.ptr x y,c,h=>by
  cases c<;>simp only[J.beq] at h<;>first|(cases h;done)|(rw[Bool.and_eq_true,Nat.beq_eq,Nat.beq_eq] at h;obtain⟨rfl,rfl⟩:=h;rfl)
 |.az,c,h=>by cases c<;>simp only[J.beq] at h<;>first|(cases h;done)|rfl
 |.slice x y z cap,c,h=>by
  cases c<;>simp only[J.beq] at h<;>(try (cases h;done))
  rename_i x' QR ac7 Kr
  simp only[Bool.and_eq_true,Nat.beq_eq] at h
  obtain⟨⟨⟨rfl,rfl⟩,rfl⟩,h⟩:=h
  cases cap<;>cases Kr<;>simp only[cj.beq] at h<;>first|(cases h;done)|(rw[Nat.beq_eq] at h;subst h;rfl)|rfl
 |.hz,c,h=>by cases c<;>simp only[J.beq] at h<;>first|(cases h;done)|rfl
 |.map x,c,h=>by
  cases c<;>simp only[J.beq] at h<;>first|(cases h;done)|(rw[Nat.beq_eq] at h;subst h;rfl)
 |.fi,c,h=>by cases c<;>simp only[J.beq] at h<;>first|(cases h;done)|rfl
 |.fn x as bs,c,h=>by
  cases c<;>simp only[J.beq] at h<;>(try (cases h;done))
  simp only[Bool.and_eq_true,Nat.beq_eq] at h
  obtain⟨⟨rfl,ab⟩,ae⟩:=h
  rw[qv _ _ ab,qv _ _ ae]
 |.bR x,c,h=>by
  cases c<;>simp only[J.beq] at h<;>first|(cases h;done)|(rw[Nat.beq_eq] at h;subst h;rfl)
 |.eO,c,h=>by cases c<;>simp only[J.beq] at h<;>first|(cases h;done)|rfl
 |.iface t v,c,h=>by
  cases c<;>simp only[J.beq] at h<;>(try (cases h;done))
  simp only[Bool.and_eq_true,Nat.beq_eq] at h
  obtain⟨rfl,ab⟩:=h
  rw[beq_eq _ _ ab]
 |.agg cs,c,h=>by
  cases c<;>simp only[J.beq] at h<;>(try (cases h;done))
  rw[qv _ _ h]
 |.aD cs,c,h=>by
  cases c<;>simp only[J.beq] at h<;>(try (cases h;done))
  rw[qv _ _ h]
 |.bad,c,h=>by cases c<;>simp only[J.beq] at h<;>cases h
theorem qv:∀(a c:List J),J.j_ a c=true->a=c
 |[],[],_=>rfl
 |[],_::_,h=>by simp[J.j_] at h
 |_::_,[],h=>by simp[J.j_] at h
 |x::a,y::c,h=>by
  simp only[J.j_,Bool.and_eq_true] at h
  rw[beq_eq _ _ h.1,qv _ _ h.2]
end
end
end ay
