/-
  THE ABSTRACT EVALUATOR (code, functions, rounds, calls): a deterministic semantics of loaded code, and the proof that its runs are runs of the program in the model, whatever the tape draws. No condition.
-/
import Derived.Test.YtlelojncabdnoaaDoorAeb
import Derived.Defers
import Derived.Laws.Externs
import Derived.Orders
set_option linter.unusedVariables false
set_option linter.unusedSimpArgs false
namespace aS
open Go
def ju(P:Program)(need:Nat)(ops:Array Oper):List Oper->List (Nat×Acc)->Nat->List Step
 |[],_,_=>[]
 |o::rest,loc,m=>
  match aliasOf o with
  |some (t,x)=>ju P need ops rest ((t,bX P need loc x)::loc) m
  |none=>⟨hS P need ops loc o,o,loc,m⟩::ju P need ops rest (gl o m loc) (m+1)
def iJ(P:Program)(need:Nat)(ops:Array Oper):List Oper->List (Nat×Acc)->Nat->List (Nat×Acc)
 |[],loc,_=>loc
 |o::rest,loc,m=>
  match aliasOf o with
  |some (t,x)=>iJ P need ops rest ((t,bX P need loc x)::loc) m
  |none=>iJ P need ops rest (gl o m loc) (m+1)
theorem yj(P:Program)(need:Nat)(ops:Array Oper):∀(l:List Oper) (loc:List (Nat×Acc)) (st:List Step) (m:Nat),s8 P need ops l loc st m=⟨st.reverse++ju P need ops l loc m,iJ P need ops l loc m⟩
 |[],loc,st,m=>by simp[s8,ju,iJ]
 |o::rest,loc,st,m=>by
  unfold s8 ju iJ
  cases aJ:aliasOf o with
  |some p=>obtain⟨t,x⟩:=p;simp only[aJ];exact yj P need ops rest _ st m
  |none=>simp only[aJ];rw[yj P need ops rest];simp
section
variable {P:Program} {need:Nat}
theorem ns(t u:Nat)(a:Acc)(l:List (Nat×Acc)):gY t ((u,a)::l)=if t=u then some a else gY t l:=by
 rw[gY]
 by_cases h:t=u
 · subst h;simp
 · have:Nat.beq t u=false:=by
     cases ae:Nat.beq t u with
     |false=>rfl
     |true=>exact absurd (Nat.eq_of_beq_eq_true ae) h
   rw[this,if_neg h]
def Acc.below(m:Nat):Acc->Prop
 |.env j=>j<m
 |_=>True
theorem MS{m:Nat}{env:List I}{r:aN}{v:I}{a:Acc}(h:a.below m):cv (m+1) (v::env) r a=cv m env r a:=by
 cases a with
 |env j=>
  simp only[Acc.below] at h
  have:m+1-1-j=(m-1-j)+1:=by omega
  simp only[cv,this,nth]
 |jo p=>rfl
 |val v=>rfl
theorem MT{m:Nat}{env:List I}{r:aN}{v:I}:cv (m+1) (v::env) r (.env m)=v:=by
 simp[cv,nth]
def Bd(m:Nat)(loc:List (Nat×Acc)):Prop:=∀t a,gY t loc=some a->a.below m
theorem tm{m:Nat}{loc:List (Nat×Acc)}(h:Bd m loc)(x:Operand):(bX P need loc x).below m:=by
 cases x with
 |tmp t=>
  simp only[bX]
  cases hf:gY t loc with
  |some a=>exact h t a hf
  |none=>simp only[];cases Nat.testBit need t<;>trivial
 |const v=>trivial
 |global g=>simp only[bX];cases Nat.blt g P.globals.size<;>trivial
 |func f=>trivial
theorem Acc.Fp{m n:Nat}(h:m<=n){a:Acc}(aJ:a.below m):a.below n:=by
 cases a with
 |env j=>exact Nat.lt_of_lt_of_le aJ h
 |jo p=>trivial
 |val v=>trivial
structure hv(P:Program)(need:Nat)(μ:bd)(r:aN)(m:Nat)(env:List I)(loc:List (Nat×Acc))(bF:Array Value):Prop where
 tn:Bd m loc
 rel:∀t,a1 μ (cv m env r (bX P need loc (.tmp t))) (bF.getD t undef)
theorem hv.mono{μ aL:bd}{r:aN}{m:Nat}{env:List I}{loc:List (Nat×Acc)}{bF:Array Value}(hle:dB μ aL)(h:hv P need μ r m env loc bF):hv P need aL r m env loc bF:=⟨h.tn,λt=>(h.rel t).mono hle⟩
theorem hv.eval{μ:bd}{r:aN}{m:Nat}{env:List I}{loc:List (Nat×Acc)}{a:Act}(h:hv P need μ r m env loc a.tmps)(an:fR P μ)(x:Operand):a1 μ (cv m env r (bX P need loc x)) (a.eval x):=by
 cases x with
 |tmp t=>exact h.rel t
 |const v=>exact jq μ v
 |global g=>
  simp only[bX,Act.eval]
  cases ae:Nat.blt g P.globals.size with
  |false=>exact trivial
  |true=>
   obtain⟨i,h1,aa,ao⟩:=an g (by simpa using ae)
   obtain⟨gF,i0,vq⟩:=i
   simp only at aa ao
   subst aa;subst ao
   exact⟨_,h1,rfl⟩
 |func f=>exact⟨[],[],rfl,rfl,rfl⟩
theorem hv.init{μ:bd}{r:aN}{bF:Array Value}(h:hG need μ r bF):hv P need μ r 0 [] [] bF:=
 ⟨λt a h=>by simp[gY] at h,λt=>by
  simp only[bX,gY]
  cases ae:Nat.testBit need t with
  |true=>exact h t ae
  |false=>trivial⟩
theorem vA{bF:Array Value}{d t:Nat}{u:Value}(ak:d<bF.size):(bF.setIfInBounds d u).getD t undef=if t=d then u else bF.getD t undef:=by
 simp only[Array.getD_eq_getD_getElem?,Array.getElem?_setIfInBounds]
 by_cases h:d=t
 · subst h;simp[ak]
 · rw[if_neg h,if_neg (λe=>h e.symm)]
theorem hv.alias{μ:bd}{r:aN}{m:Nat}{env:List I}{loc:List (Nat×Acc)}{a:Act}(h:hv P need μ r m env loc a.tmps)(an:fR P μ){t:Nat}(bk:t<a.tmps.size)(x:Operand):
  hv P need μ r m env ((t,bX P need loc x)::loc) (a.put (some t) (a.eval x)).tmps:=by
 refine⟨λu b hu=>?_,λu=>?_⟩
 · rw[ns] at hu
   split at hu
   · cases hu;exact tm h.tn x
   · exact h.tn u b hu
 · simp only[bX,ns,Act.put]
   rw[vA bk]
   by_cases e:u=t
   · simp only[e,if_true];exact h.eval an x
   · simp only[e,if_false];exact h.rel u
theorem hv.step{μ:bd}{r:aN}{m:Nat}{env:List I}{loc:List (Nat×Acc)}{a:Act}(h:hv P need μ r m env loc a.tmps){o:Oper}(bk:∀t,o.dst=some t->t<a.tmps.size){v:I}{u:Value}(aM:a1 μ v u):
  hv P need μ r (m+1) (v::env) (gl o m loc) (a.put o.dst u).tmps:=by
 have old:∀t,a1 μ (cv (m+1) (v::env) r (bX P need loc (.tmp t))) (a.tmps.getD t undef):=λt=>by
  rw[MS (tm h.tn _)];exact h.rel t
 unfold gl
 cases ak:o.dst with
 |none=>exact⟨λt b ae=>Acc.Fp (Nat.le_succ m) (h.tn t b ae),old⟩
 |some d=>
  refine⟨λt b ae=>?_,λt=>?_⟩
  · rw[ns] at ae
    split at ae
    · cases ae;exact Nat.lt_succ_self m
    · exact Acc.Fp (Nat.le_succ m) (h.tn t b ae)
  · simp only[Act.put]
    rw[vA (bk d ak)]
    by_cases e:t=d
    · simp only[bX,ns,e,if_true,MT];exact aM
    · have:=old t
      simp only[bX,ns,e,if_false] at this⊢
      exact this
theorem Fq{ops:Array Oper}{bF:Array Value}{j t:Nat}(h:(ops[j]?).bind (·.dst)=some t):yielded ops bF j=match bF.getD t undef with
  |.bool b=>some b
  |_=>none:=by
 unfold yielded
 rw[h,Option.bind_some]
 rw[Array.getD_eq_getD_getElem?]
 cases af:bF[t]? with
 |none=>rfl
 |some v=>simp only[Option.getD_some];cases v<;>rfl
theorem Fs{μ:bd}{ops:Array Oper}{loc:List (Nat×Acc)}{o:Oper}{acc:Acc->I}{bF:Array Value}(iE:∀t,a1 μ (acc (bX P need loc (.tmp t))) (bF.getD t undef))(lS:∀v,acc (.val v)=v):
  ∀lP,dr (match hS P need ops loc o with|none=>none|some (a,b)=>some (acc a,b))=some lP->Region.wanted o (yielded ops bF)=lP:=by
 intro lP h
 unfold hS at h
 unfold Region.wanted
 cases an:o.guard with
 |none=>rw[an] at h;simp only[dr] at h;cases h;rfl
 |some p=>
  obtain⟨j,b⟩:=p
  rw[an] at h
  simp only at h⊢
  cases bk:(ops[j]?).bind (·.dst) with
  |none=>rw[bk] at h;simp only[lS,dr] at h;cases h
  |some t=>
   rw[bk] at h
   simp only at h
   have aj:=iE t
   rw[Fq bk]
   generalize acc (bX P need loc (.tmp t))=v at h aj
   unfold dr at h
   split at h
   · rename_i he;cases he
   · rename_i he;cases he;cases h
     have nt:bF.getD t undef=_:=aj
     rw[nt];rfl
   · rename_i he;cases he;cases h
     obtain⟨l,ar,mB⟩:=aj
     cases mB
     rw[ar];rfl
   · cases h
def Be:List Item->Prop
 |.call _ _ _ _::_=>False
 |_=>True
def lT(P:Program)(need br:Nat)(μ:bd)(r:aN)(H:J)(w:World)(b:Frame)(k:List Item)(cs0:List Frame)(m0:Machine)(loc:List (Nat×Acc)):lH->Prop
 |.ok env d' aX aD=>∃aL w' b_ bC,Steps P m0 (lone (b.atR b_ k) bC w')/\hv P need aL r env.length env loc b_.tmps/\b_.tmps.size=br/\bg aL aD w'/\bN μ H w aL aD w'/\eD aL d' b_.defers/\gp aL b.kind cs0 aX bC
 |.bu v d' aX aD=>∃aL w' b_ bC u cO,Steps P m0 (lone {b.atR b_ cO with mode:=.panicking [{v:=u,recovered:=false}]} bC w')/\Be cO/\a1 aL v u/\
   (∀t,gY t loc=none->Nat.testBit need t=true->a1 aL (r.get (fA t)) (b_.tmps.getD t undef))/\b_.tmps.size=br/\bg aL aD w'/\bN μ H w aL aD w'/\eD aL d' b_.defers/\gp aL b.kind cs0 aX bC
 |.fail _=>True
theorem lT.of_steps{br:Nat}{μ dN:bd}{r:aN}{H H1:J}{w b5:World}{b:Frame}{k:List Item}{cs0:List Frame}{m0 m1:Machine}{loc:List (Nat×Acc)}{x:lH}(af:bg μ H w)(gN:bg dN H1 b5)(h:Steps P m0 m1)(aJ:bN μ H w dN H1 b5)
  (h1:lT P need br dN r H1 b5 b k cs0 m1 loc x):lT P need br μ r H w b k cs0 m0 loc x:=by
 cases x with
 |ok env d q aD=>
  obtain⟨aL,w',b_,bC,s1,s2,bz,bT,b0,cC⟩:=h1
  exact⟨aL,w',b_,bC,h.trans s1,s2,bz,bT,bN.trans af gN aJ b0,cC⟩
 |bu v d q aD=>
  obtain⟨aL,w',b_,bC,u,cO,s1,aR,s2,bz,bT,b0,cC,cY⟩:=h1
  exact⟨aL,w',b_,bC,u,cO,h.trans s1,aR,s2,bz,bT,b0,bN.trans af gN aJ cC,cY⟩
 |fail s=>trivial
theorem Bf{ops:Array Oper}:∀(l:List Oper) (loc:List (Nat×Acc)) (m t:Nat),gY t (iJ P need ops l loc m)=none->gY t loc=none
 |[],loc,m,t,h=>h
 |o::rest,loc,m,t,h=>by
  unfold iJ at h
  cases aJ:aliasOf o with
  |some p=>
   obtain⟨u,x⟩:=p
   rw[aJ] at h
   have:=Bf rest _ m t h
   rw[ns] at this
   split at this
   · cases this
   · exact this
  |none=>
   rw[aJ] at h
   have:=Bf rest _ _ t h
   unfold gl at this
   split at this
   · rw[ns] at this
     split at this
     · cases this
     · exact this
   · exact this
theorem Ft{o:Oper}{t:Nat}{x:Operand}(h:aliasOf o=some (t,x)):o.guard=none/\o.dst=some t/\∀ρ,execOp ρ o=pure (.value (ρ x)):=by
 unfold aliasOf at h
 split at h
 · rename_i h1 aa ao;cases h;exact⟨h1,aa,λρ=>by simp[execOp,ao]⟩
 · rename_i h1 aa ao;cases h;exact⟨h1,aa,λρ=>by simp[execOp,ao]⟩
 · cases h
theorem rA(a:Act)(dst:Option Tmp)(u:Value):(a.put dst u).tmps.size=a.tmps.size:=by cases dst<;>simp[Act.put]
theorem yk{call:cR->List I->J->bM}(ab:iY P call){br:Nat}{ops:Array Oper}(hK:∀o∈ops.toList,∀t,o.dst=some t->t<br){b:Frame}{inR:Bool}(dC:inR=b.roundOf.isSome){r:aN}{k:List Item}{cs0:List Frame}:
  ∀(l:List Oper) (i0:Nat) (loc:List (Nat×Acc)) (m:Nat) (env:List I) (d:List bw) (q:az) (μ:bd) (H:J) (w:World) (a:Act) (cs:List Frame),ops.toList.drop i0=l->env.length=m->
   hv P need μ r m env loc a.tmps->a.tmps.size=br->bg μ H w->fR P μ->eD μ d a.defers->gp μ b.kind cs0 q cs->
   lT P need br μ r H w b k cs0 (lone (b.atR a (.inRegion ops (List.range' i0 l.length)::k)) cs w) (iJ P need ops l loc m) (hr P need inR call r (ju P need ops l loc m) env d q H)
 |[],i0,loc,m,env,d,q,μ,H,w,a,cs,ar,hm,k9,bp,af,an,ak,bj=>by
  subst hm
  exact⟨μ,w,a,cs,.one stepR_region_end,k9,bp,af,bN.refl _ _ _,ak,bj⟩
 |o::rest,i0,loc,m,env,d,q,μ,H,w,a,cs,ar,hm,k9,bp,af,an,ak,bj=>by
  have aQ:ops[i0]? =some o:=by
   have:=congrArg List.head? ar
   simpa[List.head?_drop] using this
  have j2:ops.toList.drop (i0+1)=rest:=by
   have:=congrArg List.tail ar
   simpa[List.tail_drop] using this
  have nu:o∈ops.toList:=by
   rw[<-Array.getElem?_toList] at aQ
   exact List.mem_of_getElem? aQ
  have rB:∀t,o.dst=some t->t<a.tmps.size:=λt h=>by rw[bp];exact hK o nu t h
  rw[List.length_cons,List.range'_succ]
  unfold ju iJ
  cases aJ:aliasOf o with
  |some p=>
   obtain⟨t,x⟩:=p
   simp only
   obtain⟨bO,a2,a3⟩:=Ft aJ
   have hw:Region.wanted o (yielded ops a.tmps)=true:=by simp[Region.wanted,bO]
   have bW:=stepGR_op (P:=P) (b:=b) (a:=a) (k:=k) (cs:=cs) (w:=w) (rest:=List.range' (i0+1) rest.length) aQ hw
   have lQ:o.semAt b.roundOf a.eval=execOp a.eval o:=by
    refine Oper.semAt_eq _ _ _ λc e=>?_
    have:=a3 a.eval
    unfold aliasOf at aJ
    rw[e] at aJ
    split at aJ
    · rename_i h;cases h
    · rename_i h;cases h
    · cases aJ
   rw[lQ] at bW
   obtain⟨g1,_⟩:=ry bW
   have ad:=g1 (a.eval x) w (by rw[a3];rfl)
   have hW:(b.atR a (.inRegion ops (i0::List.range' (i0+1) rest.length)::k)).finish (a.eval x)=b.atR (a.put (some t) (a.eval x)) (.inRegion ops (List.range' (i0+1) rest.length)::k):=by
    rw[Frame.finish_atR,aQ]
    simp only[Option.bind_some,a2]
   rw[hW] at ad
   have bc:=yk (k:=k) ab hK dC rest (i0+1) ((t,bX P need loc x)::loc) m env d q μ H w (a.put (some t) (a.eval x)) cs j2 hm (k9.alias an (rB t a2) x) ((rA _ _ _).trans bp) af an (by rw[put_defers];exact ak) bj
   exact bc.of_steps af af ad (bN.refl _ _ _)
  |none=>
   simp only[hr]
   have eW:=Fl (P:=P) ab af an (b:=b) (a:=a) (ops:=ops) (i:=i0) (rest:=List.range' (i0+1) rest.length) (k:=k) (cs0:=cs0) (cs:=cs) aQ (gd:=match hS P need ops loc o with|none=>none|some (x,c)=>some (cv m env r x,c))
    (Fs (acc:=cv m env r) k9.rel (λv=>rfl)) (g:=λx=>cv m env r (bX P need loc x)) (λx=>k9.eval an x) ak bj dC
   generalize dk P inR call (match hS P need ops loc o with|none=>none|some (x,c)=>some (cv m env r x,c)) o (λx=>cv m env r (bX P need loc x)) d q H=res at eW⊢
   cases res with
   |ok v d' aX aD=>
    obtain⟨aL,w',u,iZ,bC,s1,s2,bz,bT,b0,cC⟩:=eW
    have vB:=(k9.mono bT.le).step (a:=a) (o:=o) rB s2
    have bc:=yk (k:=k) ab hK dC rest (i0+1) (gl o m loc) (m+1) (v::env) d' aX aL aD w' {tmps:=(a.put o.dst u).tmps,defers:=iZ} bC j2 (by simp[hm]) vB ((rA _ _ _).trans bp) bz (an.mono bT.le) b0 cC
    exact bc.of_steps af bz s1 bT
   |bu v d' aX aD=>
    obtain⟨aL,w',u,s1,s2,bz,bT,b0,cC⟩:=eW
    refine⟨aL,w',a,cs,u,_,s1,trivial,s2,λt bk aC=>?_,bp,bz,bT,b0,cC⟩
    have aA:=Bf (P:=P) (need:=need) (ops:=ops) rest _ _ t bk
    have h1:gY t loc=none:=by
     unfold gl at aA
     split at aA
     · rw[ns] at aA
       split at aA
       · cases aA
       · exact aA
     · exact aA
    have:=(k9.mono bT.le).rel t
    simp only[bX,h1,aC,cv] at this
    exact this
   |fail s=>trivial
end
end aS
namespace aS
open Go
section
variable {P:Program} {need:Nat}
theorem Fu(need m:Nat)(env:List I)(gB:aN):∀(loc:List (Nat×Acc)) (r:aN) (t:Nat),Nat.testBit need t=true->
  (mX need m env gB loc r).get (fA t)=match gY t loc with|some a=>cv m env gB a|none=>r.get (fA t)
 |[],r,t,bk=>rfl
 |(u,a)::l,r,t,bk=>by
  rw[ns]
  simp only[mX]
  by_cases e:t=u
  · subst e
    simp only[bk,if_true,aN.cL]
  · have bc:=Fu need m env gB l r t bk
    cases hu:Nat.testBit need u with
    |true=>simp only[aN.cL,if_neg e,bc]
    |false=>simp only[if_neg e,bc]
theorem Fv:∀(loc:List (Nat×Acc)) (r:aN) (t:Nat),(s9 loc r).get (fA t)=match gY t loc with|some a=>.bad|none=>r.get (fA t)
 |[],r,t=>rfl
 |(u,a)::l,r,t=>by
  rw[ns]
  simp only[s9,aN.cL]
  by_cases e:t=u
  · simp only[e,if_true]
  · simp only[if_neg e,Fv l r t]
theorem hv.outs{μ:bd}{r:aN}{m:Nat}{env:List I}{loc:List (Nat×Acc)}{bF:Array Value}(h:hv P need μ r m env loc bF):hG need μ (mX need m env r loc r) bF:=by
 intro t bk
 rw[Fu need m env r loc r t bk]
 have:=h.rel t
 simp only[bX,bk] at this
 cases hf:gY t loc with
 |some a=>rw[hf] at this;exact this
 |none=>rw[hf] at this;exact this
theorem rC{e:aU}{r:aN}{d:List bw}{q:az}{h:J}{f:aN->List bw->az->J->iA}(he:e≠ .nrm):oN (.ok e r d q h) f=.ok e r d q h:=by
 cases e<;>first|rfl|exact absurd rfl he
def qd(P:Program)(μ:bd)(m0:Machine)(b:Frame)(k:List Item)(cs:List Frame)(a:Act)(w:World):aU->Prop
 |.nrm=>Steps P m0 (lone (b.atR a k) cs w)
 |.exit id=>∃cO,exitTo id cO=exitTo id k/\Steps P m0 (lone (b.atR a (.code (.exit id)::cO)) cs w)
 |.ret=>∃cO,Steps P m0 (lone (b.atR a (.code .ret::cO)) cs w)
 |.goto _=>False
 |.bu v=>∃cO u,(a1 μ v u/\Be cO)/\Steps P m0 (lone {b.atR a cO with mode:=.panicking [{v:=u,recovered:=false}]} cs w)
theorem qd.of_steps{μ:bd}{m0 m1:Machine}{b:Frame}{k:List Item}{cs:List Frame}{a:Act}{w:World}{e:aU}(h:Steps P m0 m1)(ah:qd P μ m1 b k cs a w e):qd P μ m0 b k cs a w e:=by
 cases e with
 |nrm=>exact h.trans ah
 |exit id=>obtain⟨cO,h1,aa⟩:=ah;exact⟨cO,h1,h.trans aa⟩
 |ret=>obtain⟨cO,aa⟩:=ah;exact⟨cO,h.trans aa⟩
 |goto l=>exact ah
 |bu v=>obtain⟨cO,u,h1,aa⟩:=ah;exact⟨cO,u,h1,h.trans aa⟩
theorem qd.pass{μ:bd}{m0:Machine}{b:Frame}{x:Item}{k:List Item}{cs:List Frame}{a:Act}{w:World}{e:aU}(U:∀id,x≠ .inBlock id)(he:e≠ .nrm)(h:qd P μ m0 b (x::k) cs a w e):qd P μ m0 b k cs a w e:=by
 cases e with
 |nrm=>exact absurd rfl he
 |exit id=>
  obtain⟨cO,h1,aa⟩:=h
  refine⟨cO,h1.trans ?_,aa⟩
  cases x<;>first|rfl|exact absurd rfl (U _)
 |ret=>exact h
 |goto l=>exact h
 |bu v=>exact h
def jK(P:Program)(need br:Nat)(μ:bd)(H:J)(w:World)(b:Frame)(k:List Item)(cs0:List Frame)(m0:Machine):iA->Prop
 |.ok e r' d' aX aD=>∃aL w' b_ bC,qd P aL m0 b k bC b_ w' e/\hG need aL r' b_.tmps/\b_.tmps.size=br/\bg aL aD w'/\bN μ H w aL aD w'/\eD aL d' b_.defers/\gp aL b.kind cs0 aX bC
 |.fail _=>True
theorem jK.of_steps{br:Nat}{μ dN:bd}{H H1:J}{w b5:World}{b:Frame}{k:List Item}{cs0:List Frame}{m0 m1:Machine}{x:iA}(af:bg μ H w)(gN:bg dN H1 b5)(h:Steps P m0 m1)(aJ:bN μ H w dN H1 b5)
  (h1:jK P need br dN H1 b5 b k cs0 m1 x):jK P need br μ H w b k cs0 m0 x:=by
 cases x with
 |ok e r d q aD=>
  obtain⟨aL,w',b_,bC,s1,s2,bz,bT,b0,cC⟩:=h1
  exact⟨aL,w',b_,bC,s1.of_steps h,s2,bz,bT,bN.trans af gN aJ b0,cC⟩
 |fail s=>trivial
def lU(μ:bd)(b:Frame):Option Nat->Prop
 |none=>b.roundOf=none
 |some l=>∃i,μ l=some i/\b.roundOf=some i.a6
theorem lU.mono{μ aL:bd}(hle:dB μ aL){b:Frame}{rd:Option Nat}(h:lU μ b rd):lU aL b rd:=by
 cases rd with
 |none=>exact h
 |some l=>obtain⟨i,h1,aa⟩:=h;exact⟨i,hle _ _ h1,aa⟩
theorem lU.isSome{μ:bd}{b:Frame}{rd:Option Nat}(h:lU μ b rd):rd.isSome=b.roundOf.isSome:=by
 cases rd with
 |none=>have:b.roundOf=none:=h;simp[this]
 |some l=>obtain⟨i,h1,aa⟩:=h;simp[aa]
def j5(P:Program)(need br:Nat)(call:cR->List I->J->bM):Prop:=
 ∀(ops:Array Oper) (id:Nat),(∀o∈ops.toList,∀t,o.dst=some t->t<br)->oP ops (ed ops.toList 0 [] [])=true->
  ∀(b:Frame) (inR:Bool) (r:aN) (d:List bw) (q:az) (H:J) (μ:bd) (w:World) (a:Act) (k:List Item) (cs0 cs:List Frame),inR=b.roundOf.isSome->hG need μ r a.tmps->a.tmps.size=br->bg μ H w->fR P μ->eD μ d a.defers->gp μ b.kind cs0 q cs->
   lT P need br μ r H w b k cs0 (lone (b.atR a (.code (.region id ops true)::k)) cs w) (hT ops.toList 0 []) (q5 P need inR call ops r d q H)
def Fw(P:Program)(need br:Nat)(call:cR->List I->J->bM):Prop:=
 ∀(f:Operand) (ps:Array Nat) (as b2:Code),fQ br (.rangeFunc f ps as b2)=true->∀(b:Frame) (rd:Option Nat) (r:aN) (d:List bw) (q:az) (H:J) (μ:bd) (w:World) (a:Act) (k:List Item) (cs0 cs:List Frame),lU μ b rd->hG need μ r a.tmps->a.tmps.size=br->bg μ H w->fR P μ->eD μ d a.defers->gp μ b.kind cs0 q cs->
  jK P need br μ H w b k cs0 (lone (b.atR a (.code (.rangeFunc f ps as b2)::k)) cs w) (cX P need rd call (.rangeFunc f ps as b2) r d q H)
theorem MU{b:Frame}{a:Act}{c:Code}{k:List Item}{cs:List Frame}{w:World}:step P (lone (b.atR a (.inScope c::k)) cs w)=.next (lone (b.atR a k) cs w):=
 step_lone_go (by simp[stepG,stepG.exec,Frame.atR])
theorem Fx{b:Frame}{a:Act}{c:Code}{k:List Item}{cs:List Frame}{w:World}:step P (lone (b.atR a (.code (.scope c)::k)) cs w)=.next (lone (b.atR a (.code c::.inScope c::k)) cs w):=
 step_lone_go (by simp[stepG,stepG.exec,Frame.atR])
theorem lT.code{br:Nat}{μ:bd}{r:aN}{H:J}{w:World}{b:Frame}{k:List Item}{cs0:List Frame}{m0:Machine}{loc:List (Nat×Acc)}{x:lH}(h:lT P need br μ r H w b k cs0 m0 loc x):
  jK P need br μ H w b k cs0 m0 (lJ need r loc x):=by
 cases x with
 |ok env d q aD=>
  obtain⟨aL,w',b_,bC,s1,s2,bz,bT,b0,cC⟩:=h
  exact⟨aL,w',b_,bC,s1,s2.outs,bz,bT,b0,cC⟩
 |bu v d q aD=>
  obtain⟨aL,w',b_,bC,u,cO,s1,aR,s2,bz,bT,b0,cC,cY⟩:=h
  refine⟨aL,w',b_,bC,⟨cO,u,⟨s2,aR⟩,s1⟩,λt bk=>?_,bT,b0,cC,cY⟩
  rw[Fv]
  cases hf:gY t loc with
  |some x=>trivial
  |none=>exact bz t hf bk
 |fail s=>trivial
def Fy(P:Program)(need br:Nat)(call:cR->List I->J->bM)(rd:Option Nat)(c:Code):Prop:=
 ∀(b:Frame) (r:aN) (d:List bw) (q:az) (H:J) (μ:bd) (w:World) (a:Act) (k:List Item) (cs0 cs:List Frame),lU μ b rd->hG need μ r a.tmps->a.tmps.size=br->bg μ H w->fR P μ->eD μ d a.defers->gp μ b.kind cs0 q cs->
  jK P need br μ H w b k cs0 (lone (b.atR a (.code c::k)) cs w) (cX P need rd call c r d q H)
theorem Fz{br:Nat}{call:cR->List I->J->bM}{rd:Option Nat}{c:Code}(gf:Fy P need br call rd c)(b:Frame)(k:List Item)(cs0:List Frame):∀(n:Nat) (r:aN) (d:List bw) (q:az) (H:J) (μ:bd) (w:World) (a:Act) (cs:List Frame),lU μ b rd->hG need μ r a.tmps->a.tmps.size=br->bg μ H w->fR P μ->eD μ d a.defers->gp μ b.kind cs0 q cs->
  jK P need br μ H w b k cs0 (lone (b.atR a (.code c::.inLoop c::k)) cs w) (nX (cX P need rd call c) n r d q H)
 |0,r,d,q,H,μ,w,a,cs,b1,aj,bp,af,an,ak,bj=>trivial
 |n+1,r,d,q,H,μ,w,a,cs,b1,aj,bp,af,an,ak,bj=>by
  have h1:=gf b r d q H μ w a (.inLoop c::k) cs0 cs b1 aj bp af an ak bj
  unfold nX
  cases U:cX P need rd call c r d q H with
  |fail s=>trivial
  |ok e r' d' aX aD=>
   rw[U] at h1
   obtain⟨aL,w',b_,bC,s1,s2,bz,bT,b0,cC,cY⟩:=h1
   by_cases he:e=.nrm
   · subst he
     have bc:=Fz gf b k cs0 n r' d' aX aD aL w' b_ bC (b1.mono b0.le) s2 bz bT (an.mono b0.le) cC cY
     exact bc.of_steps af bT (Steps.trans s1 (.one stepR_inLoop)) b0
   · rw[rC he]
     exact⟨aL,w',b_,bC,s1.pass (λid h=>by cases h) he,s2,bz,bT,b0,cC,cY⟩
theorem nv{br:Nat}{call:cR->List I->J->bM}(ab:iY P call)(hdr:j5 P need br call)(iF:Fw P need br call)(rd:Option Nat):∀(c:Code),fQ br c=true->Fy P need br call rd c
 |.skip,_=>λb r d q H μ w a k cs0 cs b1 aj bp af an ak bj=>⟨μ,w,a,cs,.one stepR_skip,aj,bp,af,bN.refl _ _ _,ak,bj⟩
 |.label l,_=>λb r d q H μ w a k cs0 cs b1 aj bp af an ak bj=>⟨μ,w,a,cs,.one stepR_label,aj,bp,af,bN.refl _ _ _,ak,bj⟩
 |.exit id,_=>λb r d q H μ w a k cs0 cs b1 aj bp af an ak bj=>⟨μ,w,a,cs,⟨k,rfl,Steps.refl _ _⟩,aj,bp,af,bN.refl _ _ _,ak,bj⟩
 |.ret,_=>λb r d q H μ w a k cs0 cs b1 aj bp af an ak bj=>⟨μ,w,a,cs,⟨k,Steps.refl _ _⟩,aj,bp,af,bN.refl _ _ _,ak,bj⟩
 |.goto l,_=>λb r d q H μ w a k cs0 cs b1 aj bp af an ak bj=>trivial
 |.refuse s,_=>λb r d q H μ w a k cs0 cs b1 aj bp af an ak bj=>trivial
 |.region id ops draw,cP=>λb r d q H μ w a k cs0 cs b1 aj bp af an ak bj=>by
  simp only[fQ,Bool.and_eq_true,List.all_eq_true] at cP
  have hK:∀o∈ops.toList,∀t,o.dst=some t->t<br:=λo aQ t bk=>by
   have:=cP.1 o aQ
   rw[bk] at this
   simpa using this
  cases draw with
  |false=>
   have h:=yk (P:=P) (need:=need) (k:=k) ab hK (b:=b) (inR:=rd.isSome) b1.isSome (r:=r) (cs0:=cs0) ops.toList 0 [] 0 [] d q μ H w a cs rfl rfl (hv.init aj) bp af an ak bj
   have ar:List.range' 0 ops.toList.length=List.range ops.size:=by rw[List.range_eq_range'];simp
   rw[ar] at h
   have aa:=lT.code h
   have mn:kX P need ops=⟨ju P need ops ops.toList [] 0,iJ P need ops ops.toList [] 0⟩:=by
    unfold kX;rw[yj];simp
   simp only[cX,mn]
   exact jK.of_steps af af (.one stepR_region) (bN.refl _ _ _) aa
  |true=>
   have tp:oP ops (ed ops.toList 0 [] [])=true:=by simpa using cP.2
   have h:=hdr ops id hK tp b rd.isSome r d q H μ w a k cs0 cs b1.isSome aj bp af an ak bj
   simp only[cX]
   exact lT.code h
 |.seq x y,cP=>λb r d q H μ w a k cs0 cs b1 aj bp af an ak bj=>by
  simp only[fQ,Bool.and_eq_true] at cP
  have h1:=nv ab hdr iF rd x cP.1 b r d q H μ w a (.code y::k) cs0 cs b1 aj bp af an ak bj
  simp only[cX]
  cases U:cX P need rd call x r d q H with
  |fail s=>trivial
  |ok e r' d' aX aD=>
   rw[U] at h1
   obtain⟨aL,w',b_,bC,s1,s2,bz,bT,b0,cC,cY⟩:=h1
   by_cases he:e=.nrm
   · subst he
     have aa:=nv ab hdr iF rd y cP.2 b r' d' aX aD aL w' b_ k cs0 bC (b1.mono b0.le) s2 bz bT (an.mono b0.le) cC cY
     exact aa.of_steps af bT (Steps.head stepR_seq s1) b0
   · rw[rC he]
     exact⟨aL,w',b_,bC,(s1.pass (λid h=>by cases h) he).of_steps (.one stepR_seq),s2,bz,bT,b0,cC,cY⟩
 |.cond c x y,cP=>λb r d q H μ w a k cs0 cs b1 aj bp af an ak bj=>by
  simp only[fQ,Bool.and_eq_true] at cP
  simp only[cX]
  have dK:=(hv.init (P:=P) aj).eval (a:=a) an c
  split
  · rename_i k1
    rw[k1] at dK
    have h:=nv ab hdr iF rd x cP.1 b r d q H μ w a k cs0 cs b1 aj bp af an ak bj
    exact h.of_steps af af (.one (stepR_cond (t:=true) dK)) (bN.refl _ _ _)
  · rename_i k1
    rw[k1] at dK
    have h:=nv ab hdr iF rd y cP.2 b r d q H μ w a k cs0 cs b1 aj bp af an ak bj
    exact h.of_steps af af (.one (stepR_cond (t:=false) dK)) (bN.refl _ _ _)
  · trivial
 |.block id c,cP=>λb r d q H μ w a k cs0 cs b1 aj bp af an ak bj=>by
  have h1:=nv ab hdr iF rd c cP b r d q H μ w a (.inBlock id::k) cs0 cs b1 aj bp af an ak bj
  simp only[cX]
  cases U:cX P need rd call c r d q H with
  |fail s=>trivial
  |ok e r' d' aX aD=>
   rw[U] at h1
   obtain⟨aL,w',b_,bC,s1,s2,bz,bT,b0,cC,cY⟩:=h1
   cases e with
   |nrm=>exact⟨aL,w',b_,bC,Steps.head stepR_block (Steps.trans s1 (.one stepR_inBlock)),s2,bz,bT,b0,cC,cY⟩
   |exit i=>
    obtain⟨cO,av,au⟩:=s1
    by_cases oZ:i=id
    · simp only[oZ,if_true]
      subst oZ
      have bm:exitTo i cO=some k:=by rw[av];simp[exitTo]
      exact⟨aL,w',b_,bC,Steps.head stepR_block (Steps.trans au (.one (stepR_exit bm))),s2,bz,bT,b0,cC,cY⟩
    · simp only[if_neg oZ]
      have:(id==i)=false:=by simp;exactλh=>oZ h.symm
      exact⟨aL,w',b_,bC,⟨cO,av.trans (by simp[exitTo,this]),Steps.head stepR_block au⟩,s2,bz,bT,b0,cC,cY⟩
   |ret=>obtain⟨cO,au⟩:=s1;exact⟨aL,w',b_,bC,⟨cO,Steps.head stepR_block au⟩,s2,bz,bT,b0,cC,cY⟩
   |goto l=>exact s1.elim
   |bu v=>obtain⟨cO,u,av,au⟩:=s1;exact⟨aL,w',b_,bC,⟨cO,u,av,Steps.head stepR_block au⟩,s2,bz,bT,b0,cC,cY⟩
 |.loop c,cP=>λb r d q H μ w a k cs0 cs b1 aj bp af an ak bj=>by
  have h:=Fz (nv ab hdr iF rd c cP) b k cs0 100000 r d q H μ w a cs b1 aj bp af an ak bj
  simp only[cX]
  exact h.of_steps af af (.one stepR_loop) (bN.refl _ _ _)
 |.scope c,cP=>λb r d q H μ w a k cs0 cs b1 aj bp af an ak bj=>by
  have h1:=nv ab hdr iF rd c cP b r d q H μ w a (.inScope c::k) cs0 cs b1 aj bp af an ak bj
  simp only[cX]
  cases U:cX P need rd call c r d q H with
  |fail s=>trivial
  |ok e r' d' aX aD=>
   rw[U] at h1
   obtain⟨aL,w',b_,bC,s1,s2,bz,bT,b0,cC,cY⟩:=h1
   by_cases he:e=.nrm
   · subst he
     exact⟨aL,w',b_,bC,Steps.head Fx (Steps.trans s1 (.one MU)),s2,bz,bT,b0,cC,cY⟩
   · exact⟨aL,w',b_,bC,(s1.pass (λid h=>by cases h) he).of_steps (.one Fx),s2,bz,bT,b0,cC,cY⟩
 |.rangeFunc f ps as b2,cP=>λb r d q H μ w a k cs0 cs b1 aj bp af an ak bj=>iF f ps as b2 cP b rd r d q H μ w a k cs0 cs b1 aj bp af an ak bj
end
end aS
namespace aS
open Go
section
variable {P:Program} {need:Nat}
theorem FA{w i_:World}{cs:List Frame}{b:Frame}{a:Act}{l:Nat}{k:List Item}{s:Sem Next}{yl:Frame}
  (bW:(stepG P true {frame:=yl,callers:=cs,status:=.running,dying:=none} i_).bare=(stepG.apply P true (b.atR a (.inRangeFunc l::k)) cs none s w).bare):
  (∀v w',s.run P w=.ok (.value v) w'->Steps P (lone yl cs i_) (lone ((b.atR a (.inRangeFunc l::k)).finish v) cs w'))/\
  (∀f args w',s.run P w=.ok (.enter f args) w'->Steps P (lone yl cs i_) (lone (Frame.enter P f args .normal) (b.atR a (.inRangeFunc l::k)::cs) w'))/\
  (∀eG f tmps assign body w',s.run P w=.ok (.round eG f tmps assign body) w'->Steps P (lone yl cs i_) (lone (Frame.round eG f tmps assign body .normal) (b.atR a (.inRangeFunc l::k)::cs) w')):=by
 refine⟨λv w' aj=>.one (step_lone_go ?_),λf args w' aj=>.one (step_lone_go ?_),λl f tmps assign body w' aj=>.one (step_lone_go ?_)⟩
 · rw[bW];simp[stepG.apply,aj]
 · rw[bW];simp[stepG.apply,aj,Frame.atR]
 · rw[bW];simp[stepG.apply,aj]
theorem FB{b:Frame}{a:Act}{f:Operand}{ps:Array Nat}{as b2:Code}{k:List Item}{cs:List Frame}{w b5:World}{l:Nat}{mark:List Deferred}(he:(Instr.enterLoop b.fn a.tmps ps as b2 b.roundOf).run P w=.ok (l,mark) b5):
  (stepG P true {frame:=b.atR a (.code (.rangeFunc f ps as b2)::k),callers:=cs,status:=.running,dying:=none} w).bare=
   (stepG.apply P true (b.atR {tmps:=a.tmps,defers:=mark++a.defers} (.inRangeFunc l::k)) cs none (do let d<-Deferred.ofValue (a.eval f) #[.func (.yield l) #[] #[]];invoke d.target d.args) b5).bare:=by
 have ym:=Frame.eval_atR b {tmps:=a.tmps,defers:=mark++a.defers} (.inRangeFunc l::k)
 simp only[Frame.atR] at ym
 have MV:({tmps:=a.tmps,defers:=mark++a.defers}:Act).eval=a.eval:=funext λx=>by cases x<;>rfl
 simp only[stepG,stepG.exec,Frame.atR,Sem.runT_eq,he,GStep.bare_after]
 have MW:resolve a.eval {callee:=.value f,args:=#[.const (.func (.yield l) #[] #[])],argTypes:=#[]} 0=Deferred.ofValue (a.eval f) #[.func (.yield l) #[] #[]]:=by simp[resolve,Act.eval]
 rw[ym,MV,MW]
theorem FC{b:Frame}{a:Act}{l:Nat}{k:List Item}{cs:List Frame}{w w':World}{jump:Option Code}(he:(Instr.endLoop l).run P w=.ok jump w'):
  step P (lone (b.atR a (.endRangeFunc l::k)) cs w)=.next (lone (b.atR a ((jump.map Item.code).toList++k)) cs w'):=
 step_lone_go (by simp[stepG,stepG.exec,Frame.atR,Sem.runT_eq,he])
theorem FD{br:Nat}{b:Frame}{a:Act}{r:aN}{ps:Array Nat}{as b2:Code}(cP:fQ br as=true/\fQ br b2=true/\∀t∈ps.toList,t<br){μ:bd}{H:J}{w:World}{rd:Option Nat}(b1:lU μ b rd)(aj:hG need μ r a.tmps)(bp:a.tmps.size=br)(af:bg μ H w)
  {d:List bw}(ak:eD μ d a.defers){l:Nat}{d':List bw}{H1:J}
  (ar:l=mY rd H.n)(he:uY need rd r ps.toList as b2 d H=some (d',H1)):
  ∃aL w' mark i,(Instr.enterLoop b.fn a.tmps ps as b2 b.roundOf).run P w=.ok (i.a6,mark) w'/\aL l=some i/\bg aL H1 w'/\bN μ H w aL H1 w'/\eD aL d' (mark++a.defers):=by
 subst bp
 unfold mY at ar
 unfold uY at he
 cases rd with
 |none=>
  have ae:b.roundOf=none:=b1
  cases he
  obtain⟨ba,bH⟩:=af.alloc (.defrd (some [])) (.deferred (some [])) 0 ⟨[],World.heap_alloc_new _ _,rfl⟩
  have hu:fC μ H.n ⟨w.heap.size,0,0⟩ H.n=some ⟨w.heap.size,0,0⟩:=fD _ _ _
  have yn:=ba.ng ⟨(w.alloc (.deferred (some []))).heap.size,0,0⟩
  obtain⟨aT,bb⟩:=ba.alloc (.loop .ready none need r ps.toList as b2 H.n) (.loop {state:=.ready,pending:=none,fn:=b.fn,tmps:=a.tmps,params:=ps,assign:=as,body:=b2,defers:=w.heap.size}) 0
   ⟨a.tmps,⟨w.heap.size,0,0⟩,b.fn,yn _ _ hu,World.heap_alloc_new _ _,aj.mono (bH.le.trans yn),cP.1,cP.2.1,cP.2.2⟩
  refine⟨_,_,[{target:=.collected w.heap.size,args:=#[]}],⟨(w.alloc (.deferred (some []))).heap.size,0,0⟩,?_,?_,aT,bN.trans af ba bH bb,⟨_,_,rfl,.collected _ ⟨w.heap.size,0,0⟩ (yn _ _ hu),ak.mono (bH.le.trans yn)⟩⟩
  · rw[ae]
    simp only[Instr.enterLoop,Sem.run_bind,run_newObj,Result.andThen_ok,Sem.run_pure]
    rfl
  · rw[ar];exact fD _ _ _
 |some iV=>
  obtain⟨j,aG,ae⟩:=b1
  simp only at ar he
  subst ar
  cases an:H.get iV with
  |none=>rw[an] at he;cases he
  |some Bg=>
  rw[an] at he
  cases Bg<;>try (cases he;done)
  case loop n5 FE Xi Xj FF FG FH cK=>
   cases he
   obtain⟨bF,gb,fn,av,au,_⟩:=af.rel _ _ j an aG
   have hle:=af.ng ⟨w.heap.size,0,0⟩
   obtain⟨aT,bb⟩:=af.alloc (.loop .ready none need r ps.toList as b2 cK) (.loop {state:=.ready,pending:=none,fn:=b.fn,tmps:=a.tmps,params:=ps,assign:=as,body:=b2,defers:=gb.a6}) 0
    ⟨a.tmps,gb,b.fn,hle _ _ av,World.heap_alloc_new _ _,aj.mono hle,cP.1,cP.2.1,cP.2.2⟩
   refine⟨_,_,[],⟨w.heap.size,0,0⟩,?_,?_,aT,bb,ak.mono hle⟩
   · rw[ae]
     have mA:(Instr.getLoop j.a6).run P w=.ok {state:=n5,pending:=FE,fn:=fn,tmps:=bF,params:=⟨FF⟩,assign:=FG,body:=FH,defers:=gb.a6} w:=by
      have:(getObj j.a6).run P w=.ok (.loop {state:=n5,pending:=FE,fn:=fn,tmps:=bF,params:=⟨FF⟩,assign:=FG,body:=FH,defers:=gb.a6}) w:=by simp[getObj,Sem.run,au]
      simp only[Instr.getLoop,Sem.run_bind,this];rfl
     simp only[Instr.enterLoop,Sem.run_bind,mA,Result.andThen_ok,Sem.run_pure,run_newObj]
     rfl
   · exact fD _ _ _
theorem FI{μ:bd}{H:J}{w:World}(af:bg μ H w){l:Nat}{i:fW}(ar:μ l=some i){st:LoopState}{e4:Option Code}{dG:Nat}{rg:aN}{ps:List Nat}{as b2:Code}{cK:Nat}(an:H.get l=some (.loop st e4 dG rg ps as b2 cK))(bW:st≠ .busy):
  ∃w',(Instr.endLoop i.a6).run P w=.ok e4 w'/\bg μ (H.set l (some (.loop .exhausted e4 dG rg ps as b2 cK))) w'/\bN μ H w μ (H.set l (some (.loop .exhausted e4 dG rg ps as b2 cK))) w':=by
 obtain⟨bF,gb,fn,av,au,bm⟩:=af.rel _ _ i an ar
 have bx:=(af.lt _ _ ar).2
 obtain⟨ba,bH⟩:=af.update (w':={w with heap:=w.heap.setIfInBounds i.a6 (.loop {state:=.exhausted,pending:=e4,fn:=fn,tmps:=bF,params:=⟨ps⟩,assign:=as,body:=b2,defers:=gb.a6})}) (o':=.loop .exhausted e4 dG rg ps as b2 cK) an rfl ar (by simp) (λr aj=>by simp[Array.getElem?_setIfInBounds];intro e;exact absurd e.symm aj) rfl rfl rfl
  ⟨bF,gb,fn,av,by simp[bx],bm⟩
 refine⟨_,?_,ba,bH⟩
 have hJ:(getObj i.a6).run P w=.ok (.loop {state:=st,pending:=e4,fn:=fn,tmps:=bF,params:=⟨ps⟩,assign:=as,body:=b2,defers:=gb.a6}) w:=by simp[getObj,Sem.run,au]
 have e5:(setObj i.a6 (.loop {state:=.exhausted,pending:=e4,fn:=fn,tmps:=bF,params:=⟨ps⟩,assign:=as,body:=b2,defers:=gb.a6})).run P w=.ok () {w with heap:=w.heap.setIfInBounds i.a6 (.loop {state:=.exhausted,pending:=e4,fn:=fn,tmps:=bF,params:=⟨ps⟩,assign:=as,body:=b2,defers:=gb.a6})}:=by simp[setObj,Sem.run,au]
 have ae:(st==LoopState.busy)=false:=by cases st<;>first|rfl|exact absurd rfl bW
 simp only[Instr.endLoop,Instr.getLoop,Sem.run_bind,hJ,Result.andThen_ok,Sem.run_pure,ae,Bool.false_eq_true,if_false,e5]
theorem yo{br:Nat}{call:cR->List I->J->bM}(ab:iY P call):Fw P need br call:=by
 intro f ps as b2 cP b rd r d q H μ w a k cs0 cs b1 aj bp af an ak bj
 simp only[fQ,Bool.and_eq_true,List.all_eq_true] at cP
 have rD:∀t∈ps.toList,t<br:=λt bk=>by simpa using cP.1.1 t bk
 have dK:=(hv.init (P:=P) aj).eval (a:=a) an f
 simp only[cX]
 cases bW:uY need rd r ps.toList as b2 d H with
 |none=>trivial
 |some p=>
  obtain⟨d',H1⟩:=p
  simp only
  obtain⟨dN,b5,mark,i,h1,aa,ao,aI,bl⟩:=FD (P:=P) (b:=b) (a:=a) (ps:=ps) ⟨cP.1.2,cP.2,rD⟩ b1 aj bp af ak rfl bW
  have Bh:=dK.mono aI.le
  have tq:=FB (P:=P) (f:=f) (k:=k) (cs:=cs) h1
  obtain⟨g1,g2,g3⟩:=FA tq
  have k1:=A8 (P:=P) (w:=b5) ao Bh (args:=[.b7 (mY rd H.n)]) (vs:=[.func (.yield i.a6) #[] #[]]) ⟨_,_,rfl,⟨i,aa,rfl⟩,rfl⟩
  have fin:∀(res:bM),oY P (lone (b.atR a (.code (.rangeFunc f ps as b2)::k)) cs w) (b.atR {tmps:=a.tmps,defers:=mark++a.defers} (.inRangeFunc i.a6::k)) cs (Ends dN H1 b5 res)->
    jK P need br μ H w b k cs0 (lone (b.atR a (.code (.rangeFunc f ps as b2)::k)) cs w) (mZ (mY rd H.n) r d' q res):=by
   intro res ar
   obtain⟨e,j6,dc,fr⟩:=ar
   cases res with
   |fail s=>trivial
   |bu v dn=>
    obtain⟨aL,u,rfl,aT,bb,bP⟩:=dc
    exact⟨aL,j6,{tmps:=a.tmps,defers:=mark++a.defers},cs,⟨.inRangeFunc i.a6::k,u,⟨aT,trivial⟩,fr⟩,aj.mono (aI.le.trans bP.le),bp,bb,bN.trans af ao aI bP,bl.mono bP.le,bj.mono (aI.le.trans bP.le)⟩
   |ret v dn=>
    obtain⟨aL,u,rfl,aT,bb,bP⟩:=dc
    have hW:(b.atR {tmps:=a.tmps,defers:=mark++a.defers} (.inRangeFunc i.a6::k)).finish u=b.atR {tmps:=a.tmps,defers:=mark++a.defers} (.endRangeFunc i.a6::k):=rfl
    simp only[hW] at fr
    unfold mZ
    simp only
    cases qe:dn.get (mY rd H.n) with
    |none=>trivial
    |some Bg=>
     cases Bg<;>try trivial
     case loop st e4 dG rg vC pJ pK cK=>
      simp only
      by_cases ae:st=.busy
      · subst ae;trivial
      · obtain⟨hX,av,au,bm⟩:=FI (P:=P) bb (bP.le _ _ aa) qe ae
        have hx:=Steps.trans fr (.one (FC (b:=b) (a:={tmps:=a.tmps,defers:=mark++a.defers}) (k:=k) (cs:=cs) av))
        have hle:=aI.le.trans (bP.le.trans bm.le)
        have ja:=bN.trans af bb (bN.trans af ao aI bP) bm
        have done:∀(e:aU),qd P aL (lone (b.atR a (.code (.rangeFunc f ps as b2)::k)) cs w) b k cs {tmps:=a.tmps,defers:=mark++a.defers} hX e->
          jK P need br μ H w b k cs0 (lone (b.atR a (.code (.rangeFunc f ps as b2)::k)) cs w) (.ok e r d' q (dn.set (mY rd H.n) (some (.loop .exhausted e4 dG rg vC pJ pK cK)))):=λe he=>
         ⟨aL,hX,{tmps:=a.tmps,defers:=mark++a.defers},cs,he,aj.mono hle,bp,au,ja,bl.mono (bP.le.trans bm.le),bj.mono hle⟩
        have Xk:∀X:iA,(match st with|.busy=>iA.fail "" |_=>X)=X:=λX=>by cases st<;>first|rfl|exact absurd rfl ae
        cases st<;>first
         |exact absurd rfl ae
         |(cases e4 with
          |none=>exact done .nrm hx
          |some c=>
           cases c<;>first
            |trivial
            |exact done .ret ⟨k,hx⟩
            |exact done (.exit _) ⟨k,rfl,hx⟩)
  cases FJ:q4 (cv 0 [] r (bX P need [] f)) [.b7 (mY rd H.n)] H1 with
  |call g args cy=>
   rw[FJ] at k1
   obtain⟨rfl,vs,av,au⟩:=k1
   simp only
   cases bR:(call (.fn g) args cy).kz with
   |false=>obtain⟨s,ad⟩:=yh bR;rw[ad];trivial
   |true=>
    apply fin
    rcases ab.fn g args cy bR dN b5 vs ao (an.mono aI.le) au with⟨v,w',aT,bb⟩|⟨aT,bb⟩
    · rw[<-av] at aT
      exact⟨_,_,bb,g1 _ _ aT⟩
    · rw[<-av] at aT
      exact(yf (yi bR) bb _ _).of_steps (g2 _ _ _ aT)
  |b7 dQ args cy=>
   rw[FJ] at k1
   obtain⟨rfl,cV,vs,mB,av,au⟩:=k1
   simp only
   cases bR:(call (.b7 dQ) args cy).kz with
   |false=>obtain⟨s,ad⟩:=yh bR;rw[ad];trivial
   |true=>
    apply fin
    obtain⟨mC,tmps,pJ,pK,aT,bb⟩:=ab.b7 dQ args cy bR dN b5 cV vs ao (an.mono aI.le) mB au
    rw[<-av] at aT
    exact(bb _ _).of_steps (g3 _ _ _ _ _ _ aT)
  |val v cy=>trivial
  |bu v cy=>trivial
  |mf x=>trivial
  |qY=>trivial
  |fail s=>trivial
end
end aS
namespace aS
open Go
section
variable {P:Program}
theorem Bi:∀(l:List I) (i:Nat) (r:aN) (t:Nat),(m_ i l r).get (fA t)=if i<=t/\t<i+l.length then(l[t-i]?).getD .bad else r.get (fA t)
 |[],i,r,t=>by
  simp only[m_,List.length_nil]
  rw[if_neg (by omega)]
 |v::l,i,r,t=>by
  simp only[m_,Bi l (i+1),aN.cL,List.length_cons]
  by_cases h:i+1<=t/\t<i+1+l.length
  · rw[if_pos h,if_pos (by omega)]
    have:t-i=(t-(i+1))+1:=by omega
    rw[this];simp
  · rw[if_neg h]
    by_cases e:t=i
    · subst e;rw[if_pos rfl,if_pos (by omega)];simp
    · rw[if_neg e,if_neg (by omega)]
theorem FK{need:Nat}{μ:bd}{args:List I}{vs:List Value}(h:bL μ args vs)(n:Nat):hG need μ (m_ 0 args .leaf) (⟨vs⟩++Array.replicate n undef):=by
 intro t _
 rw[Bi]
 have ar:=h.length
 by_cases bk:t<args.length
 · rw[if_pos (by omega)]
   simp only[Nat.sub_zero]
   obtain⟨v,aM,aj⟩:=h.get (List.getElem?_eq_getElem bk)
   rw[List.getElem?_eq_getElem bk]
   rw[Array.getD_eq_getD_getElem?,Array.getElem?_append_left (by simp;omega)]
   simp only[List.getElem?_toArray,aM,Option.getD_some]
   exact aj
 · rw[if_neg (by omega),aN.mm];trivial
theorem MX{need:Nat}{μ:bd}{H:J}{w:World}(af:bg μ H w){r:aN}{bF:Array Value}(aj:hG need μ r bF){x:ResultVar}{v:I}(h:pG P need r H x=some v):
  ∃u,((match x with|.tmp t=>pure (bF.getD t undef)|.cell a t=>do loadVar t (<-asAddr (bF.getD a undef)):Sem Value)).run P w=.ok u w/\a1 μ v u:=by
 unfold pG at h
 cases x with
 |tmp t=>
  simp only at h
  split at h
  · rename_i ae;cases h;exact⟨_,rfl,aj t ae⟩
  · cases h
 |cell t ty=>
  simp only at h
  split at h
  · rename_i ae
    have h1:=aj t ae
    split at h
    · rename_i b off n a8 aJ aC
      rw[a8] at h1
      obtain⟨i,ag,aM⟩:=h1
      split at h
      · rename_i cs ar
        cases h
        obtain⟨us,aT,bb⟩:=pS (P:=P) af ag ar
        refine⟨.agg ⟨us⟩,?_,us,rfl,bb⟩
        simp[aM,asAddr,loadVar,rb aJ,run_sizeOf aC,aT]
      · cases h
    · rename_i b off a8 aJ
      rw[a8] at h1
      obtain⟨i,ag,aM⟩:=h1
      obtain⟨u,aT,bb⟩:=Aw (P:=P) af ag h
      refine⟨u,?_,bb⟩
      simp only[aM,asAddr,loadVar,Sem.run_bind,Sem.run_pure,Result.andThen_ok,rb aJ,Bool.false_eq_true,if_false,aT]
    · cases h
  · cases h
theorem Bj{need:Nat}{μ:bd}{H:J}{w:World}(af:bg μ H w){r:aN}{bF:Array Value}(aj:hG need μ r bF):∀(l:List ResultVar) (vs:List I),lK (pG P need r H) l=some vs->
  ∃us:List Value,(l.mapM (λx=>(match x with|.tmp t=>pure (bF.getD t undef)|.cell a t=>do loadVar t (<-asAddr (bF.getD a undef)):Sem Value))).run P w=.ok us w/\bL μ vs us
 |[],vs,h=>by cases h;exact⟨[],rfl,rfl⟩
 |x::l,vs,h=>by
  simp only[lK] at h
  split at h
  · rename_i v yp h1 aa
    cases h
    obtain⟨u,aT,bb⟩:=MX af aj h1
    obtain⟨us,bP,gP⟩:=Bj af aj l yp aa
    refine⟨u::us,?_,⟨_,_,rfl,bb,gP⟩⟩
    rw[List.mapM_cons]
    simp only[Sem.run_bind]
    rw[aT]
    simp only[Result.andThen_ok,Sem.run_bind,bP,Sem.run_pure]
  · cases h
theorem FL{need:Nat}{μ:bd}{H:J}{w:World}(af:bg μ H w){fn:Func}{r:aN}{bF:Array Value}(aj:hG need μ r bF){v:I}(h:na P need fn r H=some v):
  ∃u,(results fn bF).run P w=.ok u w/\a1 μ v u:=by
 unfold na at h
 have eQ:∀us:List Value,(fn.results.toList.mapM (λx=>(match x with|.tmp t=>pure (bF.getD t undef)|.cell a t=>do loadVar t (<-asAddr (bF.getD a undef)):Sem Value))).run P w=.ok us w->
   (results fn bF).run P w=.ok (if h:(⟨us⟩:Array Value).size=1 then(⟨us⟩:Array Value)[0] else .tuple ⟨us⟩) w:=by
  intro us k4
  have hm:(fn.results.mapM (λx=>(match x with|.tmp t=>pure (bF.getD t undef)|.cell a t=>do loadVar t (<-asAddr (bF.getD a undef)):Sem Value))).run P w=.ok ⟨us⟩ w:=by
   rw[Array.mapM_eq_mapM_toList]
   simp only[map_eq_pure_bind,Sem.run_bind]
   rw[k4];rfl
  unfold results
  simp only[Sem.run_bind]
  refine Eq.trans (congrArg (λq=>Result.andThen q _) hm) ?_
  rfl
 split at h
 · rename_i v' aJ
   cases h
   obtain⟨us,aT,bb⟩:=Bj af aj _ _ aJ
   obtain⟨u,nn,rfl,bP,gP⟩:=bb
   cases gP
   exact⟨_,eQ _ aT,bP⟩
 · rename_i vs b9 aJ
   cases h
   obtain⟨us,aT,bb⟩:=Bj af aj _ _ aJ
   refine⟨_,eQ _ aT,?_⟩
   have:¬((⟨us⟩:Array Value).size=1):=by
    intro e
    have ar:=bb.length
    have cw:us.length=1:=e
    rw[cw] at ar
    obtain⟨x,U⟩:=List.length_eq_one_iff.1 ar
    exact b9 x U
   rw[dif_neg this]
   exact⟨us,rfl,bb⟩
 · cases h
theorem FM{call:cR->List I->J->bM}(ab:iY P call)(hdr:∀need br,j5 P need br call){f:FuncId}{fn:Func}(hf:P.funcs[f]? =some fn){kind:CallKind}{c:Code}(ae:fn.body=some c)(cP:fQ fn.ntmps c=true)
  {args:List I}{vs:List Value}{q:az}{H:J}{μ:bd}{w:World}{cs0 cs:List Frame}(aM:bL μ args vs)(af:bg μ H w)(an:fR P μ)(bj:gp μ kind cs0 q cs):
  jK P (bG fn) fn.ntmps μ H w {(default:Frame) with fn:=f,kind:=kind} [] cs0 (lone (Frame.enter P f ⟨vs⟩ kind) cs w) (jH P call fn args q H):=by
 unfold jH
 rw[ae]
 simp only
 cases hle:Nat.ble args.length fn.ntmps with
 |false=>trivial
 |true=>
  have x3:args.length<=fn.ntmps:=by simpa using hle
  have hlen:=aM.length
  simp only
  have Bk:Frame.enter P f ⟨vs⟩ kind=({(default:Frame) with fn:=f,kind:=kind}:Frame).atR {tmps:=⟨vs⟩++Array.replicate (fn.ntmps-vs.length) undef,defers:=[]} [.code c]:=by
   simp[Frame.enter,Frame.atR,hf,ae]
   rfl
  rw[Bk]
  exact nv ab (hdr _ _) (yo ab) none c cP {(default:Frame) with fn:=f,kind:=kind} (m_ 0 args .leaf) [] q H μ w {tmps:=⟨vs⟩++Array.replicate (fn.ntmps-vs.length) undef,defers:=[]} [] cs0 cs rfl (FK aM _) (by simp;omega) af an rfl bj
def tr(P:Program):Prop:=∀(g:FuncId) (gM:Func) (gc:Code),P.funcs[g]? =some gM->gM.body=some gc->fQ gM.ntmps gc=true/\(gM.name== "runtime.NumGoroutine")=false
theorem vD{f:FuncId}{fn:Func}{c:Code}(hf:P.funcs[f]? =some fn)(ae:fn.body=some c)(aC:(fn.name== "runtime.NumGoroutine")=false)(args:Array Value)(w:World):(callFunc f args).run P w=.ok (.enter f args) w:=by
 have kA:¬fn.name= "runtime.NumGoroutine" :=by simpa using aC
 simp[callFunc,hf,kA,ae]
def lV(μ:bd):Option I->FrameMode->Prop
 |none,m=>m=.returning
 |some v,m=>∃u,m=.panicking [{v:=u,recovered:=false}]/\a1 μ v u
theorem lV.mono{μ aL:bd}(hle:dB μ aL){ee:Option I}{m:FrameMode}(h:lV μ ee m):lV aL ee m:=by
 cases ee with
 |none=>exact h
 |some v=>obtain⟨u,h1,aa⟩:=h;exact⟨u,h1,aa.mono hle⟩
theorem lV.run{μ:bd}{ee:Option I}{m:FrameMode}(h:lV μ ee m):m≠ .run:=by
 cases ee with
 |none=>intro e;cases h.symm.trans e
 |some v=>obtain⟨u,h1,_⟩:=h;intro e;cases h1.symm.trans e
theorem lV.q{μ:bd}{ee:Option I}{c:Frame}{cs:List Frame}(h:lV μ ee c.mode):gp μ .deferred (c::cs) (pI ee) (c::cs):=by
 cases ee with
 |none=>
  refine⟨rfl,λcx hk=>?_⟩
  have ah:c.mode=.returning:=h
  simp only[tryRecover,hk,ah]
 |some v=>obtain⟨u,h1,aa⟩:=h;exact⟨rfl,rfl,c,cs,u,rfl,h1,aa⟩
theorem MY{μ:bd}{H:J}{w:World}(af:bg μ H w){r:Nat}{i:fW}(ag:μ r=some i){cs:List bw}(an:H.get r=some (.defrd (some cs))):
  ∃w' l,(Instr.takeDeferred i.a6).run P w=.ok l w'/\eD μ cs l/\bg μ (H.set r (some (.defrd none))) w'/\bN μ H w μ (H.set r (some (.defrd none))) w':=by
 obtain⟨l,av,au⟩:=af.rel _ _ i an ag
 have bx:=(af.lt _ _ ag).2
 obtain⟨ba,bH⟩:=af.update (w':={w with heap:=w.heap.setIfInBounds i.a6 (.deferred none)}) (o':=.defrd none) an rfl ag (by simp) (λr aj=>by simp[Array.getElem?_setIfInBounds];intro e;exact absurd e.symm aj) rfl rfl rfl
  (show({w with heap:=w.heap.setIfInBounds i.a6 (.deferred none)}:World).heap[i.a6]? =some (.deferred none) by simp[bx])
 refine⟨_,l,?_,au,ba,bH⟩
 have hJ:(getObj i.a6).run P w=.ok (.deferred (some l)) w:=by simp[getObj,Sem.run,av]
 have e5:(setObj i.a6 (.deferred none)).run P w=.ok () {w with heap:=w.heap.setIfInBounds i.a6 (.deferred none)}:=by simp[setObj,Sem.run,av]
 simp only[Instr.takeDeferred,Sem.run_bind,hJ,Result.andThen_ok,e5,Sem.run_pure]
end
end aS
namespace aS
open Go
section
variable {P:Program}
theorem step_take{cx:Frame}{cs:List Frame}{w w':World}{b:Nat}{args:Array Value}{ds calls:List Deferred}(hm:cx.mode≠ .run)(ak:cx.defers={target:=.collected b,args:=args}::ds)(bk:(Instr.takeDeferred b).run P w=.ok calls w'):
  step P (lone cx cs w)=.next (lone {cx with defers:=calls++ds} cs w'):=by
 refine step_lone_go ?_
 cases Bl:cx.mode with
 |run=>exact absurd Bl hm
 |returning=>simp[stepG,unwind,Bl,ak,Sem.runT_eq,bk]
 |panicking chain=>simp[stepG,unwind,Bl,ak,Sem.runT_eq,bk]
theorem Ends.trans{μ dN:bd}{H H1:J}{w b5:World}{x:bM}{e:Ending}{w':World}(af:bg μ H w)(gN:bg dN H1 b5)(aJ:bN μ H w dN H1 b5)(h:Ends dN H1 b5 x e w'):Ends μ H w x e w':=by
 cases x with
 |ret v aD=>obtain⟨aL,u,h1,aa,ao,aI⟩:=h;exact⟨aL,u,h1,aa,ao,bN.trans af gN aJ aI⟩
 |bu v aD=>obtain⟨aL,u,h1,aa,ao,aI⟩:=h;exact⟨aL,u,h1,aa,ao,bN.trans af gN aJ aI⟩
 |fail s=>trivial
theorem yq{call:cR->List I->J->bM}(ab:iY P call)(hdr:∀need br,j5 P need br call)(dD:tr P){need:Nat}{fn:Func}{r:aN}:
  ∀(k:Nat) (ee:Option I) (ds:List bw) (H:J) (μ:bd) (w:World) (cx:Frame) (cs:List Frame),(ht P call need fn r k ee ds H).kz=true->bg μ H w->fR P μ->hG need μ r cx.tmps->P.funcs[cx.fn]? =some fn->cx.kind=.normal->
   eD μ ds cx.defers->lV μ ee cx.mode->∃e w' Bm,Ends μ H w (ht P call need fn r k ee ds H) e w'/\Steps P (lone cx cs w) (lone Bm cs w')/\Bm.fn=cx.fn/\Bm.leaving P w' e
 |0,ee,ds,H,μ,w,cx,cs,bR,af,an,aj,hf,hk,ak,a8=>by cases bR
 |k+1,ee,[],H,μ,w,cx,cs,bR,af,an,aj,hf,hk,ak,a8=>by
  have jL:cx.defers=[]:=ak
  cases ee with
  |none=>
   simp only[ht] at bR⊢
   cases eQ:na P need fn r H with
   |none=>rw[eQ] at bR;cases bR
   |some v=>
    obtain⟨u,aT,bb⟩:=FL (P:=P) af aj eQ
    exact⟨.returned u,w,cx,⟨μ,u,rfl,bb,af,bN.refl _ _ _⟩,Steps.refl _ _,rfl,a8,jL,hk,fn,hf,aT⟩
  |some v=>
   obtain⟨u,h1,aa⟩:=a8
   exact⟨.panicked _,w,cx,⟨μ,u,rfl,aa,af,bN.refl _ _ _⟩,Steps.refl _ _,rfl,h1,jL,fn,hf⟩
 |k+1,ee,.collected b::ds,H,μ,w,cx,cs,bR,af,an,aj,hf,hk,ak,a8=>by
  obtain⟨p9,dl,vt,h1,aa⟩:=ak
  cases h1 with
  |collected _ i ag=>
  simp only[ht] at bR⊢
  cases iK:H.get b with
  |none=>rw[iK] at bR;cases bR
  |some o=>
   rw[iK] at bR
   cases o<;>try (cases bR;done)
   case defrd calls=>
    cases calls with
    |none=>cases bR
    |some MZ=>
     simp only at bR⊢
     obtain⟨w',l,av,au,bm,cN⟩:=MY (P:=P) af ag iK
     have ad:=step_take (cs:=cs) a8.run vt av
     obtain⟨e,bQ,jb,ba,bH,dv,dm⟩:=yq ab hdr dD k ee (MZ++ds) _ μ w' {cx with defers:=l++dl} cs bR bm an aj hf hk (au.append aa) a8
     refine⟨e,bQ,jb,?_,Steps.head ad bH,dv,dm⟩
     exact Ends.trans af bm cN ba
 |k+1,ee,.call g args::ds,H,μ,w,cx,cs,bR,af,an,aj,hf,hk,ak,a8=>by
  obtain⟨p9,dl,vt,h1,aa⟩:=ak
  cases h1 with
  |call _ _ cap vs M0=>
  simp only[ht] at bR⊢
  cases nw:P.funcs[g]? with
  |none=>rw[nw] at bR;cases bR
  |some gM=>
   rw[nw] at bR
   simp only at bR⊢
   cases yr:gM.body with
   |none=>
    have:jH P call gM args (pI ee) H=.fail "" :=by simp[jH,yr]
    rw[this] at bR;cases bR
   |some gc=>
    obtain⟨vE,tt⟩:=dD g gM gc nw yr
    have bj:gp μ .deferred ({cx with defers:=dl}::cs) (pI ee) ({cx with defers:=dl}::cs):=lV.q (c:={cx with defers:=dl}) a8
    have ae:=FM (P:=P) ab hdr nw (kind:=.deferred) yr vE (args:=args) (vs:=vs++cap) (q:=pI ee) M0 af an bj
    have hinv:(invoke (.fn (.func g) ⟨cap⟩) ⟨vs⟩).run P w=.ok (.enter g ⟨vs++cap⟩) w:=by
     have:=vD (P:=P) nw yr tt (⟨vs⟩++⟨cap⟩) w
     simpa[invoke] using this
    have M1:=step_defer (P:=P) (cs:=cs) a8.run vt (d:={target:=.fn (.func g) ⟨cap⟩,args:=⟨vs⟩}) rfl hinv
    cases U:jH P call gM args (pI ee) H with
    |fail s=>rw[U] at bR;cases bR
    |ok e r' d' aX aD=>
     rw[U] at bR ae
     obtain⟨aL,w',b_,bC,s1,s2,bz,bT,b0,cC,cY⟩:=ae
     simp only[s_] at bR⊢
     cases eQ:na P (bG gM) gM r' aD with
     |none=>rw[eQ] at bR;cases e<;>cases d'<;>cases bR
     |some Xl=>
      rw[eQ] at bR
      obtain⟨u,aT,bb⟩:=FL (P:=P) bT s2 eQ
      have main:∀(he:e=.nrm\/e=.ret) (jL:d'=[]) (eb:(ht P call need fn r k (q6 aX ee) ds aD).kz=true),
        ∃au bQ jb,Ends μ H w (ht P call need fn r k (q6 aX ee) ds aD) au bQ/\Steps P (lone cx cs w) (lone jb cs bQ)/\jb.fn=cx.fn/\jb.leaving P bQ au:=by
       intro he jL eb
       subst jL
       have vF:b_.defers=[]:=cC
       have Bn:∃todo,Steps P (lone (Frame.enter P g ⟨vs++cap⟩ .deferred) ({cx with defers:=dl}::cs) w) (lone {({(default:Frame) with fn:=g,kind:=.deferred}:Frame).atR b_ todo with mode:=.returning} bC w'):=by
        rcases he with rfl|rfl
        · exact⟨_,Steps.trans s1 (.one (stepR_end rfl))⟩
        · obtain⟨cO,rE⟩:=s1
          exact⟨_,Steps.trans rE (.one (stepR_ret rfl))⟩
       obtain⟨todo,Bn⟩:=Bn
       have hJ:({({(default:Frame) with fn:=g,kind:=.deferred}:Frame).atR b_ todo with mode:=.returning}:Frame).going P w' (.returned u):=⟨rfl,vF,gM,nw,aT⟩
       have caller:∃m,bC={({cx with defers:=dl}:Frame) with mode:=m}::cs/\lV aL (q6 aX ee) (settle m):=by
        have eM:lV aL ee (settle cx.mode):=by
         have rF:=a8.mono b0.le
         cases ee with
         |none=>have:cx.mode=.returning:=rF;rw[this];rfl
         |some v=>obtain⟨u,h1,aa⟩:=rF;rw[h1];exact⟨u,rfl,aa⟩
        cases aX with
        |none=>exact⟨cx.mode,cY.1,eM⟩
        |act v=>exact⟨cx.mode,cY.1,eM⟩
        |done v=>
         obtain⟨_,c,rest,u,av,au,bm,cN⟩:=cY
         cases av
         exact⟨_,cN,rfl⟩
       obtain⟨m,rfl,M3⟩:=caller
       have ao:=step_going_returned (P:=P) (c:={({cx with defers:=dl}:Frame) with mode:=m}) (cs:=cs) rfl hJ
       obtain⟨au,bQ,jb,ba,bH,dv,dm⟩:=yq ab hdr dD k (q6 aX ee) ds aD aL w' {cx with defers:=dl,mode:=settle m} cs eb bT (an.mono b0.le) (aj.mono b0.le) hf hk (aa.mono b0.le) M3
       exact⟨au,bQ,jb,Ends.trans af bT b0 ba,Steps.head M1 (Steps.trans Bn (Steps.head ao bH)),dv,dm⟩
      cases d' with
      |cons x xs=>cases e<;>cases bR
      |nil=>
       cases e with
       |nrm=>exact main (.inl rfl) rfl bR
       |ret=>exact main (.inr rfl) rfl bR
       |exit id=>cases bR
       |goto l=>cases bR
       |bu v=>cases bR
theorem FN{P:Program}{m o0:Machine}{e:Ending}(h:Steps P m o0)(he:e≠ .outgrown):Comes P m o0 e:=by
 cases e with
 |outgrown=>exact absurd rfl he
 |_=>exact h
theorem M4{call:cR->List I->J->bM}(ab:iY P call)(hdr:∀need br,j5 P need br call)(dD:tr P){f:FuncId}{fn:Func}{c:Code}(hf:P.funcs[f]? =some fn)(ae:fn.body=some c)
  {args:List I}{vs:List Value}{H:J}{μ:bd}{w:World}(aM:bL μ args vs)(af:bg μ H w)(an:fR P μ)(bR:(mi P call fn (jH P call fn args .none H)).kz=true):
  Calls P f ⟨vs⟩ w (Ends μ H w (mi P call fn (jH P call fn args .none H))):=by
 intro cs
 obtain⟨vE,tt⟩:=dD f fn c hf ae
 have bj:gp μ .normal cs .none cs:=⟨rfl,λcx hk=>by simp[tryRecover,hk]⟩
 have hV:=FM (P:=P) ab hdr hf (kind:=.normal) ae vE aM af an bj
 generalize U:jH P call fn args .none H=x at bR hV⊢
 cases x with
 |fail s=>cases bR
 |ok e r d q aD=>
  obtain⟨aL,w',b_,bC,s1,s2,bz,bT,b0,cC,cY⟩:=hV
  have gf:bC=cs:=by
   cases q with
   |none=>exact cY.1
   |act v=>exact cY.1
   |done v=>exact absurd cY.1 (by intro h;cases h)
  subst gf
  have main:∀(ee:Option I) (cx:Frame),cx.fn=f->cx.tmps=b_.tmps->cx.defers=b_.defers->cx.kind=.normal->lV aL ee cx.mode->Steps P (lone (Frame.enter P f ⟨vs⟩ .normal) bC w) (lone cx bC w')->
    (ht P call (bG fn) fn r 100 ee d aD).kz=true->∃e bQ jb,Ends μ H w (ht P call (bG fn) fn r 100 ee d aD) e bQ/\Comes P (lone (Frame.enter P f ⟨vs⟩ .normal) bC w) (lone jb bC bQ) e/\jb.fn=f/\jb.leaving P bQ e:=by
   intro ee cx h1 aa ao aI bl cg eb
   subst h1
   obtain⟨au,bQ,jb,ba,bH,dv,dm⟩:=yq ab hdr dD 100 ee d aD aL w' cx bC eb bT (an.mono b0.le) (by rw[aa];exact s2) hf aI (by rw[ao];exact cC) bl
   have vG:=Ends.trans af bT b0 ba
   exact⟨au,bQ,jb,vG,FN (cg.trans bH) (λe=>yi eb _ (e▸vG)),dv,dm⟩
  cases e with
  |nrm=>exact main none {({(default:Frame) with fn:=f,kind:=.normal}:Frame).atR b_ [] with mode:=.returning} rfl rfl rfl rfl rfl (Steps.trans s1 (.one (stepR_end rfl))) bR
  |ret=>obtain⟨cO,rE⟩:=s1;exact main none {({(default:Frame) with fn:=f,kind:=.normal}:Frame).atR b_ (.code .ret::cO) with mode:=.returning} rfl rfl rfl rfl rfl (Steps.trans rE (.one (stepR_ret rfl))) bR
  |bu v=>obtain⟨cO,u,h1,aa⟩:=s1;exact main (some v) _ rfl rfl rfl rfl ⟨u,rfl,h1.1⟩ aa bR
  |exit id=>cases bR
  |goto l=>cases bR
end
end aS
namespace aS
open Go
section
variable {P:Program}
theorem FO{need:Nat}{μ:bd}:∀(ps:List Nat) (args:List I) (vs:List Value) (r gB:aN) (bF:Array Value),(∀t∈ps,t<bF.size)->hG need μ r bF->bL μ args vs->q7 ps args r=some gB->
  hG need μ gB ((ps.zip vs).foldl (λbF (p:Nat×Value)=>bF.setIfInBounds p.1 p.2) bF)/\((ps.zip vs).foldl (λbF (p:Nat×Value)=>bF.setIfInBounds p.1 p.2) bF).size=bF.size/\ps.length=vs.length
 |[],[],vs,r,gB,bF,a8,aj,aM,h=>by cases aM;cases h;exact⟨aj,rfl,rfl⟩
 |t::ts,v::args,vs,r,gB,bF,a8,aj,aM,h=>by
  obtain⟨u,us,rfl,h1,aa⟩:=aM
  simp only[q7] at h
  have oW:hG need μ (r.set (fA t) v) (bF.setIfInBounds t u):=λs ad=>by
   rw[aN.cL,vA (a8 t (by simp))]
   by_cases e:s=t
   · rw[if_pos e,if_pos e];exact h1
   · rw[if_neg e,if_neg e];exact aj s ad
  obtain⟨aT,bb,bP⟩:=FO ts args us _ gB (bF.setIfInBounds t u) (λs ad=>by simp;exact a8 s (by simp[ad])) oW aa h
  exact⟨aT,by rw[List.zip_cons_cons,List.foldl_cons];rw[bb];simp,by simp[bP]⟩
 |[],_::_,vs,r,gB,bF,a8,aj,aM,h=>by cases h
 |_::_,[],vs,r,gB,bF,a8,aj,aM,h=>by cases h
theorem Bo{μ:bd}{H:J}{w:World}(af:bg μ H w){l:Nat}{i:fW}(ar:μ l=some i){st:LoopState}{e4:Option Code}{dG:Nat}{rg:aN}{ps:List Nat}{as b2:Code}{cK:Nat}(an:H.get l=some (.loop st e4 dG rg ps as b2 cK)):
  ∃bF gb fn,μ cK=some gb/\(Instr.getLoop i.a6).run P w=.ok {state:=st,pending:=e4,fn:=fn,tmps:=bF,params:=⟨ps⟩,assign:=as,body:=b2,defers:=gb.a6} w/\hG dG μ rg bF/\fQ bF.size as=true/\fQ bF.size b2=true/\(∀t∈ps,t<bF.size)/\
   ∀bq tu,∃w',(setObj i.a6 (.loop {state:=bq,pending:=tu,fn:=fn,tmps:=bF,params:=⟨ps⟩,assign:=as,body:=b2,defers:=gb.a6})).run P w=.ok () w'/\
    bg μ (H.set l (some (.loop bq tu dG rg ps as b2 cK))) w'/\bN μ H w μ (H.set l (some (.loop bq tu dG rg ps as b2 cK))) w':=by
 obtain⟨bF,gb,fn,av,au,bm,cN,fE,h8⟩:=af.rel _ _ i an ar
 have bx:=(af.lt _ _ ar).2
 have hJ:(getObj i.a6).run P w=.ok (.loop {state:=st,pending:=e4,fn:=fn,tmps:=bF,params:=⟨ps⟩,assign:=as,body:=b2,defers:=gb.a6}) w:=by simp[getObj,Sem.run,au]
 refine⟨bF,gb,fn,av,?_,bm,cN,fE,h8,λbq tu=>?_⟩
 · simp only[Instr.getLoop,Sem.run_bind,hJ,Result.andThen_ok,Sem.run_pure]
 · obtain⟨ba,bH⟩:=af.update (w':={w with heap:=w.heap.setIfInBounds i.a6 (.loop {state:=bq,pending:=tu,fn:=fn,tmps:=bF,params:=⟨ps⟩,assign:=as,body:=b2,defers:=gb.a6})}) (o':=.loop bq tu dG rg ps as b2 cK) an rfl ar (by simp) (λr aj=>by simp[Array.getElem?_setIfInBounds];intro e;exact absurd e.symm aj) rfl rfl rfl
     ⟨bF,gb,fn,av,by simp[bx],bm,cN,fE,h8⟩
   exact⟨_,by simp[setObj,Sem.run,au],ba,bH⟩
theorem M5{b:Frame}{a:Act}{cO:List Item}{c:Frame}{cs:List Frame}{w:World}{chain:List PanicEntry}(ak:a.defers=[])(aC:Be cO):
  step P (lone {b.atR a cO with mode:=.panicking chain} (c::cs) w)=.next (lone (c.raise chain) cs w):=by
 have M6:({b.atR a cO with mode:=.panicking chain}:Frame).catches P=false:=by
  unfold Frame.catches
  cases hf:P.funcs[b.fn]? with
  |some fn=>simp[Frame.atR,hf]
  |none=>
   cases cO with
   |nil=>simp[Frame.atR,hf]
   |cons x t=>cases x<;>first|exact aC.elim|simp[Frame.atR,hf]
 refine step_lone_go ?_
 have FP:=M6
 simp only[Frame.atR,ak] at FP⊢
 simp[stepG,unwind,FP]
theorem M7{μ:bd}{H:J}{w:World}{l:Nat}{i:fW}(ar:μ l=some i){b:Frame}(ae:b.roundOf=some i.a6)(hk:b.kind=.normal){need br:Nat}{c:Frame}{cs:List Frame}{m0:Machine}{x:iA}(U:jK P need br μ H w b [] (c::cs) m0 x)(Xm:∀cx:Frame,cx.kind=b.kind->tryRecover cx (c::cs)=none)(bR:(ta l x).kz=true)(af:bg μ H w):
  oY P m0 c cs (Ends μ H w (ta l x)):=by
 cases x with
 |fail s=>cases bR
 |ok e r d q aD=>
  obtain⟨aL,w',b_,bC,s1,s2,bz,bT,b0,cC,cY⟩:=U
  have gf:bC=c::cs:=by
   cases q with
   |none=>exact cY.1
   |act v=>exact cY.1
   |done v=>exact absurd (hk.symm.trans cY.1) (by intro h;cases h)
  subst gf
  cases d with
  |cons y fa=>cases bR
  |nil=>
   have vF:b_.defers=[]:=cC
   simp only[ta] at bR⊢
   cases an:aD.get l with
   |none=>rw[an] at bR;cases bR
   |some o=>
    rw[an] at bR
    cases o<;>try (cases bR;done)
    case loop st e4 dG rg ps as b2 cK=>
     cases st<;>try (cases bR;done)
     simp only at bR⊢
     obtain⟨bF,gb,fn,g1,g2,_,_,_,_,g3⟩:=Bo (P:=P) bT (b0.le _ _ ar) an
     have fin:∀jump:Option Code,∃bQ,(Instr.endRound i.a6 jump).run P w'=.ok (.bool jump.isNone) bQ/\bg aL (aD.set l (some (.loop (if jump.isNone then .ready else .done) jump dG rg ps as b2 cK))) bQ/\bN aL aD w' aL (aD.set l (some (.loop (if jump.isNone then .ready else .done) jump dG rg ps as b2 cK))) bQ:=λjump=>by
      obtain⟨bQ,aT,bb,bP⟩:=g3 (if jump.isNone then .ready else .done) jump
      refine⟨bQ,?_,bb,bP⟩
      simp only[Instr.endRound,Sem.run_bind,g2,Result.andThen_ok,aT,Sem.run_pure]
     cases e with
     |nrm=>
      obtain⟨bQ,aT,bb,bP⟩:=fin none
      exact⟨.returned (.bool true),bQ,⟨aL,_,rfl,rfl,bb,bN.trans af bT b0 bP⟩,Steps.trans s1 (.one (stepR_round_end ae hk aT))⟩
     |ret=>
      obtain⟨cO,s1⟩:=s1
      obtain⟨bQ,aT,bb,bP⟩:=fin (some .ret)
      exact⟨.returned (.bool false),bQ,⟨aL,_,rfl,rfl,bb,bN.trans af bT b0 bP⟩,Steps.trans s1 (.one (stepR_round_ret ae hk aT))⟩
     |exit id=>
      obtain⟨cO,rE,s1⟩:=s1
      obtain⟨bQ,aT,bb,bP⟩:=fin (some (.exit id))
      exact⟨.returned (.bool false),bQ,⟨aL,_,rfl,rfl,bb,bN.trans af bT b0 bP⟩,Steps.trans s1 (.one (stepR_round_exit ae hk (rE.trans rfl) aT))⟩
     |bu v=>
      obtain⟨cO,u,⟨h1,aa⟩,s1⟩:=s1
      exact⟨.panicked _,w',⟨aL,u,rfl,h1,bT,b0⟩,Steps.trans s1 (.one (M5 vF aa))⟩
     |goto t=>cases bR
theorem M8{call:cR->List I->J->bM}(ab:iY P call)(hdr:∀need br,j5 P need br call){l:Nat}{args:List I}{H:J}{μ:bd}{w:World}{i:fW}{vs:List Value}(bR:(mj P call l args H).kz=true)(af:bg μ H w)(mA:fR P μ)(ar:μ l=some i)(aM:bL μ args vs):
  Fk P i.a6 vs w (Ends μ H w (mj P call l args H)):=by
 unfold mj at bR⊢
 cases an:H.get l with
 |none=>rw[an] at bR;cases bR
 |some o=>
  rw[an] at bR
  cases o<;>try (cases bR;done)
  case loop st e4 dG rg ps as b2 cK=>
   cases st<;>try (cases bR;done)
   simp only at bR⊢
   cases aW:q7 ps args rg with
   |none=>rw[aW] at bR;cases bR
   |some gB=>
    rw[aW] at bR
    simp only at bR⊢
    obtain⟨bF,gb,fn,g1,g2,g3,g4,g5,g6,g7⟩:=Bo (P:=P) af ar an
    obtain⟨bS,z2,z3⟩:=FO ps args vs rg gB bF g6 g3 aM aW
    obtain⟨rG,FQ⟩:∃rG,(ps.zip vs).foldl (λbF (p:Nat×Value)=>bF.setIfInBounds p.1 p.2) bF=rG:=⟨_,rfl⟩
    rw[FQ] at bS z2
    refine⟨fn,rG,as,b2,?_,λc cs=>?_⟩
    · simp only[Instr.yield,Sem.run_bind,g2,Result.andThen_ok]
      rw[if_neg (by simp;omega)]
      simp only[Sem.run_bind,Sem.run_pure,Result.andThen_ok]
      rw[<-FQ]
      simp
    · have M9:Frame.round i.a6 fn rG as b2 .normal=({(default:Frame) with fn:=fn,kind:=.normal,roundOf:=some i.a6}:Frame).atR {tmps:=rG,defers:=[]} [.code as,.beginRound,.code b2]:=rfl
      rw[M9]
      have bj:gp μ .normal (c::cs) .none (c::cs):=⟨rfl,λcx hk=>by simp[tryRecover,hk]⟩
      have b1:lU μ ({(default:Frame) with fn:=fn,kind:=.normal,roundOf:=some i.a6}:Frame) (some l):=⟨i,ar,rfl⟩
      have h1:=nv ab (hdr dG bF.size) (yo ab) (some l) as g4 {(default:Frame) with fn:=fn,kind:=.normal,roundOf:=some i.a6} gB [] .none H μ w {tmps:=rG,defers:=[]} [.beginRound,.code b2] (c::cs) (c::cs) b1 bS z2 af mA rfl bj
      generalize cX P dG (some l) call as gB [] .none H=x at h1 bR⊢
      cases x with
      |fail s=>cases bR
      |ok e ba d1 aT H1=>
       cases e<;>try (cases bR;done)
       case nrm=>
        cases d1<;>try (cases bR;done)
        case nil=>
         obtain⟨dN,b5,bO,jc,s1,s2,bz,bT,b0,cC,cY⟩:=h1
         have gf:jc=c::cs:=by
          cases aT with
          |none=>exact cY.1
          |act v=>exact cY.1
          |done v=>exact absurd cY.1 (by intro h;cases h)
         subst gf
         simp only[xI] at bR⊢
         cases ew:H1.get l with
         |none=>rw[ew] at bR;cases bR
         |some dO=>
          rw[ew] at bR
          cases dO<;>try (cases bR;done)
          case loop st2 M_ Xn Xo Xp Xq FR Xr=>
           cases st2<;>try (cases bR;done)
           simp only at bR⊢
           obtain⟨Xs,Xt,Xu,bt,bA,eU,fe,ny,gQ,Na⟩:=Bo (P:=P) bT (b0.le _ _ ar) ew
           obtain⟨bQ,ck,cn,fT⟩:=Na .busy M_
           have vz:(Instr.beginRound i.a6).run P b5=.ok () bQ:=by
            simp only[Instr.beginRound,Sem.run_bind,bA,Result.andThen_ok,ck,Sem.run_pure]
           have bW:=stepR_beginRound (P:=P) (b:={(default:Frame) with fn:=fn,kind:=.normal,roundOf:=some i.a6}) (a:=bO) (k:=[.code b2]) (cs:=c::cs) rfl vz
           have Nb:gp dN .normal (c::cs) .none (c::cs):=⟨rfl,λcx hk=>by simp[tryRecover,hk]⟩
           have Nc:lU dN ({(default:Frame) with fn:=fn,kind:=.normal,roundOf:=some i.a6}:Frame) (some l):=⟨i,b0.le _ _ ar,rfl⟩
           have vF:eD dN [] bO.defers:=cC
           have aa:=nv ab (hdr dG bF.size) (yo ab) (some l) b2 g5 {(default:Frame) with fn:=fn,kind:=.normal,roundOf:=some i.a6} ba [] .none _ dN bQ bO [] (c::cs) (c::cs) Nc s2 bz cn (mA.mono b0.le) vF Nb
           have ao:=aa.of_steps af cn (Steps.trans s1 (.one bW)) (bN.trans af bT b0 fT)
           exact M7 ar rfl rfl ao (λcx hk=>by simp[tryRecover,hk]) bR af
end
end aS
namespace aS
open Go
section
variable {P:Program}
def qf:List String:=["internal/abi.NoEscape","internal/bytealg.MakeNoZero","internal/bytealg.IndexByteString","maps.clone"]
def ys(P:Program):Prop:=∀(g:FuncId) (gM:Func),P.funcs[g]? =some gM->gM.body=none->gM.name∈qf->Extern.findNext gM=none
theorem FT:∀(n t:Nat) (acc:Array Value),(Extern.BytealgMakeNoZero.digits n t acc).size=acc.size+n
 |0,t,acc=>rfl
 |n+1,t,acc=>by rw[Extern.BytealgMakeNoZero.digits,FT n];simp;omega
theorem Nd{fn:Func}(aC:fn.name= "internal/abi.NoEscape"):Extern.find fn=some Extern.AbiNoEscape.same:=by
 have h1:Extern.allGenericRows.lookup "internal/abi.NoEscape" =none:=by rfl
 have aa:Extern.allTypedRows.lookup "internal/abi.NoEscape" =none:=by rfl
 have ao:Extern.allRows.lookup "internal/abi.NoEscape" =some Extern.AbiNoEscape.same:=by rfl
 simp[Extern.find,aC,h1,aa,ao]
theorem Nf{fn:Func}(aC:fn.name= "internal/bytealg.MakeNoZero"):Extern.find fn=some (Extern.BytealgMakeNoZero.makeNoZero fn.params fn.resultTypes):=by
 have h1:Extern.allGenericRows.lookup "internal/bytealg.MakeNoZero" =none:=by rfl
 have aa:Extern.allTypedRows.lookup "internal/bytealg.MakeNoZero" =some Extern.BytealgMakeNoZero.makeNoZero:=by rfl
 simp[Extern.find,aC,h1,aa]
theorem Ng{fn:Func}(aC:fn.name= "internal/bytealg.IndexByteString"):Extern.find fn=some Extern.BytealgIndexByte.indexByte:=by
 have h1:Extern.allGenericRows.lookup "internal/bytealg.IndexByteString" =none:=by rfl
 have aa:Extern.allTypedRows.lookup "internal/bytealg.IndexByteString" =none:=by rfl
 have ao:Extern.allRows.lookup "internal/bytealg.IndexByteString" =some Extern.BytealgIndexByte.indexByte:=by rfl
 simp[Extern.find,aC,h1,aa,ao]
theorem Nh{fn:Func}(aC:fn.name= "maps.clone"):Extern.find fn=some Extern.MapsClone.clone:=by
 have h1:Extern.allGenericRows.lookup "maps.clone" =none:=by rfl
 have aa:Extern.allTypedRows.lookup "maps.clone" =none:=by rfl
 have ao:Extern.allRows.lookup "maps.clone" =some Extern.MapsClone.clone:=by rfl
 simp[Extern.find,aC,h1,aa,ao]
theorem FU(c:Nat):∀(l:List UInt8) (i:Nat),mh c l i=match l.findIdx? (λb=>Nat.beq b.toNat c) with
  |some j=>((i+j:Nat):Int)
  |none=>-1
 |[],i=>rfl
 |b::l,i=>by
  rw[mh,List.findIdx?_cons]
  cases Nat.beq b.toNat c with
  |true=>simp
  |false=>
   simp only[FU c l (i+1)]
   cases l.findIdx? (λb=>Nat.beq b.toNat c) with
   |none=>rfl
   |some j=>
    simp only[Option.map_some]
    have:((i+(j+1):Nat):Int)=((i+1+j:Nat):Int):=by congr 1;omega
    exact this.symm
theorem Ni(b:ByteArray)(p:UInt8->Bool):(List.range b.size).find? (λi=>p b[i]!)=b.data.toList.findIdx? p:=by
 have bp:b.data.toList.length=b.size:=Array.length_toList
 have fc:∀(i:Nat) (ag:i<b.data.toList.length),b[i]! =b.data.toList[i]:=λi ag=>by
  have dV:i<b.size:=by omega
  rw[getElem!_pos b i dV];rfl
 cases hf:b.data.toList.findIdx? p with
 |none=>
  rw[List.find?_eq_none]
  intro i ag
  have dV:i<b.data.toList.length:=by rw[bp];simpa using ag
  rw[fc i dV]
  have:=List.findIdx?_eq_none_iff.1 hf _ (List.getElem_mem dV)
  rw[this];exact Bool.false_ne_true
 |some j=>
  obtain⟨aG,a8,bx⟩:=List.findIdx?_eq_some_iff_getElem.1 hf
  rw[List.find?_range_eq_some]
  refine⟨?_,by simp;omega,λi ag=>?_⟩
  · rw[fc j aG];exact a8
  · rw[fc i (by omega)]
    have:=bx i ag
    simpa using this
theorem Nj{α:Type}(n:Int)(f:Int->α)(g:Array Value->α):Extern.BytealgMakeNoZero.makeNoZero.match_3 (λ_=>α) #[.int .i64 n] f g=f n:=rfl
theorem Nk{α:Type}(t:TypeId)(r:Nat)(f:TypeId->Nat->α)(e:TypeId->α)(g:Array Value->α):Extern.MapsClone.clone.match_2 (λ_=>α) #[.iface t (.map (some r))] f e g=f t r:=rfl
theorem Nl{α:Type}(b c:Value)(f:Value->Value->α)(g:Array Value->α):Extern.BytealgIndexByte.indexByte.match_2 (λ_=>α) #[b,c] f g=f b c:=rfl
theorem Nn{f:FuncId}{fn:Func}(hf:P.funcs[f]? =some fn)(ae:fn.body=none)(qg:ys P){args:List I}{H aD:J}{v:I}(h:pH P fn fn.name args H=some (v,aD))
  {μ:bd}{w:World}{vs:List Value}(af:bg μ H w)(aM:bL μ args vs):
  ∃u w',(callFunc f ⟨vs⟩).run P w=.ok (.value u) w'/\Ends μ H w (.ret v aD) (.returned u) w':=by
 have call:∀e:Array Value->Sem Value,fn.name∈qf->Extern.find fn=some e->(callFunc f ⟨vs⟩).run P w=(do let v<-e ⟨vs⟩;pure (.value v):Sem Next).run P w:=by
  intro e hm he
  have aC:=qg f fn hf ae hm
  have Bp:(fn.name== "runtime.NumGoroutine")=false:=by
   simp only[qf,List.mem_cons,List.mem_nil_iff,or_false] at hm
   rcases hm with h|h|h|h<;>rw[h]<;>decide
  rw[run_callFunc_extern hf Bp (by rw[ae];rfl) aC he];simp only[Sem.run_bind];rfl
 unfold pH at h
 split at h
 · rename_i n
   split at h
   · rename_i nz
     split at h
     · rename_i t bk
       split at h
       · rename_i e hu
         split at h
         · rename_i hle
           cases h
           have x3:n<=1099511627776:=by simpa using hle
           obtain⟨u,us,rfl,h1,aa⟩:=aM
           cases h1;cases aa
           have bp:∀(t:TypeId),(Question.appendCap n 0 t).forced=false:=λ_=>rfl
           obtain⟨cap,k5,FV⟩:∃cap,(Question.appendCap n 0 e).cut (w.tape w.drawn (Question.appendCap n 0 e))=cap/\n<=cap:=⟨_,rfl,by simp[Question.cut]⟩
           obtain⟨FW,kB⟩:∃x,(Question.extern "internal/bytealg.MakeNoZero.bytes" 0).cut (w.drew.tape w.drew.drawn (Question.extern "internal/bytealg.MakeNoZero.bytes" 0))=x:=⟨_,rfl⟩
           have ak:=FT cap FW #[]
           have rH:=af.drew.drew
           obtain⟨ba,bH⟩:=rH.alloc (.cells (List.replicate n .bad) e .aH 0 0) (.cells (Extern.BytealgMakeNoZero.digits cap FW #[]) e) cap
            ⟨_,0,0,World.heap_alloc_new _ _,λj v aG=>by
              have pO:j<n:=by
               rcases Nat.lt_or_ge j n with h|h
               · exact h
               · rw[List.getElem?_eq_none (by simpa using h)] at aG;cases aG
              rw[List.getElem?_replicate,if_pos pO] at aG
              cases aG
              refine⟨_,Array.getElem?_eq_getElem (by rw[Nat.zero_add,ak];simp;omega),trivial⟩,by rw[ak];simp,by simpa using FV,λj _ _ h=>by omega⟩
           refine⟨_,_,?_,fC μ H.n ⟨w.drew.drew.heap.size,0,cap⟩,_,rfl,⟨_,fD _ _ _,cap,rfl,FV,by simp⟩,ba,bN.trans af af.drew bN.drew (bN.trans af.drew rH bN.drew bH)⟩
           rw[call _ (by rw[nz];simp[qf]) (Nf nz)]
           have No:¬((Int.ofNat n<0||Int.ofNat n>2^48)=true):=by
            have aa:(2:Int)^48=281474976710656:=by rfl
            have ao:Int.ofNat n=(n:Int):=rfl
            rw[aa,ao];simp only[Bool.or_eq_true,decide_eq_true_eq];omega
           have Bq:(Question.extern "internal/bytealg.MakeNoZero.bytes" 0).forced=false:=rfl
           have Np:(Int.ofNat n).toNat=n:=rfl
           delta Extern.BytealgMakeNoZero.makeNoZero
           rw[Nj]
           simp only[Sem.run_bind,bk,Sem.run_pure,bD hu,Result.andThen_ok]
           rw[if_neg No]
           simp only[Sem.run_bind,run_choose,Np,bp,Bq,Bool.false_eq_true,if_false,World.drew_eq,k5,Result.andThen_ok,run_askRoom,kB,Sem.run_pure]
           rfl
         · cases h
       · cases h
     · cases h
   · cases h
 · rename_i x _
   obtain⟨u,us,rfl,h1,aa⟩:=aM
   cases aa
   split at h
   · rename_i nz
     cases h
     refine⟨u,w,?_,μ,u,rfl,h1,af,bN.refl _ _ _⟩
     rw[call _ (by rw[nz];simp[qf]) (Nd nz)]
     rfl
   · split at h
     · rename_i nz
       split at h
       · rename_i t r
         split at h
         · rename_i es c an
           cases h
           obtain⟨y,rfl,i,ag,rfl⟩:=h1
           obtain⟨ents,av,au⟩:=af.rel _ _ i an ag
           have hle:=af.ng ⟨w.heap.size,0,0⟩
           obtain⟨ba,bH⟩:=af.alloc (.map es c) (.map ⟨ents⟩ c) 0 ⟨ents,World.heap_alloc_new _ _,au.mono hle⟩
           refine⟨_,_,?_,fC μ H.n ⟨w.heap.size,0,0⟩,.iface _ (.map (some w.heap.size)),rfl,⟨.map (some w.heap.size),rfl,⟨w.heap.size,0,0⟩,fD _ _ _,rfl⟩,ba,bH⟩
           rw[call _ (by rw[nz];simp[qf]) (Nh nz)]
           have hJ:(getObj i.a6).run P w=.ok (.map ⟨ents⟩ c) w:=by simp[getObj,Sem.run,av]
           simp only[Sem.run_bind]
           rw[show(⟨[Value.iface _ (Value.map (some i.a6))]⟩:Array Value)=#[.iface _ (.map (some i.a6))] from rfl]
           delta Extern.MapsClone.clone
           rw[Nk]
           simp only[Sem.run_bind,hJ,Result.andThen_ok,run_newObj,Sem.run_pure]
           rfl
         · cases h
       · cases h
     · cases h
 · rename_i s c
   split at h
   · rename_i nz
     split at h
     · rename_i ab
       cases h
       have u3:c<256:=by simpa using ab
       obtain⟨u,us,rfl,h1,aa⟩:=aM
       obtain⟨fG,Xv,rfl,ao,aI⟩:=aa
       cases ao;cases aI
       obtain⟨t,rfl,rfl⟩:=h1
       refine⟨_,w,?_,μ,_,rfl,rfl,af,bN.refl _ _ _⟩
       rw[call _ (by rw[nz];simp[qf]) (Ng nz)]
       have kB:(Int.ofNat c).toNat.toUInt8=UInt8.ofNat c:=rfl
       have heq:∀b:UInt8,(b==UInt8.ofNat c)=Nat.beq b.toNat c:=λb=>by
        rw[Bool.eq_iff_iff,beq_iff_eq,Nat.beq_eq,<-UInt8.toNat_inj]
        simp[Nat.mod_eq_of_lt u3]
       delta Extern.BytealgIndexByte.indexByte
       rw[Nl]
       simp only[Sem.run_bind,Extern.Bytes.bytesOf,Extern.Bytes.asByte,Sem.run_pure,Result.andThen_ok,kB,heq]
       have hf:=Ni t (λb=>Nat.beq b.toNat c)
       rw[hf,FU]
       cases t.data.toList.findIdx? (λb=>Nat.beq b.toNat c) with
       |none=>rfl
       |some j=>
        simp only[Nat.zero_add]
        rfl
     · cases h
   · cases h
 · cases h
def hy(P:Program)(intr:Nat->List I->J->Option (I×J)):Prop:=
 ∀f args H v aD,intr f args H=some (v,aD)->∀μ w (vs:List Value),bg μ H w->fR P μ->bL μ args vs->qc P f vs w (Ends μ H w (.ret v aD))
theorem Nq(P:Program):hy P (λ_ _ _=>none):=λ_ _ _ _ _ h=>by cases h
theorem Nr{call:cR->List I->J->bM}(ab:iY P call)(hdr:∀need br,j5 P need br call)(dD:tr P)(qg:ys P){f:Nat}{args:List I}{H:J}(bR:(oO P call f args H).kz=true)
  {μ:bd}{w:World}{vs:List Value}(af:bg μ H w)(an:fR P μ)(aM:bL μ args vs):qc P f vs w (Ends μ H w (oO P call f args H)):=by
 unfold oO at bR⊢
 cases hf:P.funcs[f]? with
 |none=>rw[hf] at bR;cases bR
 |some fn=>
  rw[hf] at bR
  simp only at bR⊢
  cases ae:fn.body with
  |none=>
   rw[ae] at bR
   simp only at bR⊢
   cases U:pH P fn fn.name args H with
   |none=>rw[U] at bR;cases bR
   |some p=>
    obtain⟨v,aD⟩:=p
    obtain⟨u,w',h1,aa⟩:=Nn hf ae qg U af aM
    exact .inl ⟨u,w',h1,aa⟩
  |some c=>
   rw[ae] at bR
   simp only at bR⊢
   obtain⟨vE,tt⟩:=dD f fn c hf ae
   exact .inr ⟨vD hf ae tt _ _,M4 ab hdr dD hf ae aM af an bR⟩
theorem FX{intr:Nat->List I->J->Option (I×J)}(ag:hy P intr)(hdr:∀call,iY P call->∀need br,j5 P need br call)(dD:tr P)(qg:ys P):∀n,iY P (cF P intr n)
 |0=>⟨λf args H an=>(by cases an),λl args H an=>(by cases an)⟩
 |n+1=>by
  have bc:=FX ag hdr dD qg n
  refine⟨λf args H bR μ w vs af an aM=>?_,λl args H bR μ w i vs af an ar aM=>?_⟩
  · simp only[cF] at bR⊢
    cases U:intr f args H with
    |some p=>
     obtain⟨v,aD⟩:=p
     exact ag f args H v aD U μ w vs af an aM
    |none=>
     rw[U] at bR
     exact Nr bc (hdr _ bc) dD qg bR af an aM
  · simp only[cF] at bR⊢
    exact M8 bc (hdr _ bc) bR af an ar aM
end
end aS
namespace aS
open Go
def rI(ops:Array Oper)(S:List Nat):List Nat->Prop
 |[]=>∀i,i<ops.size->i∈S
 |i::rest=>i<ops.size/\i∉S/\(∀o,ops[i]? =some o->∀e∈o.after,Region.binds .any e=true->e.on∈S)/\rI ops (i::S) rest
theorem filter_lt{p q:Nat->Bool}(vH:∀x,q x=true->p x=true):∀(l:List Nat) {i:Nat},i∈l->p i=true->q i=false->(l.filter q).length<(l.filter p).length
 |[],i,h,_,_=>by cases h
 |a::l,i,h,a8,bj=>by
  have hle:∀l:List Nat,(l.filter q).length<=(l.filter p).length:=λl=>by
   induction l with
   |nil=>simp
   |cons b l bc=>
    simp only[List.filter_cons]
    cases ae:q b with
    |true=>simp[vH b ae];exact bc
    |false=>cases p b<;>simp<;>omega
  rcases List.mem_cons.1 h with rfl|h
  · have:=hle l
    simp only[List.filter_cons,a8,bj,if_true,Bool.false_eq_true,if_false,List.length_cons];omega
  · have bc:=filter_lt vH l h a8 bj
    simp only[List.filter_cons]
    cases ae:q a with
    |true=>simp[vH a ae];exact bc
    |false=>cases p a<;>simp<;>omega
theorem Ns{ops:Array Oper}(qh:∀o i,ops[i]? =some o->nb o i=true){listed:Array Bool}(bp:listed.size=ops.size)(aj:Region.ready .any ops listed=[]):∀i,i<ops.size->listed.getD i true=true:=by
 intro i
 induction i using Nat.strongRecOn with
 |ind i bc=>
  intro ag
  cases ar:listed.getD i true with
  |true=>rfl
  |false=>
   have aQ:ops[i]? =some ops[i]:=Array.getElem?_eq_getElem ag
   have:i∈Region.ready .any ops listed:=mem_ready.2 ⟨ar,ops[i],aQ,λe he ae=>by
    have:=qh _ _ aQ
    unfold nb at this
    rw[List.all_eq_true] at this
    have aa:=this e (by simpa using he)
    simp only[ae,Bool.not_true,Bool.false_or,Nat.blt_eq] at aa
    have ao:=bc e.on aa (by omega)
    have bx:e.on<listed.size:=by omega
    simp[bx] at ao⊢
    exact ao⟩
   rw[aj] at this;cases this
theorem FY{ops:Array Oper}(qh:∀o i,ops[i]? =some o->nb o i=true):∀(fuel t:Nat) (listed:Array Bool) (S:List Nat),listed.size=ops.size->(∀i,i<ops.size->(listed.getD i true=true<->i∈S))->
  ((List.range ops.size).filter λi=>!listed.getD i true).length<=fuel->rI ops S (Region.linearise.go .any ops fuel t listed [])
 |0,t,listed,S,bp,fr,hf=>by
  simp only[Region.linearise.go,List.reverse_nil,rI]
  intro i ag
  rw[<-fr i ag]
  have aA:((List.range ops.size).filter λi=>!listed.getD i true)=[]:=List.length_eq_zero_iff.1 (Nat.le_zero.1 hf)
  rw[List.filter_eq_nil_iff] at aA
  have:=aA i (List.mem_range.2 ag)
  simpa using this
 |fuel+1,t,listed,S,bp,fr,hf=>by
  simp only[Region.linearise.go]
  change rI ops S (match(Region.ready .any ops listed)[t %(Region.ready .any ops listed).length]? with
   |some i=>Region.linearise.go .any ops fuel (t/(Region.ready .any ops listed).length) (listed.setIfInBounds i true) [i]
   |none=>[].reverse)
  cases ag:(Region.ready .any ops listed)[t %(Region.ready .any ops listed).length]? with
  |none=>
   have o1:Region.ready .any ops listed=[]:=by
    cases aj:Region.ready .any ops listed with
    |nil=>rfl
    |cons x xs=>
     rw[aj] at ag
     have bx:t %(x::xs).length<(x::xs).length:=Nat.mod_lt _ (by simp)
     rw[List.getElem?_eq_getElem bx] at ag;cases ag
   simp only[List.reverse_nil,rI]
   exactλi h=>(fr i h).1 (Ns qh bp o1 i h)
  |some i=>
   simp only[]
   rw[linearise_go_acc,List.reverse_singleton,List.singleton_append]
   obtain⟨h1,o,aa,ao⟩:=mem_ready.1 (List.mem_of_getElem? ag)
   have bx:i<ops.size:=(Array.getElem?_eq_some_iff.1 aa).1
   have AE:i<listed.size:=by omega
   have oW:∀j d,(listed.setIfInBounds i true).getD j d=if j=i then true else listed.getD j d:=λj d=>by
    simp only[Array.getD_eq_getD_getElem?,Array.getElem?_setIfInBounds]
    by_cases e:i=j
    · subst e;simp[AE]
    · rw[if_neg e,if_neg (λh=>e h.symm)]
   refine⟨bx,λh=>?_,λo' gq e he ae=>?_,FY qh fuel _ _ _ (by simpa using bp) (λj aG=>?_) ?_⟩
   · have:=(fr i bx).2 h
     rw[h1] at this;cases this
   · rw[aa] at gq;cases gq
     have aI:=ao e he ae
     have yu:e.on<listed.size:=by
      rcases Nat.lt_or_ge e.on listed.size with h|h
      · exact h
      · simp[Array.getElem?_eq_none h] at aI
     rw[<-fr e.on (by omega)]
     simp[yu] at aI⊢
     exact aI
   · rw[oW,List.mem_cons]
     by_cases e:j=i
     · simp[e]
     · rw[if_neg e,fr j aG];simp[e]
   · have Xw:((List.range ops.size).filter λj=>!(listed.setIfInBounds i true).getD j true).length<((List.range ops.size).filter λj=>!listed.getD j true).length:=
       filter_lt (λx U=>by
        rw[oW] at U
        by_cases e:x=i
        · rw[if_pos e] at U;cases U
        · rw[if_neg e] at U;exact U) _ (List.mem_range.2 bx) (by rw[h1];rfl) (by rw[oW,if_pos rfl];rfl)
     omega
theorem Nt{ops:Array Oper}(qh:∀o i,ops[i]? =some o->nb o i=true)(t:Nat):rI ops [] (Region.schedule true ops t):=by
 simp only[Region.schedule,Bool.true_or,if_true,Region.linearise]
 refine FY qh ops.size t _ [] (by simp) (λi ag=>by simp[ag]) ?_
 refine Nat.le_trans (List.length_filter_le _ _) (by simp)
section
variable {P:Program} {g ct:Operand->I}
theorem Br{o:Option Operand}(h:∀x∈o.toArray,g x=ct x):o.map g=o.map ct:=by
 cases o with
 |none=>rfl
 |some x=>simp[h x (by simp)]
theorem vI(o:Oper)(H:J)(h:∀x∈o.op.operands,g x=ct x):b6 P o g H=b6 P o ct H:=by
 obtain⟨dst,op,type,pos,after,guard⟩:=o
 have yv:∀ps:Array (Nat×Operand),(∀x∈ps.map (·.2),g x=ct x)->(ps.toList.map λp=>(p.1,g p.2))=(ps.toList.map λp=>(p.1,ct p.2)):=λps a8=>
  List.map_congr_left λp hm=>by rw[a8 p.2 (Array.mem_map.2 ⟨p,by simpa using hm,rfl⟩)]
 cases op<;>simp only[Op.operands] at h<;>unfold b6
 case build t ps=>simp only[yv ps λx U=>h x (by simpa using U)]
 case buildSlice t n ps=>simp only[yv ps λx U=>h x (by simpa using U)]
 case makeFunc fn first captured=>
  simp only[List.map_congr_left (l:=first.toList) λx U=>h x (by simp at U;simp[U]),List.map_congr_left (l:=captured.toList) λx U=>h x (by simp at U;simp[U])]
 case call c=>
  have aJ:c.args.toList.map g=c.args.toList.map ct:=List.map_congr_left λx U=>h x (by simp at U;simp[Call.operands,U])
  simp only[aJ]
  cases ab:c.callee with
  |value f=>have hf:g f=ct f:=h f (by simp[Call.operands,ab]);simp only[hf]
  |invoke r m=>have aj:g r=ct r:=h r (by simp[Call.operands,ab]);simp only[aj]
  |builtin b=>rfl
 case defer c=>
  have aJ:c.args.toList.map g=c.args.toList.map ct:=List.map_congr_left λx U=>h x (by simp at U;simp[Call.operands,U])
  simp only[aJ]
  cases ab:c.callee with
  |value f=>have hf:g f=ct f:=h f (by simp[Call.operands,ab]);simp only[hf]
  |invoke r m=>rfl
  |builtin b=>rfl
 case makeMap t r=>cases r<;>simp_all
 case slice t x bB ag mx=>
  have av:bB.map g=bB.map ct:=Br λy aP=>h y (by simp at aP;simp[aP])
  have au:ag.map g=ag.map ct:=Br λy aP=>h y (by simp at aP;simp[aP])
  have bm:mx.map g=mx.map ct:=Br λy aP=>h y (by simp at aP;simp[aP])
  have cN:g x=ct x:=h x (by simp)
  have fE:∀o:Option Operand,(o.map λo=>kindName (g o))=(o.map g).map kindName:=λo=>by cases o<;>rfl
  have h8:∀o:Option Operand,(o.map λo=>kindName (ct o))=(o.map ct).map kindName:=λo=>by cases o<;>rfl
  simp only[av,au,bm,cN,fE,h8]
 all_goals (first|rfl|(simp_all;done))
theorem vJ(o:Op)(b:Nat)(h:∀x∈o.operands,g x=ct x):hs P o g b=hs P o ct b:=by
 have yv:∀ps:Array (Nat×Operand),(∀x∈ps.map (·.2),g x=ct x)->(ps.toList.map λp=>(p.1,g p.2))=(ps.toList.map λp=>(p.1,ct p.2)):=λps a8=>
  List.map_congr_left λp hm=>by rw[a8 p.2 (Array.mem_map.2 ⟨p,by simpa using hm,rfl⟩)]
 cases o<;>simp only[Op.operands] at h<;>unfold hs
 case buildSlice t n ps=>simp only[yv ps λx U=>h x (by simpa using U)]
 case makeMap t r=>cases r<;>rfl
 all_goals (first|rfl|(simp_all;done))
theorem Nu{o:Oper}{H aD:J}{v:I}(hk:kindOf P o.op=.pure)(h:b6 P o g H=.val v aD):aD=H:=by
 have gh:∀{w:String} {x:Option I},fb H w x=.val v aD->aD=H:=λ{w x} e=>by
  cases x with
  |none=>cases e
  |some y=>cases e;rfl
 obtain⟨dst,op,type,pos,after,guard⟩:=o
 cases op<;>simp only[kindOf] at hk<;>(try (cases hk;done))<;>unfold b6 at h<;>simp only at h
 case move=>cases h;rfl
 case assign=>cases h;rfl
 case pick=>
  split at h
  · cases h;rfl
  · cases h;rfl
  · cases h
 case build=>
  repeat' (first|contradiction|(cases h;rfl)|(cases h;done)|split at h)
 case load=>
  repeat' (first|contradiction|(cases h;rfl)|(cases h;done)|exact gh h|split at h)
 case nilCheck=>repeat' (first|contradiction|(cases h;rfl)|(cases h;done)|exact gh h|split at h)
 case binOp=>exact gh h
 case unOp=>repeat' (first|contradiction|(cases h;rfl)|(cases h;done)|exact gh h|split at h)
 case convert s d x=>
  have b9:∀e,P.underlying d≠some (.slice e):=λe he=>by rw[he] at hk;cases hk
  unfold iB at h
  repeat' (first|exact absurd (by assumption) (b9 _)|(cases h;rfl)|(cases h;done)|split at h)
 case makeInterface=>repeat' (first|contradiction|(cases h;rfl)|(cases h;done)|exact gh h|split at h)
 case makeFunc=>repeat' (first|contradiction|(cases h;rfl)|(cases h;done)|exact gh h|split at h)
 case makeMap r=>cases r<;>cases hk
 case slice=>exact gh h
 case fieldAddr=>repeat' (first|contradiction|(cases h;rfl)|(cases h;done)|exact gh h|split at h)
 case field=>repeat' (first|contradiction|(cases h;rfl)|(cases h;done)|exact gh h|split at h)
 case indexAddr=>repeat' (first|contradiction|(cases h;rfl)|(cases h;done)|exact gh h|split at h)
 case index=>repeat' (first|contradiction|(cases h;rfl)|(cases h;done)|exact gh h|split at h)
 case lookup=>exact gh h
 case typeAssert=>repeat' (first|contradiction|(cases h;rfl)|(cases h;done)|exact gh h|split at h)
 case extract=>repeat' (first|contradiction|(cases h;rfl)|(cases h;done)|exact gh h|split at h)
 case call c=>
  cases ab:c.callee with
  |value f=>rw[ab] at hk;cases hk
  |invoke r m=>rw[ab] at hk;cases hk
  |builtin b=>
   rw[ab] at hk h
   simp only at h
   cases b<;>simp only at hk<;>(try (cases hk;done))<;>unfold hR at h<;>simp only at h
   all_goals repeat' (first|contradiction|(cases h;rfl)|(cases h;done)|exact gh h|split at h)
end
end aS
namespace aS
open Go
def jM(ops:Array Oper)(S:List Nat)(j:Nat):Prop:=∀o,ops[j]? =some o->∀e∈o.after,Region.binds .any e=true->e.on∈S
def yw(ops:Array Oper)(S:List Nat):Prop:=∀j∈S,jM ops S j
def Sound(ops:Array Oper)(j m:Nat):Prop:=∀S,yw ops S->jM ops S j->∀b,Nat.testBit m b=true->b∈S
def vK(ops:Array Oper)(n:Nat)(fP:List Nat):Prop:=∀j,j<n->∃m,nth (n-1-j) fP=some m/\Sound ops j m
theorem Nv(a b:Nat)(h:Nat.testBit (1<<<a) b=true):b=a:=by
 rw[Nat.shiftLeft_eq,Nat.one_mul,Nat.testBit_two_pow] at h
 exact(of_decide_eq_true h).symm
theorem FZ{fP:List Nat}{n:Nat}:∀(l:List Edge) (s b:Nat),Nat.testBit (l.foldl (λs e=>match Region.binds .any e with
  |true=>s|||1<<<e.on|||(nth (n-1-e.on) fP).getD 0
  |false=>s) s) b=true->Nat.testBit s b=true\/∃e∈l,Region.binds .any e=true/\(b=e.on\/Nat.testBit ((nth (n-1-e.on) fP).getD 0) b=true)
 |[],s,b,h=>.inl h
 |e::l,s,b,h=>by
  rw[List.foldl_cons] at h
  rcases FZ l _ b h with h|⟨cw,h1,aa⟩
  · cases ae:Region.binds .any e with
    |false=>rw[ae] at h;exact .inl h
    |true=>
     rw[ae] at h
     simp only[Nat.testBit_or,Bool.or_eq_true] at h
     rcases h with(h|h)|h
     · exact .inl h
     · exact .inr ⟨e,by simp,ae,.inl (Nv _ _ h)⟩
     · exact .inr ⟨e,by simp,ae,.inr h⟩
  · exact .inr ⟨cw,by simp[h1],aa⟩
theorem Nw{ops:Array Oper}{fP:List Nat}{n:Nat}{o:Oper}(aQ:ops[n]? =some o)(ae:nb o n=true)(hm:vK ops n fP):Sound ops n (uX fP n o):=by
 intro S fr aj b h
 unfold uX at h
 rw[<-Array.foldl_toList] at h
 rcases FZ _ _ _ h with h|⟨e,h1,aa,ao⟩
 · simp at h
 · have he:e∈o.after:=by simpa using h1
   have yu:=aj o aQ e he aa
   rcases ao with rfl|ao
   · exact yu
   · have bx:e.on<n:=by
       unfold nb at ae
       rw[List.all_eq_true] at ae
       have:=ae e h1
       simpa[aa] using this
     obtain⟨m,Bs,yx⟩:=hm e.on bx
     rw[Bs] at ao
     exact yx S fr (fr _ yu) b ao
theorem vK.cons{ops:Array Oper}{fP:List Nat}{n m:Nat}(h:vK ops n fP)(ad:Sound ops n m):vK ops (n+1) (m::fP):=by
 intro j aG
 by_cases e:j=n
 · subst e;exact⟨m,by simp[nth],ad⟩
 · obtain⟨o0,h1,aa⟩:=h j (by omega)
   refine⟨o0,?_,aa⟩
   have:n+1-1-j=(n-1-j)+1:=by omega
   rw[this];exact h1
theorem F0:∀(l:List Oper) (n:Nat) (loc:List (Nat×Acc)) (k:Nat) (o:Oper),l[k]? =some o->hT (l.take (k+1)) n loc=gl o (n+k) (hT (l.take k) n loc)
 |[],n,loc,k,o,h=>by simp at h
 |x::l,n,loc,0,o,h=>by simp at h;subst h;simp[hT]
 |x::l,n,loc,k+1,o,h=>by
  have ah:l[k]? =some o:=by simpa using h
  have bc:=F0 l (n+1) (gl x n loc) k o ah
  simp only[List.take_succ_cons,hT]
  rw[bc]
  have:n+1+k=n+(k+1):=by omega
  rw[this]
theorem vL{ops:Array Oper}:∀(l:List Oper) (n:Nat) (loc:List (Nat×Acc)) (fP:List Nat),(∀k,l[k]? =ops[n+k]?)->(∀s∈ed l n loc fP,nb s.o s.i=true)->vK ops n fP->∀(k:Nat) (o:Oper),l[k]? =some o->
  ∃s,(ed l n loc fP)[k]? =some s/\s.i=n+k/\s.o=o/\s.loc=hT (l.take k) n loc/\Sound ops (n+k) s.dU
 |[],n,loc,fP,ar,he,hm,k,o,h=>by simp at h
 |x::l,n,loc,fP,ar,he,hm,k,o,h=>by
  simp only[ed] at he⊢
  have U:ops[n]? =some x:=by have:=ar 0;simpa using this.symm
  have ae:nb x n=true:=he ⟨n,x,uX fP n x,loc⟩ (by simp)
  have ad:=Nw U ae hm
  cases k with
  |zero=>
   simp at h;subst h
   exact⟨_,rfl,rfl,rfl,rfl,ad⟩
  |succ k=>
   obtain⟨s,h1,aa,ao,aI,bl⟩:=vL l (n+1) (gl x n loc) (uX fP n x::fP) (λj=>by have:=ar (j+1);simp at this;rw[this];congr 1;omega) (λs ad=>he s (by simp[ad])) (hm.cons ad) k o (by simpa using h)
   exact⟨s,by simpa using h1,by omega,ao,by simpa[hT] using aI,by rw[show n+(k+1)=n+1+k by omega];exact bl⟩
theorem Bt:∀(l:List Oper) (n:Nat) (loc:List (Nat×Acc)) (fP:List Nat),(ed l n loc fP).length=l.length
 |[],_,_,_=>rfl
 |x::l,n,loc,fP=>by simp[ed,Bt l]
theorem tv{ops:Array Oper}:∀{l:List DStep},oP ops l=true->∀s∈l,nb s.o s.i=true
 |[],_,s,h=>by cases h
 |x::l,ak,s,h=>by
  simp only[oP,Bool.and_eq_true] at ak
  rcases List.mem_cons.1 h with rfl|h
  · exact ak.1.1
  · exact tv ak.2 s h
theorem F1{ops:Array Oper}{s:DStep}:∀{l:List DStep},xJ ops s l=true->∀aV∈l,(∃t,s.o.dst=some t/\t∈kY ops aV.o)\/(∃t,aV.o.dst=some t/\t∈kY ops s.o)->Nat.testBit aV.dU s.i=true
 |[],_,aV,h=>by cases h
 |x::l,ak,aV,h=>by
  simp only[xJ,Bool.and_eq_true] at ak
  rcases List.mem_cons.1 h with rfl|h
  · intro aC
    have h1:=ak.1
    split at h1
    · exact h1
    · rename_i ab
      exfalso
      rw[Bool.or_eq_false_iff] at ab
      rcases aC with⟨t,e,hm⟩|⟨t,e,hm⟩
      · have:=ab.1;rw[e] at this;simp[hm] at this
      · have:=ab.2;rw[e] at this;simp[hm] at this
  · exact F1 ak.2 aV h
theorem F2{ops:Array Oper}:∀{l:List DStep},oP ops l=true->∀(i j:Nat) (s aV:DStep),i<j->l[i]? =some s->l[j]? =some aV->(∃t,s.o.dst=some t/\t∈kY ops aV.o)\/(∃t,aV.o.dst=some t/\t∈kY ops s.o)->Nat.testBit aV.dU s.i=true
 |[],_,i,j,s,aV,_,h,_=>by simp at h
 |x::l,ak,i,j,s,aV,nA,h1,aa=>by
  simp only[oP,Bool.and_eq_true] at ak
  cases j with
  |zero=>omega
  |succ j=>
   have vM:l[j]? =some aV:=by simpa using aa
   cases i with
   |zero=>
    simp at h1;subst h1
    exact F1 ak.1.2 aV (List.mem_of_getElem? vM)
   |succ i=>exact F2 ak.2 i j s aV (by omega) (by simpa using h1) vM
structure rJ where
 env:List I
 d:List bw
 q:az
 h:J
 a7:List (Nat×Nat×J)
section
variable {P:Program} {need:Nat} {inR:Bool} {call:cR->List I->J->bM} {ops:Array Oper} {r:aN} {cf:Nat}
def jd(P:Program)(need:Nat)(r:aN)(s:DStep)(env:List I):Operand->I:=λx=>cv s.i env r (bX P need s.loc x)
inductive rK(P:Program)(need:Nat)(inR:Bool)(call:cR->List I->J->bM)(ops:Array Oper)(r:aN)(cf:Nat)(s:DStep)(st:rJ):rJ->Prop where
 |rL (hk:kindOf P s.o.op=.alloc) (hw:dr (eO P need ops r s.i st.env s)=some false):rK P need inR call ops r cf s st {st with env:=.aF []::st.env}
 |alloc {v:I} {bY:b8} (hk:kindOf P s.o.op=.alloc) (hw:dr (eO P need ops r s.i st.env s)=some true) (aJ:hs P s.o.op (jd P need r s st.env) (cf+s.i)=some (v,bY)):
   rK P need inR call ops r cf s st {st with env:=v::st.env,h:=st.h.set (cf+s.i) (some bY)}
 |pure {v:I} {d':List bw} {aX:az} {ah:J} (hk:kindOf P s.o.op=.pure) (he:dk P inR call (eO P need ops r s.i st.env s) s.o (jd P need r s st.env) st.d st.q st.h=.ok v d' aX ah):
   rK P need inR call ops r cf s st {st with env:=v::st.env}
 |dA {v:I} {d':List bw} {aX:az} {ah:J} (hk:kindOf P s.o.op=.dA) (aQ:∀e m aA l,st.a7=(e,m,aA)::l->Nat.testBit s.dU e=true)
   (he:dk P inR call (eO P need ops r s.i st.env s) s.o (jd P need r s st.env) st.d st.q st.h=.ok v d' aX ah):rK P need inR call ops r cf s st ⟨v::st.env,d',aX,ah,(s.i,s.dU,st.h)::st.a7⟩
theorem Nx{s:DStep}{rest:List DStep}{st:rJ}{x:Ap}(h:fB P need inR call ops r cf (s::rest) st.env st.d st.q st.h st.a7=x)(hf:∀w,x≠ .fail w):
  (∃bq,rK P need inR call ops r cf s st bq/\fB P need inR call ops r cf rest bq.env bq.d bq.q bq.h bq.a7=x)\/
  (kindOf P s.o.op=.dA/\(∀e m aA l,st.a7=(e,m,aA)::l->Nat.testBit s.dU e=true)/\rest.all (λaV=>Nat.testBit aV.dU s.i)=true/\
   ∃v d' aX ah,dk P inR call (eO P need ops r s.i st.env s) s.o (jd P need r s st.env) st.d st.q st.h=.bu v d' aX ah/\x=.bu v st.env d' aX ah ((s.i,s.dU,st.h)::st.a7)):=by
 simp only[fB] at h
 split at h
 · rename_i hk
   split at h
   · exact absurd h.symm (hf _)
   · rename_i hw;exact .inl ⟨_,.rL hk hw,h⟩
   · rename_i hw
     split at h
     · rename_i v bY aJ;exact .inl ⟨_,.alloc hk hw aJ,h⟩
     · exact absurd h.symm (hf _)
 · rename_i hk
   split at h
   · rename_i he;exact .inl ⟨_,.pure hk he,h⟩
   · exact absurd h.symm (hf _)
   · exact absurd h.symm (hf _)
 · rename_i hk
   split at h
   · exact absurd h.symm (hf _)
   · rename_i aQ
     have gq:∀e m aA l,st.a7=(e,m,aA)::l->Nat.testBit s.dU e=true:=λe m aA l ad=>by rw[ad] at aQ;exact aQ
     split at h
     · rename_i he;exact .inl ⟨_,.dA hk gq he,h⟩
     · rename_i he
       split at h
       · rename_i dD;exact .inr ⟨hk,gq,dD,_,_,_,_,he,h.symm⟩
       · exact absurd h.symm (hf _)
     · exact absurd h.symm (hf _)
theorem F3:∀(l:List DStep) (st:rJ) (x:Ap),fB P need inR call ops r cf l st.env st.d st.q st.h st.a7=x->(∀w,x≠ .fail w)->
  ∃(f:Nat->rJ) (N:Nat),f 0=st/\N<=l.length/\(∀k s,k<N->l[k]? =some s->rK P need inR call ops r cf s (f k) (f (k+1)))/\
   ((N=l.length/\x=.ok (f N).env (f N).d (f N).q (f N).h (f N).a7)\/
    (∃s,l[N]? =some s/\kindOf P s.o.op=.dA/\(∀e m aA l,(f N).a7=(e,m,aA)::l->Nat.testBit s.dU e=true)/\(∀k aV,N<k->l[k]? =some aV->Nat.testBit aV.dU s.i=true)/\
     ∃v d' aX ah,dk P inR call (eO P need ops r s.i (f N).env s) s.o (jd P need r s (f N).env) (f N).d (f N).q (f N).h=.bu v d' aX ah/\x=.bu v (f N).env d' aX ah ((s.i,s.dU,(f N).h)::(f N).a7)))
 |[],st,x,h,hf=>⟨λ_=>st,0,rfl,Nat.le_refl _,λk s hk=>by omega,.inl ⟨rfl,h.symm⟩⟩
 |s::l,st,x,h,hf=>by
  rcases Nx h hf with⟨bq,h1,aa⟩|⟨h1,aa,ao,aI⟩
  · obtain⟨f,N,g1,g2,g3,g4⟩:=F3 l bq x aa hf
    refine⟨λk=>match k with|0=>st|k+1=>f k,N+1,rfl,by simpa using g2,λk aV hk ad=>?_,?_⟩
    · cases k with
      |zero=>simp at ad;subst ad;simp only[Nat.zero_add,g1];exact h1
      |succ k=>exact g3 k aV (by omega) (by simpa using ad)
    · rcases g4 with⟨av,au⟩|⟨s2,av,au,bm,cN,fE⟩
      · exact .inl ⟨by simp[av],au⟩
      · refine .inr ⟨s2,by simpa using av,au,bm,λk aV hk ad=>?_,fE⟩
        cases k with
        |zero=>omega
        |succ k=>exact cN k aV (by omega) (by simpa using ad)
  · refine⟨λ_=>st,0,rfl,by simp,λk s hk=>by omega,.inr ⟨s,rfl,h1,aa,λk aV hk ad=>?_,aI⟩⟩
    cases k with
    |zero=>omega
    |succ k=>
     rw[List.all_eq_true] at ao
     exact ao aV (List.mem_of_getElem? (by simpa using ad))
mutual
theorem beq_eq:∀(a c:I),I.beq a c=true->a=c
 |.bool a,c,h=>by
  cases c<;>simp only[I.beq] at h<;>first|(cases h;done)|(simp at h;subst h;rfl)
 |.int k n,c,h=>by
  cases c<;>simp only[I.beq] at h<;>first|(cases h;done)|(simp[dP] at h;obtain⟨rfl,rfl⟩:=h;rfl)
 |.str s,c,h=>by
  cases c<;>simp only[I.beq] at h<;>first|(cases h;done)|(rw[ha] at h;simp at h;subst h;rfl)
 |.c_,c,h=>by cases c<;>simp only[I.beq] at h<;>first|(cases h;done)|rfl
 |.ptr x y,c,h=>by
  cases c<;>simp only[I.beq] at h<;>first|(cases h;done)|(rw[Bool.and_eq_true,Nat.beq_eq,Nat.beq_eq] at h;obtain⟨rfl,rfl⟩:=h;rfl)
 |.bn,c,h=>by cases c<;>simp only[I.beq] at h<;>first|(cases h;done)|rfl
 |.slice x y z cap,c,h=>by
  cases c<;>simp only[I.beq] at h<;>(try (cases h;done))
  rename_i Bu Lc Xx Ny
  simp only[Bool.and_eq_true,Nat.beq_eq] at h
  obtain⟨⟨⟨rfl,rfl⟩,rfl⟩,h⟩:=h
  cases cap<;>cases Ny<;>simp only[cb.beq] at h<;>first|(cases h;done)|(rw[Nat.beq_eq] at h;subst h;rfl)|rfl
 |.fy,c,h=>by cases c<;>simp only[I.beq] at h<;>first|(cases h;done)|rfl
 |.map x,c,h=>by
  cases c<;>simp only[I.beq] at h<;>first|(cases h;done)|(rw[Nat.beq_eq] at h;subst h;rfl)
 |.h5,c,h=>by cases c<;>simp only[I.beq] at h<;>first|(cases h;done)|rfl
 |.fn x as bs,c,h=>by
  cases c<;>simp only[I.beq] at h<;>(try (cases h;done))
  simp only[Bool.and_eq_true,Nat.beq_eq] at h
  obtain⟨⟨rfl,h1⟩,aa⟩:=h
  rw[tw _ _ h1,tw _ _ aa]
 |.b7 x,c,h=>by
  cases c<;>simp only[I.beq] at h<;>first|(cases h;done)|(rw[Nat.beq_eq] at h;subst h;rfl)
 |.ej,c,h=>by cases c<;>simp only[I.beq] at h<;>first|(cases h;done)|rfl
 |.iface t v,c,h=>by
  cases c<;>simp only[I.beq] at h<;>(try (cases h;done))
  simp only[Bool.and_eq_true,Nat.beq_eq] at h
  obtain⟨rfl,h1⟩:=h
  rw[beq_eq _ _ h1]
 |.agg cs,c,h=>by
  cases c<;>simp only[I.beq] at h<;>(try (cases h;done))
  rw[tw _ _ h]
 |.aF cs,c,h=>by
  cases c<;>simp only[I.beq] at h<;>(try (cases h;done))
  rw[tw _ _ h]
 |.bad,c,h=>by cases c<;>simp only[I.beq] at h<;>cases h
theorem tw:∀(a c:List I),I.mg a c=true->a=c
 |[],[],_=>rfl
 |[],_::_,h=>by simp[I.mg] at h
 |_::_,[],h=>by simp[I.mg] at h
 |x::a,y::c,h=>by
  simp only[I.mg,Bool.and_eq_true] at h
  rw[beq_eq _ _ h.1,tw _ _ h.2]
end
end
end aS
