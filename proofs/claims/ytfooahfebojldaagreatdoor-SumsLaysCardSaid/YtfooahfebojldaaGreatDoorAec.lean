/-
  THE ABSTRACT EVALUATOR (code, functions, rounds, calls): a deterministic semantics of loaded code, and the proof that its runs are runs of the program in the model, whatever the tape draws. No condition.
-/
import Derived.Test.YtfooahfebojldaaGreatDoorAeb
import Derived.Defers
import Derived.Laws.Externs
import Derived.Orders
set_option linter.unusedVariables false
set_option linter.unusedSimpArgs false
namespace aD
open Go
def qS(P:Program)(need:Nat)(ops:Array Oper):List Oper->List (Nat×Acc)->Nat->List Step
 |[],_,_=>[]
 |o::rest,loc,m=>
  match aliasOf o with
  |some (t,x)=>qS P need ops rest ((t,cT P need loc x)::loc) m
  |none=>⟨jI P need ops loc o,o,loc,m⟩::qS P need ops rest (lo o m loc) (m+1)
def oK(P:Program)(need:Nat)(ops:Array Oper):List Oper->List (Nat×Acc)->Nat->List (Nat×Acc)
 |[],loc,_=>loc
 |o::rest,loc,m=>
  match aliasOf o with
  |some (t,x)=>oK P need ops rest ((t,cT P need loc x)::loc) m
  |none=>oK P need ops rest (lo o m loc) (m+1)
theorem Cj(P:Program)(need:Nat)(ops:Array Oper):∀(l:List Oper) (loc:List (Nat×Acc)) (st:List Step) (m:Nat),tN P need ops l loc st m=⟨st.reverse++qS P need ops l loc m,oK P need ops l loc m⟩
 |[],loc,st,m=>by simp[tN,qS,oK]
 |o::rest,loc,st,m=>by
  unfold tN qS oK
  cases a2:aliasOf o with
  |some p=>obtain⟨t,x⟩:=p;simp only[a2];exact Cj P need ops rest _ st m
  |none=>simp only[a2];rw[Cj P need ops rest];simp
section
variable {P:Program} {need:Nat}
theorem nH(t u:Nat)(a:Acc)(l:List (Nat×Acc)):hY t ((u,a)::l)=if t=u then some a else hY t l:=by
 rw[hY]
 by_cases h:t=u
 · subst h;simp
 · have:Nat.beq t u=false:=by
     cases af:Nat.beq t u with
     |false=>rfl
     |true=>exact absurd (Nat.eq_of_beq_eq_true af) h
   rw[this,if_neg h]
def Acc.below(m:Nat):Acc->Prop
 |.env j=>j<m
 |_=>True
theorem OO{m:Nat}{env:List I}{r:aT}{v:I}{a:Acc}(h:a.below m):dU (m+1) (v::env) r a=dU m env r a:=by
 cases a with
 |env j=>
  simp only[Acc.below] at h
  have:m+1-1-j=(m-1-j)+1:=by omega
  simp only[dU,this,nth]
 |reg p=>rfl
 |val v=>rfl
theorem OP{m:Nat}{env:List I}{r:aT}{v:I}:dU (m+1) (v::env) r (.env m)=v:=by
 simp[dU,nth]
def Ck(m:Nat)(loc:List (Nat×Acc)):Prop:=∀t a,hY t loc=some a->a.below m
theorem zg{m:Nat}{loc:List (Nat×Acc)}(h:Ck m loc)(x:Operand):(cT P need loc x).below m:=by
 cases x with
 |tmp t=>
  simp only[cT]
  cases hf:hY t loc with
  |some a=>exact h t a hf
  |none=>simp only[];cases Nat.testBit need t<;>trivial
 |const v=>trivial
 |global g=>simp only[cT];cases Nat.blt g P.globals.size<;>trivial
 |func f=>trivial
theorem Acc.Hi{m n:Nat}(h:m<=n){a:Acc}(a2:a.below m):a.below n:=by
 cases a with
 |env j=>exact Nat.lt_of_lt_of_le a2 h
 |reg p=>trivial
 |val v=>trivial
structure iS(P:Program)(need:Nat)(μ:bn)(r:aT)(m:Nat)(env:List I)(loc:List (Nat×Acc))(cf:Array Value):Prop where
 uc:Ck m loc
 rel:∀t,bc μ (dU m env r (cT P need loc (.tmp t))) (cf.getD t undef)
theorem iS.mono{μ aP:bn}{r:aT}{m:Nat}{env:List I}{loc:List (Nat×Acc)}{cf:Array Value}(hle:eV μ aP)(h:iS P need μ r m env loc cf):iS P need aP r m env loc cf:=⟨h.uc,λt=>(h.rel t).mono hle⟩
theorem iS.eval{μ:bn}{r:aT}{m:Nat}{env:List I}{loc:List (Nat×Acc)}{a:Act}(h:iS P need μ r m env loc a.tmps)(aj:hz P μ)(x:Operand):bc μ (dU m env r (cT P need loc x)) (a.eval x):=by
 cases x with
 |tmp t=>exact h.rel t
 |const v=>exact jN μ v
 |global g=>
  simp only[cT,Act.eval]
  cases af:Nat.blt g P.globals.size with
  |false=>exact trivial
  |true=>
   obtain⟨i,aa,ad,ax⟩:=aj g (by simpa using af)
   obtain⟨iP,i0,y_⟩:=i
   simp only at ad ax
   subst ad;subst ax
   exact⟨_,aa,rfl⟩
 |func f=>exact⟨[],[],rfl,rfl,rfl⟩
theorem iS.init{μ:bn}{r:aT}{cf:Array Value}(h:iz need μ r cf):iS P need μ r 0 [] [] cf:=
 ⟨λt a h=>by simp[hY] at h,λt=>by
  simp only[cT,hY]
  cases af:Nat.testBit need t with
  |true=>exact h t af
  |false=>trivial⟩
theorem wz{cf:Array Value}{d t:Nat}{u:Value}(aG:d<cf.size):(cf.setIfInBounds d u).getD t undef=if t=d then u else cf.getD t undef:=by
 simp only[Array.getD_eq_getD_getElem?,Array.getElem?_setIfInBounds]
 by_cases h:d=t
 · subst h;simp[aG]
 · rw[if_neg h,if_neg (λe=>h e.symm)]
theorem iS.alias{μ:bn}{r:aT}{m:Nat}{env:List I}{loc:List (Nat×Acc)}{a:Act}(h:iS P need μ r m env loc a.tmps)(aj:hz P μ){t:Nat}(a6:t<a.tmps.size)(x:Operand):
  iS P need μ r m env ((t,cT P need loc x)::loc) (a.put (some t) (a.eval x)).tmps:=by
 refine⟨λu b hu=>?_,λu=>?_⟩
 · rw[nH] at hu
   split at hu
   · cases hu;exact zg h.uc x
   · exact h.uc u b hu
 · simp only[cT,nH,Act.put]
   rw[wz a6]
   by_cases e:u=t
   · simp only[e,if_true];exact h.eval aj x
   · simp only[e,if_false];exact h.rel u
theorem iS.step{μ:bn}{r:aT}{m:Nat}{env:List I}{loc:List (Nat×Acc)}{a:Act}(h:iS P need μ r m env loc a.tmps){o:Oper}(a6:∀t,o.dst=some t->t<a.tmps.size){v:I}{u:Value}(aE:bc μ v u):
  iS P need μ r (m+1) (v::env) (lo o m loc) (a.put o.dst u).tmps:=by
 have old:∀t,bc μ (dU (m+1) (v::env) r (cT P need loc (.tmp t))) (a.tmps.getD t undef):=λt=>by
  rw[OO (zg h.uc _)];exact h.rel t
 unfold lo
 cases aG:o.dst with
 |none=>exact⟨λt b af=>Acc.Hi (Nat.le_succ m) (h.uc t b af),old⟩
 |some d=>
  refine⟨λt b af=>?_,λt=>?_⟩
  · rw[nH] at af
    split at af
    · cases af;exact Nat.lt_succ_self m
    · exact Acc.Hi (Nat.le_succ m) (h.uc t b af)
  · simp only[Act.put]
    rw[wz (a6 d aG)]
    by_cases e:t=d
    · simp only[cT,nH,e,if_true,OP];exact aE
    · have:=old t
      simp only[cT,nH,e,if_false] at this⊢
      exact this
theorem Hj{ops:Array Oper}{cf:Array Value}{j t:Nat}(h:(ops[j]?).bind (·.dst)=some t):yielded ops cf j=match cf.getD t undef with
  |.bool b=>some b
  |_=>none:=by
 unfold yielded
 rw[h,Option.bind_some]
 rw[Array.getD_eq_getD_getElem?]
 cases ak:cf[t]? with
 |none=>rfl
 |some v=>simp only[Option.getD_some];cases v<;>rfl
theorem OQ{μ:bn}{ops:Array Oper}{loc:List (Nat×Acc)}{o:Oper}{acc:Acc->I}{cf:Array Value}(kV:∀t,bc μ (acc (cT P need loc (.tmp t))) (cf.getD t undef))(nI:∀v,acc (.val v)=v):
  ∀oJ,ey (match jI P need ops loc o with|none=>none|some (a,b)=>some (acc a,b))=some oJ->Region.wanted o (yielded ops cf)=oJ:=by
 intro oJ h
 unfold jI at h
 unfold Region.wanted
 cases aj:o.guard with
 |none=>rw[aj] at h;simp only[ey] at h;cases h;rfl
 |some p=>
  obtain⟨j,b⟩:=p
  rw[aj] at h
  simp only at h⊢
  cases a6:(ops[j]?).bind (·.dst) with
  |none=>rw[a6] at h;simp only[nI,ey] at h;cases h
  |some t=>
   rw[a6] at h
   simp only at h
   have ai:=kV t
   rw[Hj a6]
   generalize acc (cT P need loc (.tmp t))=v at h ai
   unfold ey at h
   split at h
   · rename_i he;cases he
   · rename_i he;cases he;cases h
     have Cl:cf.getD t undef=_:=ai
     rw[Cl];rfl
   · rename_i he;cases he;cases h
     obtain⟨l,au,h4⟩:=ai
     cases h4
     rw[au];rfl
   · cases h
def Cm:List Item->Prop
 |.call _ _ _ _::_=>False
 |_=>True
def oL(P:Program)(need cm:Nat)(μ:bn)(r:aT)(H:J)(w:World)(b:Frame)(k:List Item)(cs0:List Frame)(fV:Machine)(loc:List (Nat×Acc)):l5->Prop
 |.ok env bG bP aX=>∃aP w' dr b6,Steps P fV (lone (b.atR dr k) b6 w')/\iS P need aP r env.length env loc dr.tmps/\dr.tmps.size=cm/\br aP aX w'/\cb μ H w aP aX w'/\gz aP bG dr.defers/\hL aP b.kind cs0 bP b6
 |.b9 v bG bP aX=>∃aP w' dr b6 u bS,Steps P fV (lone {b.atR dr bS with mode:=.panicking [{v:=u,recovered:=false}]} b6 w')/\Cm bS/\bc aP v u/\
   (∀t,hY t loc=none->Nat.testBit need t=true->bc aP (r.get (gO t)) (dr.tmps.getD t undef))/\dr.tmps.size=cm/\br aP aX w'/\cb μ H w aP aX w'/\gz aP bG dr.defers/\hL aP b.kind cs0 bP b6
 |.fail _=>True
theorem oL.of_steps{cm:Nat}{μ gq:bn}{r:aT}{H H1:J}{w dI:World}{b:Frame}{k:List Item}{cs0:List Frame}{fV cV:Machine}{loc:List (Nat×Acc)}{x:l5}(ak:br μ H w)(lr:br gq H1 dI)(h:Steps P fV cV)(a2:cb μ H w gq H1 dI)
  (aa:oL P need cm gq r H1 dI b k cs0 cV loc x):oL P need cm μ r H w b k cs0 fV loc x:=by
 cases x with
 |ok env d q aX=>
  obtain⟨aP,w',dr,b6,s1,s2,bE,bX,cZ,ea⟩:=aa
  exact⟨aP,w',dr,b6,h.trans s1,s2,bE,bX,cb.trans ak lr a2 cZ,ea⟩
 |b9 v d q aX=>
  obtain⟨aP,w',dr,b6,u,bS,s1,gi,s2,bE,bX,cZ,ea,e4⟩:=aa
  exact⟨aP,w',dr,b6,u,bS,h.trans s1,gi,s2,bE,bX,cZ,cb.trans ak lr a2 ea,e4⟩
 |fail s=>trivial
theorem Cn{ops:Array Oper}:∀(l:List Oper) (loc:List (Nat×Acc)) (m t:Nat),hY t (oK P need ops l loc m)=none->hY t loc=none
 |[],loc,m,t,h=>h
 |o::rest,loc,m,t,h=>by
  unfold oK at h
  cases a2:aliasOf o with
  |some p=>
   obtain⟨u,x⟩:=p
   rw[a2] at h
   have:=Cn rest _ m t h
   rw[nH] at this
   split at this
   · cases this
   · exact this
  |none=>
   rw[a2] at h
   have:=Cn rest _ _ t h
   unfold lo at this
   split at this
   · rw[nH] at this
     split at this
     · cases this
     · exact this
   · exact this
theorem OR{o:Oper}{t:Nat}{x:Operand}(h:aliasOf o=some (t,x)):o.guard=none/\o.dst=some t/\∀cp,execOp cp o=pure (.value (cp x)):=by
 unfold aliasOf at h
 split at h
 · rename_i aa ad ax;cases h;exact⟨aa,ad,λcp=>by simp[execOp,ax]⟩
 · rename_i aa ad ax;cases h;exact⟨aa,ad,λcp=>by simp[execOp,ax]⟩
 · cases h
theorem zh(a:Act)(dst:Option Tmp)(u:Value):(a.put dst u).tmps.size=a.tmps.size:=by cases dst<;>simp[Act.put]
theorem Co{call:ay->List I->J->an}(ah:lC P call){cm:Nat}{ops:Array Oper}(oM:∀o∈ops.toList,∀t,o.dst=some t->t<cm){b:Frame}{inR:Bool}(dO:inR=b.roundOf.isSome){r:aT}{k:List Item}{cs0:List Frame}:
  ∀(l:List Oper) (i0:Nat) (loc:List (Nat×Acc)) (m:Nat) (env:List I) (d:List b1) (q:bJ) (μ:bn) (H:J) (w:World) (a:Act) (cs:List Frame),ops.toList.drop i0=l->env.length=m->
   iS P need μ r m env loc a.tmps->a.tmps.size=cm->br μ H w->hz P μ->gz μ d a.defers->hL μ b.kind cs0 q cs->
   oL P need cm μ r H w b k cs0 (lone (b.atR a (.inRegion ops (List.range' i0 l.length)::k)) cs w) (oK P need ops l loc m) (jJ P need inR call r (qS P need ops l loc m) env d q H)
 |[],i0,loc,m,env,d,q,μ,H,w,a,cs,au,hm,sg,bL,ak,aj,aG,bq=>by
  subst hm
  exact⟨μ,w,a,cs,.one stepR_region_end,sg,bL,ak,cb.refl _ _ _,aG,bq⟩
 |o::rest,i0,loc,m,env,d,q,μ,H,w,a,cs,au,hm,sg,bL,ak,aj,aG,bq=>by
  have bd:ops[i0]? =some o:=by
   have:=congrArg List.head? au
   simpa[List.head?_drop] using this
  have qB:ops.toList.drop (i0+1)=rest:=by
   have:=congrArg List.tail au
   simpa[List.tail_drop] using this
  have lD:o∈ops.toList:=by
   rw[<-Array.getElem?_toList] at bd
   exact List.mem_of_getElem? bd
  have Hk:∀t,o.dst=some t->t<a.tmps.size:=λt h=>by rw[bL];exact oM o lD t h
  rw[List.length_cons,List.range'_succ]
  unfold qS oK
  cases a2:aliasOf o with
  |some p=>
   obtain⟨t,x⟩:=p
   simp only
   obtain⟨dD,ef,g2⟩:=OR a2
   have hw:Region.wanted o (yielded ops a.tmps)=true:=by simp[Region.wanted,dD]
   have ct:=stepGR_op (P:=P) (b:=b) (a:=a) (k:=k) (cs:=cs) (w:=w) (rest:=List.range' (i0+1) rest.length) bd hw
   have wv:o.semAt b.roundOf a.eval=execOp a.eval o:=by
    refine Oper.semAt_eq _ _ _ λc e=>?_
    have:=g2 a.eval
    unfold aliasOf at a2
    rw[e] at a2
    split at a2
    · rename_i h;cases h
    · rename_i h;cases h
    · cases a2
   rw[wv] at ct
   obtain⟨ao,_⟩:=Ce ct
   have hs:=ao (a.eval x) w (by rw[g2];rfl)
   have nG:(b.atR a (.inRegion ops (i0::List.range' (i0+1) rest.length)::k)).finish (a.eval x)=b.atR (a.put (some t) (a.eval x)) (.inRegion ops (List.range' (i0+1) rest.length)::k):=by
    rw[Frame.finish_atR,bd]
    simp only[Option.bind_some,ef]
   rw[nG] at hs
   have ba:=Co (k:=k) ah oM dO rest (i0+1) ((t,cT P need loc x)::loc) m env d q μ H w (a.put (some t) (a.eval x)) cs qB hm (sg.alias aj (Hk t ef) x) ((zh _ _ _).trans bL) ak aj (by rw[put_defers];exact aG) bq
   exact ba.of_steps ak ak hs (cb.refl _ _ _)
  |none=>
   simp only[jJ]
   have gu:=Hf (P:=P) ah ak aj (b:=b) (a:=a) (ops:=ops) (i:=i0) (rest:=List.range' (i0+1) rest.length) (k:=k) (cs0:=cs0) (cs:=cs) bd (gd:=match jI P need ops loc o with|none=>none|some (x,c)=>some (dU m env r x,c))
    (OQ (acc:=dU m env r) sg.rel (λv=>rfl)) (g:=λx=>dU m env r (cT P need loc x)) (λx=>sg.eval aj x) aG bq dO
   generalize dV P inR call (match jI P need ops loc o with|none=>none|some (x,c)=>some (dU m env r x,c)) o (λx=>dU m env r (cT P need loc x)) d q H=res at gu⊢
   cases res with
   |ok v bG bP aX=>
    obtain⟨aP,w',u,sf,b6,s1,s2,bE,bX,cZ,ea⟩:=gu
    have OS:=(sg.mono bX.le).step (a:=a) (o:=o) Hk s2
    have ba:=Co (k:=k) ah oM dO rest (i0+1) (lo o m loc) (m+1) (v::env) bG bP aP aX w' {tmps:=(a.put o.dst u).tmps,defers:=sf} b6 qB (by simp[hm]) OS ((zh _ _ _).trans bL) bE (aj.mono bX.le) cZ ea
    exact ba.of_steps ak bE s1 bX
   |b9 v bG bP aX=>
    obtain⟨aP,w',u,s1,s2,bE,bX,cZ,ea⟩:=gu
    refine⟨aP,w',a,cs,u,_,s1,trivial,s2,λt a6 aK=>?_,bL,bE,bX,cZ,ea⟩
    have h0:=Cn (P:=P) (need:=need) (ops:=ops) rest _ _ t a6
    have aa:hY t loc=none:=by
     unfold lo at h0
     split at h0
     · rw[nH] at h0
       split at h0
       · cases h0
       · exact h0
     · exact h0
    have:=(sg.mono bX.le).rel t
    simp only[cT,aa,aK,dU] at this
    exact this
   |fail s=>trivial
end
end aD
namespace aD
open Go
section
variable {P:Program} {need:Nat}
theorem Hl(need m:Nat)(env:List I)(hn:aT):∀(loc:List (Nat×Acc)) (r:aT) (t:Nat),Nat.testBit need t=true->
  (pq need m env hn loc r).get (gO t)=match hY t loc with|some a=>dU m env hn a|none=>r.get (gO t)
 |[],r,t,a6=>rfl
 |(u,a)::l,r,t,a6=>by
  rw[nH]
  simp only[pq]
  by_cases e:t=u
  · subst e
    simp only[a6,if_true,aT.b_]
  · have ba:=Hl need m env hn l r t a6
    cases hu:Nat.testBit need u with
    |true=>simp only[aT.b_,if_neg e,ba]
    |false=>simp only[if_neg e,ba]
theorem Hm:∀(loc:List (Nat×Acc)) (r:aT) (t:Nat),(tO loc r).get (gO t)=match hY t loc with|some a=>.bad|none=>r.get (gO t)
 |[],r,t=>rfl
 |(u,a)::l,r,t=>by
  rw[nH]
  simp only[tO,aT.b_]
  by_cases e:t=u
  · simp only[e,if_true]
  · simp only[if_neg e,Hm l r t]
theorem iS.outs{μ:bn}{r:aT}{m:Nat}{env:List I}{loc:List (Nat×Acc)}{cf:Array Value}(h:iS P need μ r m env loc cf):iz need μ (pq need m env r loc r) cf:=by
 intro t a6
 rw[Hl need m env r loc r t a6]
 have:=h.rel t
 simp only[cT,a6] at this
 cases hf:hY t loc with
 |some a=>rw[hf] at this;exact this
 |none=>rw[hf] at this;exact this
theorem sh{e:bF}{r:aT}{d:List b1}{q:bJ}{h:J}{f:aT->List b1->bJ->J->iL}(he:e≠ .nrm):pt (.ok e r d q h) f=.ok e r d q h:=by
 cases e<;>first|rfl|exact absurd rfl he
def qT(P:Program)(μ:bn)(fV:Machine)(b:Frame)(k:List Item)(cs:List Frame)(a:Act)(w:World):bF->Prop
 |.nrm=>Steps P fV (lone (b.atR a k) cs w)
 |.exit id=>∃bS,exitTo id bS=exitTo id k/\Steps P fV (lone (b.atR a (.code (.exit id)::bS)) cs w)
 |.ret=>∃bS,Steps P fV (lone (b.atR a (.code .ret::bS)) cs w)
 |.goto _=>False
 |.b9 v=>∃bS u,(bc μ v u/\Cm bS)/\Steps P fV (lone {b.atR a bS with mode:=.panicking [{v:=u,recovered:=false}]} cs w)
theorem qT.of_steps{μ:bn}{fV cV:Machine}{b:Frame}{k:List Item}{cs:List Frame}{a:Act}{w:World}{e:bF}(h:Steps P fV cV)(al:qT P μ cV b k cs a w e):qT P μ fV b k cs a w e:=by
 cases e with
 |nrm=>exact h.trans al
 |exit id=>obtain⟨bS,aa,ad⟩:=al;exact⟨bS,aa,h.trans ad⟩
 |ret=>obtain⟨bS,ad⟩:=al;exact⟨bS,h.trans ad⟩
 |goto l=>exact al
 |b9 v=>obtain⟨bS,u,aa,ad⟩:=al;exact⟨bS,u,aa,h.trans ad⟩
theorem qT.pass{μ:bn}{fV:Machine}{b:Frame}{x:Item}{k:List Item}{cs:List Frame}{a:Act}{w:World}{e:bF}(ab:∀id,x≠ .inBlock id)(he:e≠ .nrm)(h:qT P μ fV b (x::k) cs a w e):qT P μ fV b k cs a w e:=by
 cases e with
 |nrm=>exact absurd rfl he
 |exit id=>
  obtain⟨bS,aa,ad⟩:=h
  refine⟨bS,aa.trans ?_,ad⟩
  cases x<;>first|rfl|exact absurd rfl (ab _)
 |ret=>exact h
 |goto l=>exact h
 |b9 v=>exact h
def m5(P:Program)(need cm:Nat)(μ:bn)(H:J)(w:World)(b:Frame)(k:List Item)(cs0:List Frame)(fV:Machine):iL->Prop
 |.ok e r' bG bP aX=>∃aP w' dr b6,qT P aP fV b k b6 dr w' e/\iz need aP r' dr.tmps/\dr.tmps.size=cm/\br aP aX w'/\cb μ H w aP aX w'/\gz aP bG dr.defers/\hL aP b.kind cs0 bP b6
 |.fail _=>True
theorem m5.of_steps{cm:Nat}{μ gq:bn}{H H1:J}{w dI:World}{b:Frame}{k:List Item}{cs0:List Frame}{fV cV:Machine}{x:iL}(ak:br μ H w)(lr:br gq H1 dI)(h:Steps P fV cV)(a2:cb μ H w gq H1 dI)
  (aa:m5 P need cm gq H1 dI b k cs0 cV x):m5 P need cm μ H w b k cs0 fV x:=by
 cases x with
 |ok e r d q aX=>
  obtain⟨aP,w',dr,b6,s1,s2,bE,bX,cZ,ea⟩:=aa
  exact⟨aP,w',dr,b6,s1.of_steps h,s2,bE,bX,cb.trans ak lr a2 cZ,ea⟩
 |fail s=>trivial
def nJ(μ:bn)(b:Frame):Option Nat->Prop
 |none=>b.roundOf=none
 |some l=>∃i,μ l=some i/\b.roundOf=some i.bj
theorem nJ.mono{μ aP:bn}(hle:eV μ aP){b:Frame}{rd:Option Nat}(h:nJ μ b rd):nJ aP b rd:=by
 cases rd with
 |none=>exact h
 |some l=>obtain⟨i,aa,ad⟩:=h;exact⟨i,hle _ _ aa,ad⟩
theorem nJ.isSome{μ:bn}{b:Frame}{rd:Option Nat}(h:nJ μ b rd):rd.isSome=b.roundOf.isSome:=by
 cases rd with
 |none=>have:b.roundOf=none:=h;simp[this]
 |some l=>obtain⟨i,aa,ad⟩:=h;simp[ad]
def qU(P:Program)(need cm:Nat)(call:ay->List I->J->an):Prop:=
 ∀(ops:Array Oper) (id:Nat),(∀o∈ops.toList,∀t,o.dst=some t->t<cm)->pw ops (e1 ops.toList 0 [] [])=true->
  ∀(b:Frame) (inR:Bool) (r:aT) (d:List b1) (q:bJ) (H:J) (μ:bn) (w:World) (a:Act) (k:List Item) (cs0 cs:List Frame),inR=b.roundOf.isSome->iz need μ r a.tmps->a.tmps.size=cm->br μ H w->hz P μ->gz μ d a.defers->hL μ b.kind cs0 q cs->
   oL P need cm μ r H w b k cs0 (lone (b.atR a (.code (.region id ops true)::k)) cs w) (ib ops.toList 0 []) (rT P need inR call ops r d q H)
def Hn(P:Program)(need cm:Nat)(call:ay->List I->J->an):Prop:=
 ∀(f:Operand) (ps:Array Nat) (as cn:Code),ic cm (.rangeFunc f ps as cn)=true->∀(b:Frame) (rd:Option Nat) (r:aT) (d:List b1) (q:bJ) (H:J) (μ:bn) (w:World) (a:Act) (k:List Item) (cs0 cs:List Frame),nJ μ b rd->iz need μ r a.tmps->a.tmps.size=cm->br μ H w->hz P μ->gz μ d a.defers->hL μ b.kind cs0 q cs->
  m5 P need cm μ H w b k cs0 (lone (b.atR a (.code (.rangeFunc f ps as cn)::k)) cs w) (dG P need rd call (.rangeFunc f ps as cn) r d q H)
theorem OT{b:Frame}{a:Act}{c:Code}{k:List Item}{cs:List Frame}{w:World}:step P (lone (b.atR a (.inScope c::k)) cs w)=.next (lone (b.atR a k) cs w):=
 step_lone_go (by simp[stepG,stepG.exec,Frame.atR])
theorem Ho{b:Frame}{a:Act}{c:Code}{k:List Item}{cs:List Frame}{w:World}:step P (lone (b.atR a (.code (.scope c)::k)) cs w)=.next (lone (b.atR a (.code c::.inScope c::k)) cs w):=
 step_lone_go (by simp[stepG,stepG.exec,Frame.atR])
theorem oL.code{cm:Nat}{μ:bn}{r:aT}{H:J}{w:World}{b:Frame}{k:List Item}{cs0:List Frame}{fV:Machine}{loc:List (Nat×Acc)}{x:l5}(h:oL P need cm μ r H w b k cs0 fV loc x):
  m5 P need cm μ H w b k cs0 fV (pr need r loc x):=by
 cases x with
 |ok env d q aX=>
  obtain⟨aP,w',dr,b6,s1,s2,bE,bX,cZ,ea⟩:=h
  exact⟨aP,w',dr,b6,s1,s2.outs,bE,bX,cZ,ea⟩
 |b9 v d q aX=>
  obtain⟨aP,w',dr,b6,u,bS,s1,gi,s2,bE,bX,cZ,ea,e4⟩:=h
  refine⟨aP,w',dr,b6,⟨bS,u,⟨s2,gi⟩,s1⟩,λt a6=>?_,bX,cZ,ea,e4⟩
  rw[Hm]
  cases hf:hY t loc with
  |some x=>trivial
  |none=>exact bE t hf a6
 |fail s=>trivial
def Hp(P:Program)(need cm:Nat)(call:ay->List I->J->an)(rd:Option Nat)(c:Code):Prop:=
 ∀(b:Frame) (r:aT) (d:List b1) (q:bJ) (H:J) (μ:bn) (w:World) (a:Act) (k:List Item) (cs0 cs:List Frame),nJ μ b rd->iz need μ r a.tmps->a.tmps.size=cm->br μ H w->hz P μ->gz μ d a.defers->hL μ b.kind cs0 q cs->
  m5 P need cm μ H w b k cs0 (lone (b.atR a (.code c::k)) cs w) (dG P need rd call c r d q H)
theorem Hq{cm:Nat}{call:ay->List I->J->an}{rd:Option Nat}{c:Code}(iN:Hp P need cm call rd c)(b:Frame)(k:List Item)(cs0:List Frame):∀(n:Nat) (r:aT) (d:List b1) (q:bJ) (H:J) (μ:bn) (w:World) (a:Act) (cs:List Frame),nJ μ b rd->iz need μ r a.tmps->a.tmps.size=cm->br μ H w->hz P μ->gz μ d a.defers->hL μ b.kind cs0 q cs->
  m5 P need cm μ H w b k cs0 (lone (b.atR a (.code c::.inLoop c::k)) cs w) (ov (dG P need rd call c) n r d q H)
 |0,r,d,q,H,μ,w,a,cs,dg,ai,bL,ak,aj,aG,bq=>trivial
 |n+1,r,d,q,H,μ,w,a,cs,dg,ai,bL,ak,aj,aG,bq=>by
  have aa:=iN b r d q H μ w a (.inLoop c::k) cs0 cs dg ai bL ak aj aG bq
  unfold ov
  cases ab:dG P need rd call c r d q H with
  |fail s=>trivial
  |ok e r' bG bP aX=>
   rw[ab] at aa
   obtain⟨aP,w',dr,b6,s1,s2,bE,bX,cZ,ea,e4⟩:=aa
   by_cases he:e=.nrm
   · subst he
     have ba:=Hq iN b k cs0 n r' bG bP aX aP w' dr b6 (dg.mono cZ.le) s2 bE bX (aj.mono cZ.le) ea e4
     exact ba.of_steps ak bX (Steps.trans s1 (.one stepR_inLoop)) cZ
   · rw[sh he]
     exact⟨aP,w',dr,b6,s1.pass (λid h=>by cases h) he,s2,bE,bX,cZ,ea,e4⟩
theorem oN{cm:Nat}{call:ay->List I->J->an}(ah:lC P call)(hdr:qU P need cm call)(m2:Hn P need cm call)(rd:Option Nat):∀(c:Code),ic cm c=true->Hp P need cm call rd c
 |.skip,_=>λb r d q H μ w a k cs0 cs dg ai bL ak aj aG bq=>⟨μ,w,a,cs,.one stepR_skip,ai,bL,ak,cb.refl _ _ _,aG,bq⟩
 |.label l,_=>λb r d q H μ w a k cs0 cs dg ai bL ak aj aG bq=>⟨μ,w,a,cs,.one stepR_label,ai,bL,ak,cb.refl _ _ _,aG,bq⟩
 |.exit id,_=>λb r d q H μ w a k cs0 cs dg ai bL ak aj aG bq=>⟨μ,w,a,cs,⟨k,rfl,Steps.refl _ _⟩,ai,bL,ak,cb.refl _ _ _,aG,bq⟩
 |.ret,_=>λb r d q H μ w a k cs0 cs dg ai bL ak aj aG bq=>⟨μ,w,a,cs,⟨k,Steps.refl _ _⟩,ai,bL,ak,cb.refl _ _ _,aG,bq⟩
 |.goto l,_=>λb r d q H μ w a k cs0 cs dg ai bL ak aj aG bq=>trivial
 |.refuse s,_=>λb r d q H μ w a k cs0 cs dg ai bL ak aj aG bq=>trivial
 |.region id ops draw,dw=>λb r d q H μ w a k cs0 cs dg ai bL ak aj aG bq=>by
  simp only[ic,Bool.and_eq_true,List.all_eq_true] at dw
  have oM:∀o∈ops.toList,∀t,o.dst=some t->t<cm:=λo bd t a6=>by
   have:=dw.1 o bd
   rw[a6] at this
   simpa using this
  cases draw with
  |false=>
   have h:=Co (P:=P) (need:=need) (k:=k) ah oM (b:=b) (inR:=rd.isSome) dg.isSome (r:=r) (cs0:=cs0) ops.toList 0 [] 0 [] d q μ H w a cs rfl rfl (iS.init ai) bL ak aj aG bq
   have au:List.range' 0 ops.toList.length=List.range ops.size:=by rw[List.range_eq_range'];simp
   rw[au] at h
   have ad:=oL.code h
   have jO:ou P need ops=⟨qS P need ops ops.toList [] 0,oK P need ops ops.toList [] 0⟩:=by
    unfold ou;rw[Cj];simp
   simp only[dG,jO]
   exact m5.of_steps ak ak (.one stepR_region) (cb.refl _ _ _) ad
  |true=>
   have Cp:pw ops (e1 ops.toList 0 [] [])=true:=by simpa using dw.2
   have h:=hdr ops id oM Cp b rd.isSome r d q H μ w a k cs0 cs dg.isSome ai bL ak aj aG bq
   simp only[dG]
   exact oL.code h
 |.seq x y,dw=>λb r d q H μ w a k cs0 cs dg ai bL ak aj aG bq=>by
  simp only[ic,Bool.and_eq_true] at dw
  have aa:=oN ah hdr m2 rd x dw.1 b r d q H μ w a (.code y::k) cs0 cs dg ai bL ak aj aG bq
  simp only[dG]
  cases ab:dG P need rd call x r d q H with
  |fail s=>trivial
  |ok e r' bG bP aX=>
   rw[ab] at aa
   obtain⟨aP,w',dr,b6,s1,s2,bE,bX,cZ,ea,e4⟩:=aa
   by_cases he:e=.nrm
   · subst he
     have ad:=oN ah hdr m2 rd y dw.2 b r' bG bP aX aP w' dr k cs0 b6 (dg.mono cZ.le) s2 bE bX (aj.mono cZ.le) ea e4
     exact ad.of_steps ak bX (Steps.head stepR_seq s1) cZ
   · rw[sh he]
     exact⟨aP,w',dr,b6,(s1.pass (λid h=>by cases h) he).of_steps (.one stepR_seq),s2,bE,bX,cZ,ea,e4⟩
 |.cond c x y,dw=>λb r d q H μ w a k cs0 cs dg ai bL ak aj aG bq=>by
  simp only[ic,Bool.and_eq_true] at dw
  simp only[dG]
  have gr:=(iS.init (P:=P) ai).eval (a:=a) aj c
  split
  · rename_i kS
    rw[kS] at gr
    have h:=oN ah hdr m2 rd x dw.1 b r d q H μ w a k cs0 cs dg ai bL ak aj aG bq
    exact h.of_steps ak ak (.one (stepR_cond (t:=true) gr)) (cb.refl _ _ _)
  · rename_i kS
    rw[kS] at gr
    have h:=oN ah hdr m2 rd y dw.2 b r d q H μ w a k cs0 cs dg ai bL ak aj aG bq
    exact h.of_steps ak ak (.one (stepR_cond (t:=false) gr)) (cb.refl _ _ _)
  · trivial
 |.block id c,dw=>λb r d q H μ w a k cs0 cs dg ai bL ak aj aG bq=>by
  have aa:=oN ah hdr m2 rd c dw b r d q H μ w a (.inBlock id::k) cs0 cs dg ai bL ak aj aG bq
  simp only[dG]
  cases ab:dG P need rd call c r d q H with
  |fail s=>trivial
  |ok e r' bG bP aX=>
   rw[ab] at aa
   obtain⟨aP,w',dr,b6,s1,s2,bE,bX,cZ,ea,e4⟩:=aa
   cases e with
   |nrm=>exact⟨aP,w',dr,b6,Steps.head stepR_block (Steps.trans s1 (.one stepR_inBlock)),s2,bE,bX,cZ,ea,e4⟩
   |exit i=>
    obtain⟨bS,aA,aC⟩:=s1
    by_cases zi:i=id
    · simp only[zi,if_true]
      subst zi
      have bN:exitTo i bS=some k:=by rw[aA];simp[exitTo]
      exact⟨aP,w',dr,b6,Steps.head stepR_block (Steps.trans aC (.one (stepR_exit bN))),s2,bE,bX,cZ,ea,e4⟩
    · simp only[if_neg zi]
      have:(id==i)=false:=by simp;exactλh=>zi h.symm
      exact⟨aP,w',dr,b6,⟨bS,aA.trans (by simp[exitTo,this]),Steps.head stepR_block aC⟩,s2,bE,bX,cZ,ea,e4⟩
   |ret=>obtain⟨bS,aC⟩:=s1;exact⟨aP,w',dr,b6,⟨bS,Steps.head stepR_block aC⟩,s2,bE,bX,cZ,ea,e4⟩
   |goto l=>exact s1.elim
   |b9 v=>obtain⟨bS,u,aA,aC⟩:=s1;exact⟨aP,w',dr,b6,⟨bS,u,aA,Steps.head stepR_block aC⟩,s2,bE,bX,cZ,ea,e4⟩
 |.loop c,dw=>λb r d q H μ w a k cs0 cs dg ai bL ak aj aG bq=>by
  have h:=Hq (oN ah hdr m2 rd c dw) b k cs0 100000 r d q H μ w a cs dg ai bL ak aj aG bq
  simp only[dG]
  exact h.of_steps ak ak (.one stepR_loop) (cb.refl _ _ _)
 |.scope c,dw=>λb r d q H μ w a k cs0 cs dg ai bL ak aj aG bq=>by
  have aa:=oN ah hdr m2 rd c dw b r d q H μ w a (.inScope c::k) cs0 cs dg ai bL ak aj aG bq
  simp only[dG]
  cases ab:dG P need rd call c r d q H with
  |fail s=>trivial
  |ok e r' bG bP aX=>
   rw[ab] at aa
   obtain⟨aP,w',dr,b6,s1,s2,bE,bX,cZ,ea,e4⟩:=aa
   by_cases he:e=.nrm
   · subst he
     exact⟨aP,w',dr,b6,Steps.head Ho (Steps.trans s1 (.one OT)),s2,bE,bX,cZ,ea,e4⟩
   · exact⟨aP,w',dr,b6,(s1.pass (λid h=>by cases h) he).of_steps (.one Ho),s2,bE,bX,cZ,ea,e4⟩
 |.rangeFunc f ps as cn,dw=>λb r d q H μ w a k cs0 cs dg ai bL ak aj aG bq=>m2 f ps as cn dw b rd r d q H μ w a k cs0 cs dg ai bL ak aj aG bq
end
end aD
namespace aD
open Go
section
variable {P:Program} {need:Nat}
theorem OU{w jm:World}{cs:List Frame}{b:Frame}{a:Act}{l:Nat}{k:List Item}{s:Sem Next}{zj:Frame}
  (ct:(stepG P true {frame:=zj,callers:=cs,status:=.running,dying:=none} jm).bare=(stepG.apply P true (b.atR a (.inRangeFunc l::k)) cs none s w).bare):
  (∀v w',s.run P w=.ok (.value v) w'->Steps P (lone zj cs jm) (lone ((b.atR a (.inRangeFunc l::k)).finish v) cs w'))/\
  (∀f args w',s.run P w=.ok (.enter f args) w'->Steps P (lone zj cs jm) (lone (Frame.enter P f args .normal) (b.atR a (.inRangeFunc l::k)::cs) w'))/\
  (∀oH f tmps assign body w',s.run P w=.ok (.round oH f tmps assign body) w'->Steps P (lone zj cs jm) (lone (Frame.round oH f tmps assign body .normal) (b.atR a (.inRangeFunc l::k)::cs) w')):=by
 refine⟨λv w' ai=>.one (step_lone_go ?_),λf args w' ai=>.one (step_lone_go ?_),λl f tmps assign body w' ai=>.one (step_lone_go ?_)⟩
 · rw[ct];simp[stepG.apply,ai]
 · rw[ct];simp[stepG.apply,ai,Frame.atR]
 · rw[ct];simp[stepG.apply,ai]
theorem OV{b:Frame}{a:Act}{f:Operand}{ps:Array Nat}{as cn:Code}{k:List Item}{cs:List Frame}{w dI:World}{l:Nat}{mark:List Deferred}(he:(Instr.enterLoop b.fn a.tmps ps as cn b.roundOf).run P w=.ok (l,mark) dI):
  (stepG P true {frame:=b.atR a (.code (.rangeFunc f ps as cn)::k),callers:=cs,status:=.running,dying:=none} w).bare=
   (stepG.apply P true (b.atR {tmps:=a.tmps,defers:=mark++a.defers} (.inRangeFunc l::k)) cs none (do let d<-Deferred.ofValue (a.eval f) #[.func (.yield l) #[] #[]];invoke d.target d.args) dI).bare:=by
 have Hr:=Frame.eval_atR b {tmps:=a.tmps,defers:=mark++a.defers} (.inRangeFunc l::k)
 simp only[Frame.atR] at Hr
 have OW:({tmps:=a.tmps,defers:=mark++a.defers}:Act).eval=a.eval:=funext λx=>by cases x<;>rfl
 simp only[stepG,stepG.exec,Frame.atR,Sem.runT_eq,he,GStep.bare_after]
 have OX:resolve a.eval {callee:=.value f,args:=#[.const (.func (.yield l) #[] #[])],argTypes:=#[]} 0=Deferred.ofValue (a.eval f) #[.func (.yield l) #[] #[]]:=by simp[resolve,Act.eval]
 rw[Hr,OW,OX]
theorem OY{b:Frame}{a:Act}{l:Nat}{k:List Item}{cs:List Frame}{w w':World}{m6:Option Code}(he:(Instr.endLoop l).run P w=.ok m6 w'):
  step P (lone (b.atR a (.endRangeFunc l::k)) cs w)=.next (lone (b.atR a ((m6.map Item.code).toList++k)) cs w'):=
 step_lone_go (by simp[stepG,stepG.exec,Frame.atR,Sem.runT_eq,he])
theorem OZ{cm:Nat}{b:Frame}{a:Act}{r:aT}{ps:Array Nat}{as cn:Code}(dw:ic cm as=true/\ic cm cn=true/\∀t∈ps.toList,t<cm){μ:bn}{H:J}{w:World}{rd:Option Nat}(dg:nJ μ b rd)(ai:iz need μ r a.tmps)(bL:a.tmps.size=cm)(ak:br μ H w)
  {d:List b1}(aG:gz μ d a.defers){l:Nat}{bG:List b1}{H1:J}
  (au:l=nx rd H.n)(he:vM need rd r ps.toList as cn d H=some (bG,H1)):
  ∃aP w' mark i,(Instr.enterLoop b.fn a.tmps ps as cn b.roundOf).run P w=.ok (i.bj,mark) w'/\aP l=some i/\br aP H1 w'/\cb μ H w aP H1 w'/\gz aP bG (mark++a.defers):=by
 subst bL
 unfold nx at au
 unfold vM at he
 cases rd with
 |none=>
  have af:b.roundOf=none:=dg
  cases he
  obtain⟨bb,a3⟩:=ak.alloc (.defrd (some [])) (.deferred (some [])) 0 ⟨[],World.heap_alloc_new _ _,rfl⟩
  have hu:gb μ H.n ⟨w.heap.size,0,0⟩ H.n=some ⟨w.heap.size,0,0⟩:=gf _ _ _
  have zk:=bb.nB ⟨(w.alloc (.deferred (some []))).heap.size,0,0⟩
  obtain⟨aV,aN⟩:=bb.alloc (.loop .ready none need r ps.toList as cn H.n) (.loop {state:=.ready,pending:=none,fn:=b.fn,tmps:=a.tmps,params:=ps,assign:=as,body:=cn,defers:=w.heap.size}) 0
   ⟨a.tmps,⟨w.heap.size,0,0⟩,b.fn,zk _ _ hu,World.heap_alloc_new _ _,ai.mono (a3.le.trans zk),dw.1,dw.2.1,dw.2.2⟩
  refine⟨_,_,[{target:=.collected w.heap.size,args:=#[]}],⟨(w.alloc (.deferred (some []))).heap.size,0,0⟩,?_,?_,aV,cb.trans ak bb a3 aN,⟨_,_,rfl,.collected _ ⟨w.heap.size,0,0⟩ (zk _ _ hu),aG.mono (a3.le.trans zk)⟩⟩
  · rw[af]
    simp only[Instr.enterLoop,Sem.run_bind,run_newObj,Result.andThen_ok,Sem.run_pure]
    rfl
  · rw[au];exact gf _ _ _
 |some qp=>
  obtain⟨j,aL,af⟩:=dg
  simp only at au he
  subst au
  cases aj:H.get qp with
  |none=>rw[aj] at he;cases he
  |some Cq=>
  rw[aj] at he
  cases Cq<;>try (cases he;done)
  case loop oO Hs ZW ZX Ht Hu Hv ee=>
   cases he
   obtain⟨cf,ho,fn,aA,aC,_⟩:=ak.rel _ _ j aj aL
   have hle:=ak.nB ⟨w.heap.size,0,0⟩
   obtain⟨aV,aN⟩:=ak.alloc (.loop .ready none need r ps.toList as cn ee) (.loop {state:=.ready,pending:=none,fn:=b.fn,tmps:=a.tmps,params:=ps,assign:=as,body:=cn,defers:=ho.bj}) 0
    ⟨a.tmps,ho,b.fn,hle _ _ aA,World.heap_alloc_new _ _,ai.mono hle,dw.1,dw.2.1,dw.2.2⟩
   refine⟨_,_,[],⟨w.heap.size,0,0⟩,?_,?_,aV,aN,aG.mono hle⟩
   · rw[af]
     have oI:(Instr.getLoop j.bj).run P w=.ok {state:=oO,pending:=Hs,fn:=fn,tmps:=cf,params:=⟨Ht⟩,assign:=Hu,body:=Hv,defers:=ho.bj} w:=by
      have:(getObj j.bj).run P w=.ok (.loop {state:=oO,pending:=Hs,fn:=fn,tmps:=cf,params:=⟨Ht⟩,assign:=Hu,body:=Hv,defers:=ho.bj}) w:=by simp[getObj,Sem.run,aC]
      simp only[Instr.getLoop,Sem.run_bind,this];rfl
     simp only[Instr.enterLoop,Sem.run_bind,oI,Result.andThen_ok,Sem.run_pure,run_newObj]
     rfl
   · exact gf _ _ _
theorem O0{μ:bn}{H:J}{w:World}(ak:br μ H w){l:Nat}{i:eG}(au:μ l=some i){st:LoopState}{fL:Option Code}{gP:Nat}{rg:aT}{ps:List Nat}{as cn:Code}{ee:Nat}(aj:H.get l=some (.loop st fL gP rg ps as cn ee))(ct:st≠ .busy):
  ∃w',(Instr.endLoop i.bj).run P w=.ok fL w'/\br μ (H.set l (some (.loop .exhausted fL gP rg ps as cn ee))) w'/\cb μ H w μ (H.set l (some (.loop .exhausted fL gP rg ps as cn ee))) w':=by
 obtain⟨cf,ho,fn,aA,aC,bN⟩:=ak.rel _ _ i aj au
 have cy:=(ak.lt _ _ au).2
 obtain⟨bb,a3⟩:=ak.update (w':={w with heap:=w.heap.setIfInBounds i.bj (.loop {state:=.exhausted,pending:=fL,fn:=fn,tmps:=cf,params:=⟨ps⟩,assign:=as,body:=cn,defers:=ho.bj})}) (o':=.loop .exhausted fL gP rg ps as cn ee) aj rfl au (by simp) (λr ai=>by simp[Array.getElem?_setIfInBounds];intro e;exact absurd e.symm ai) rfl rfl rfl
  ⟨cf,ho,fn,aA,by simp[cy],bN⟩
 refine⟨_,?_,bb,a3⟩
 have g5:(getObj i.bj).run P w=.ok (.loop {state:=st,pending:=fL,fn:=fn,tmps:=cf,params:=⟨ps⟩,assign:=as,body:=cn,defers:=ho.bj}) w:=by simp[getObj,Sem.run,aC]
 have e8:(setObj i.bj (.loop {state:=.exhausted,pending:=fL,fn:=fn,tmps:=cf,params:=⟨ps⟩,assign:=as,body:=cn,defers:=ho.bj})).run P w=.ok () {w with heap:=w.heap.setIfInBounds i.bj (.loop {state:=.exhausted,pending:=fL,fn:=fn,tmps:=cf,params:=⟨ps⟩,assign:=as,body:=cn,defers:=ho.bj})}:=by simp[setObj,Sem.run,aC]
 have af:(st==LoopState.busy)=false:=by cases st<;>first|rfl|exact absurd rfl ct
 simp only[Instr.endLoop,Instr.getLoop,Sem.run_bind,g5,Result.andThen_ok,Sem.run_pure,af,Bool.false_eq_true,if_false,e8]
theorem Cr{cm:Nat}{call:ay->List I->J->an}(ah:lC P call):Hn P need cm call:=by
 intro f ps as cn dw b rd r d q H μ w a k cs0 cs dg ai bL ak aj aG bq
 simp only[ic,Bool.and_eq_true,List.all_eq_true] at dw
 have O1:∀t∈ps.toList,t<cm:=λt a6=>by simpa using dw.1.1 t a6
 have gr:=(iS.init (P:=P) ai).eval (a:=a) aj f
 simp only[dG]
 cases ct:vM need rd r ps.toList as cn d H with
 |none=>trivial
 |some p=>
  obtain⟨bG,H1⟩:=p
  simp only
  obtain⟨gq,dI,mark,i,aa,ad,ax,aO,bZ⟩:=OZ (P:=P) (b:=b) (a:=a) (ps:=ps) ⟨dw.1.2,dw.2,O1⟩ dg ai bL ak aG rfl ct
  have O2:=gr.mono aO.le
  have O3:=OV (P:=P) (f:=f) (k:=k) (cs:=cs) aa
  obtain⟨ao,ar,aZ⟩:=OU O3
  have kS:=G_ (P:=P) (w:=dI) ax O2 (args:=[.cc (nx rd H.n)]) (vs:=[.func (.yield i.bj) #[] #[]]) ⟨_,_,rfl,⟨i,ad,rfl⟩,rfl⟩
  have fin:∀(res:an),qR P (lone (b.atR a (.code (.rangeFunc f ps as cn)::k)) cs w) (b.atR {tmps:=a.tmps,defers:=mark++a.defers} (.inRangeFunc i.bj::k)) cs (Ends gq H1 dI res)->
    m5 P need cm μ H w b k cs0 (lone (b.atR a (.code (.rangeFunc f ps as cn)::k)) cs w) (kR (nx rd H.n) r bG q res):=by
   intro res au
   obtain⟨e,wA,fF,jn⟩:=au
   cases res with
   |fail s=>trivial
   |b9 v a0=>
    obtain⟨aP,u,rfl,aV,aN,cz⟩:=fF
    exact⟨aP,wA,{tmps:=a.tmps,defers:=mark++a.defers},cs,⟨.inRangeFunc i.bj::k,u,⟨aV,trivial⟩,jn⟩,ai.mono (aO.le.trans cz.le),bL,aN,cb.trans ak ax aO cz,bZ.mono cz.le,bq.mono (aO.le.trans cz.le)⟩
   |ret v a0=>
    obtain⟨aP,u,rfl,aV,aN,cz⟩:=fF
    have nG:(b.atR {tmps:=a.tmps,defers:=mark++a.defers} (.inRangeFunc i.bj::k)).finish u=b.atR {tmps:=a.tmps,defers:=mark++a.defers} (.endRangeFunc i.bj::k):=rfl
    simp only[nG] at jn
    unfold kR
    simp only
    cases jo:a0.get (nx rd H.n) with
    |none=>trivial
    |some Cq=>
     cases Cq<;>try trivial
     case loop st fL gP rg O4 yL yM ee=>
      simp only
      by_cases af:st=.busy
      · subst af;trivial
      · obtain⟨Hw,aA,aC,bN⟩:=O0 (P:=P) aN (cz.le _ _ ad) jo af
        have jR:=Steps.trans jn (.one (OY (b:=b) (a:={tmps:=a.tmps,defers:=mark++a.defers}) (k:=k) (cs:=cs) aA))
        have hle:=aO.le.trans (cz.le.trans bN.le)
        have nK:=cb.trans ak aN (cb.trans ak ax aO cz) bN
        have done:∀(e:bF),qT P aP (lone (b.atR a (.code (.rangeFunc f ps as cn)::k)) cs w) b k cs {tmps:=a.tmps,defers:=mark++a.defers} Hw e->
          m5 P need cm μ H w b k cs0 (lone (b.atR a (.code (.rangeFunc f ps as cn)::k)) cs w) (.ok e r bG q (a0.set (nx rd H.n) (some (.loop .exhausted fL gP rg O4 yL yM ee)))):=λe he=>
         ⟨aP,Hw,{tmps:=a.tmps,defers:=mark++a.defers},cs,he,ai.mono hle,bL,aC,nK,bZ.mono (cz.le.trans bN.le),bq.mono hle⟩
        have ZY:∀X:iL,(match st with|.busy=>iL.fail "rangeFunc: busy" |_=>X)=X:=λX=>by cases st<;>first|rfl|exact absurd rfl af
        cases st<;>first
         |exact absurd rfl af
         |(cases fL with
          |none=>exact done .nrm jR
          |some c=>
           cases c<;>first
            |trivial
            |exact done .ret ⟨k,jR⟩
            |exact done (.exit _) ⟨k,rfl,jR⟩)
  cases Hx:rS (dU 0 [] r (cT P need [] f)) [.cc (nx rd H.n)] H1 with
  |call g args az=>
   rw[Hx] at kS
   obtain⟨rfl,vs,aA,aC⟩:=kS
   simp only
   cases b7:(call (.fn g) args az).kY with
   |false=>obtain⟨s,hs⟩:=zf b7;rw[hs];trivial
   |true=>
    apply fin
    rcases ah.fn g args az b7 gq dI vs ax (aj.mono aO.le) aC with⟨v,w',aV,aN⟩|⟨aV,aN⟩
    · rw[<-aA] at aV
      exact⟨_,_,aN,ao _ _ aV⟩
    · rw[<-aA] at aV
      exact(Hd (Cg b7) aN _ _).of_steps (ar _ _ _ aV)
  |cc bB args az=>
   rw[Hx] at kS
   obtain⟨rfl,en,vs,h4,aA,aC⟩:=kS
   simp only
   cases b7:(call (.cc bB) args az).kY with
   |false=>obtain⟨s,hs⟩:=zf b7;rw[hs];trivial
   |true=>
    apply fin
    obtain⟨ZZ,tmps,yL,yM,aV,aN⟩:=ah.cc bB args az b7 gq dI en vs ax (aj.mono aO.le) h4 aC
    rw[<-aA] at aV
    exact(aN _ _).of_steps (aZ _ _ _ _ _ _ aV)
  |val v az=>trivial
  |b9 v az=>trivial
  |jG x=>trivial
  |rQ=>trivial
  |fail s=>trivial
end
end aD
namespace aD
open Go
section
variable {P:Program}
theorem Cs:∀(l:List I) (i:Nat) (r:aT) (t:Nat),(ny i l r).get (gO t)=if i<=t/\t<i+l.length then(l[t-i]?).getD .bad else r.get (gO t)
 |[],i,r,t=>by
  simp only[ny,List.length_nil]
  rw[if_neg (by omega)]
 |v::l,i,r,t=>by
  simp only[ny,Cs l (i+1),aT.b_,List.length_cons]
  by_cases h:i+1<=t/\t<i+1+l.length
  · rw[if_pos h,if_pos (by omega)]
    have:t-i=(t-(i+1))+1:=by omega
    rw[this];simp
  · rw[if_neg h]
    by_cases e:t=i
    · subst e;rw[if_pos rfl,if_pos (by omega)];simp
    · rw[if_neg e,if_neg (by omega)]
theorem O5{need:Nat}{μ:bn}{args:List I}{vs:List Value}(h:cd μ args vs)(n:Nat):iz need μ (ny 0 args .leaf) (⟨vs⟩++Array.replicate n undef):=by
 intro t _
 rw[Cs]
 have au:=h.length
 by_cases a6:t<args.length
 · rw[if_pos (by omega)]
   simp only[Nat.sub_zero]
   obtain⟨v,aE,ai⟩:=h.get (List.getElem?_eq_getElem a6)
   rw[List.getElem?_eq_getElem a6]
   rw[Array.getD_eq_getD_getElem?,Array.getElem?_append_left (by simp;omega)]
   simp only[List.getElem?_toArray,aE,Option.getD_some]
   exact ai
 · rw[if_neg (by omega),aT.mS];trivial
theorem O6{need:Nat}{μ:bn}{H:J}{w:World}(ak:br μ H w){r:aT}{cf:Array Value}(ai:iz need μ r cf){x:ResultVar}{v:I}(h:qs P need r H x=some v):
  ∃u,((match x with|.tmp t=>pure (cf.getD t undef)|.cell a t=>do loadVar t (<-asAddr (cf.getD a undef)):Sem Value)).run P w=.ok u w/\bc μ v u:=by
 unfold qs at h
 cases x with
 |tmp t=>
  simp only at h
  split at h
  · rename_i af;cases h;exact⟨_,rfl,ai t af⟩
  · cases h
 |cell t ty=>
  simp only at h
  split at h
  · rename_i af
    have aa:=ai t af
    split at h
    · rename_i b off n bl a2 aK
      rw[bl] at aa
      obtain⟨i,ae,aE⟩:=aa
      split at h
      · rename_i cs au
        cases h
        obtain⟨us,aV,aN⟩:=qy (P:=P) ak ae au
        refine⟨.agg ⟨us⟩,?_,us,rfl,aN⟩
        simp[aE,asAddr,loadVar,tV a2,run_sizeOf aK,aV]
      · cases h
    · rename_i b off bl a2
      rw[bl] at aa
      obtain⟨i,ae,aE⟩:=aa
      obtain⟨u,aV,aN⟩:=BH (P:=P) ak ae h
      refine⟨u,?_,aN⟩
      simp only[aE,asAddr,loadVar,Sem.run_bind,Sem.run_pure,Result.andThen_ok,tV a2,Bool.false_eq_true,if_false,aV]
    · cases h
  · cases h
theorem Ct{need:Nat}{μ:bn}{H:J}{w:World}(ak:br μ H w){r:aT}{cf:Array Value}(ai:iz need μ r cf):∀(l:List ResultVar) (vs:List I),mR (qs P need r H) l=some vs->
  ∃us:List Value,(l.mapM (λx=>(match x with|.tmp t=>pure (cf.getD t undef)|.cell a t=>do loadVar t (<-asAddr (cf.getD a undef)):Sem Value))).run P w=.ok us w/\cd μ vs us
 |[],vs,h=>by cases h;exact⟨[],rfl,rfl⟩
 |x::l,vs,h=>by
  simp only[mR] at h
  split at h
  · rename_i v pC aa ad
    cases h
    obtain⟨u,aV,aN⟩:=O6 ak ai aa
    obtain⟨us,cz,jj⟩:=Ct ak ai l pC ad
    refine⟨u::us,?_,⟨_,_,rfl,aN,jj⟩⟩
    rw[List.mapM_cons]
    simp only[Sem.run_bind]
    rw[aV]
    simp only[Result.andThen_ok,Sem.run_bind,cz,Sem.run_pure]
  · cases h
theorem Hy{need:Nat}{μ:bn}{H:J}{w:World}(ak:br μ H w){fn:Func}{r:aT}{cf:Array Value}(ai:iz need μ r cf){v:I}(h:pv P need fn r H=some v):
  ∃u,(results fn cf).run P w=.ok u w/\bc μ v u:=by
 unfold pv at h
 have h5:∀us:List Value,(fn.results.toList.mapM (λx=>(match x with|.tmp t=>pure (cf.getD t undef)|.cell a t=>do loadVar t (<-asAddr (cf.getD a undef)):Sem Value))).run P w=.ok us w->
   (results fn cf).run P w=.ok (if h:(⟨us⟩:Array Value).size=1 then(⟨us⟩:Array Value)[0] else .tuple ⟨us⟩) w:=by
  intro us lz
  have hm:(fn.results.mapM (λx=>(match x with|.tmp t=>pure (cf.getD t undef)|.cell a t=>do loadVar t (<-asAddr (cf.getD a undef)):Sem Value))).run P w=.ok ⟨us⟩ w:=by
   rw[Array.mapM_eq_mapM_toList]
   simp only[map_eq_pure_bind,Sem.run_bind]
   rw[lz];rfl
  unfold results
  simp only[Sem.run_bind]
  refine Eq.trans (congrArg (λq=>Result.andThen q _) hm) ?_
  rfl
 split at h
 · rename_i v' a2
   cases h
   obtain⟨us,aV,aN⟩:=Ct ak ai _ _ a2
   obtain⟨u,qF,rfl,cz,jj⟩:=aN
   cases jj
   exact⟨_,h5 _ aV,cz⟩
 · rename_i vs dC a2
   cases h
   obtain⟨us,aV,aN⟩:=Ct ak ai _ _ a2
   refine⟨_,h5 _ aV,?_⟩
   have:¬((⟨us⟩:Array Value).size=1):=by
    intro e
    have au:=aN.length
    have cY:us.length=1:=e
    rw[cY] at au
    obtain⟨x,ab⟩:=List.length_eq_one_iff.1 au
    exact dC x ab
   rw[dif_neg this]
   exact⟨us,rfl,aN⟩
 · cases h
theorem Hz{call:ay->List I->J->an}(ah:lC P call)(hdr:∀need cm,qU P need cm call){f:FuncId}{fn:Func}(hf:P.funcs[f]? =some fn){kind:CallKind}{c:Code}(af:fn.body=some c)(dw:ic fn.ntmps c=true)
  {args:List I}{vs:List Value}{q:bJ}{H:J}{μ:bn}{w:World}{cs0 cs:List Frame}(aE:cd μ args vs)(ak:br μ H w)(aj:hz P μ)(bq:hL μ kind cs0 q cs):
  m5 P (d_ fn) fn.ntmps μ H w {(default:Frame) with fn:=f,kind:=kind} [] cs0 (lone (Frame.enter P f ⟨vs⟩ kind) cs w) (l6 P call fn args q H):=by
 unfold l6
 rw[af]
 simp only
 cases hle:Nat.ble args.length fn.ntmps with
 |false=>trivial
 |true=>
  have BY:args.length<=fn.ntmps:=by simpa using hle
  have hlen:=aE.length
  simp only
  have O7:Frame.enter P f ⟨vs⟩ kind=({(default:Frame) with fn:=f,kind:=kind}:Frame).atR {tmps:=⟨vs⟩++Array.replicate (fn.ntmps-vs.length) undef,defers:=[]} [.code c]:=by
   simp[Frame.enter,Frame.atR,hf,af]
   rfl
  rw[O7]
  exact oN ah (hdr _ _) (Cr ah) none c dw {(default:Frame) with fn:=f,kind:=kind} (ny 0 args .leaf) [] q H μ w {tmps:=⟨vs⟩++Array.replicate (fn.ntmps-vs.length) undef,defers:=[]} [] cs0 cs rfl (O5 aE _) (by simp;omega) ak aj rfl bq
def wB(P:Program):Prop:=∀(g:FuncId) (gH:Func) (gc:Code),P.funcs[g]? =some gH->gH.body=some gc->ic gH.ntmps gc=true/\(gH.name== "runtime.NumGoroutine")=false
theorem Cu{f:FuncId}{fn:Func}{c:Code}(hf:P.funcs[f]? =some fn)(af:fn.body=some c)(aK:(fn.name== "runtime.NumGoroutine")=false)(args:Array Value)(w:World):(callFunc f args).run P w=.ok (.enter f args) w:=by
 have O8:¬fn.name= "runtime.NumGoroutine" :=by simpa using aK
 simp[callFunc,hf,O8,af]
def m7(μ:bn):Option I->FrameMode->Prop
 |none,m=>m=.returning
 |some v,m=>∃u,m=.panicking [{v:=u,recovered:=false}]/\bc μ v u
theorem m7.mono{μ aP:bn}(hle:eV μ aP){ez:Option I}{m:FrameMode}(h:m7 μ ez m):m7 aP ez m:=by
 cases ez with
 |none=>exact h
 |some v=>obtain⟨u,aa,ad⟩:=h;exact⟨u,aa,ad.mono hle⟩
theorem m7.run{μ:bn}{ez:Option I}{m:FrameMode}(h:m7 μ ez m):m≠ .run:=by
 cases ez with
 |none=>intro e;cases h.symm.trans e
 |some v=>obtain⟨u,aa,_⟩:=h;intro e;cases aa.symm.trans e
theorem m7.q{μ:bn}{ez:Option I}{c:Frame}{cs:List Frame}(h:m7 μ ez c.mode):hL μ .deferred (c::cs) (tQ ez) (c::cs):=by
 cases ez with
 |none=>
  refine⟨rfl,λcJ aw=>?_⟩
  have al:c.mode=.returning:=h
  simp only[tryRecover,aw,al]
 |some v=>obtain⟨u,aa,ad⟩:=h;exact⟨rfl,rfl,c,cs,u,rfl,aa,ad⟩
theorem O9{μ:bn}{H:J}{w:World}(ak:br μ H w){r:Nat}{i:eG}(ae:μ r=some i){cs:List b1}(aj:H.get r=some (.defrd (some cs))):
  ∃w' l,(Instr.takeDeferred i.bj).run P w=.ok l w'/\gz μ cs l/\br μ (H.set r (some (.defrd none))) w'/\cb μ H w μ (H.set r (some (.defrd none))) w':=by
 obtain⟨l,aA,aC⟩:=ak.rel _ _ i aj ae
 have cy:=(ak.lt _ _ ae).2
 obtain⟨bb,a3⟩:=ak.update (w':={w with heap:=w.heap.setIfInBounds i.bj (.deferred none)}) (o':=.defrd none) aj rfl ae (by simp) (λr ai=>by simp[Array.getElem?_setIfInBounds];intro e;exact absurd e.symm ai) rfl rfl rfl
  (show({w with heap:=w.heap.setIfInBounds i.bj (.deferred none)}:World).heap[i.bj]? =some (.deferred none) by simp[cy])
 refine⟨_,l,?_,aC,bb,a3⟩
 have g5:(getObj i.bj).run P w=.ok (.deferred (some l)) w:=by simp[getObj,Sem.run,aA]
 have e8:(setObj i.bj (.deferred none)).run P w=.ok () {w with heap:=w.heap.setIfInBounds i.bj (.deferred none)}:=by simp[setObj,Sem.run,aA]
 simp only[Instr.takeDeferred,Sem.run_bind,g5,Result.andThen_ok,e8,Sem.run_pure]
end
end aD
namespace aD
open Go
section
variable {P:Program}
theorem step_take{cJ:Frame}{cs:List Frame}{w w':World}{b:Nat}{args:Array Value}{bm calls:List Deferred}(hm:cJ.mode≠ .run)(aG:cJ.defers={target:=.collected b,args:=args}::bm)(a6:(Instr.takeDeferred b).run P w=.ok calls w'):
  step P (lone cJ cs w)=.next (lone {cJ with defers:=calls++bm} cs w'):=by
 refine step_lone_go ?_
 cases Cv:cJ.mode with
 |run=>exact absurd Cv hm
 |returning=>simp[stepG,unwind,Cv,aG,Sem.runT_eq,a6]
 |panicking chain=>simp[stepG,unwind,Cv,aG,Sem.runT_eq,a6]
theorem Ends.trans{μ gq:bn}{H H1:J}{w dI:World}{x:an}{e:Ending}{w':World}(ak:br μ H w)(lr:br gq H1 dI)(a2:cb μ H w gq H1 dI)(h:Ends gq H1 dI x e w'):Ends μ H w x e w':=by
 cases x with
 |ret v aX=>obtain⟨aP,u,aa,ad,ax,aO⟩:=h;exact⟨aP,u,aa,ad,ax,cb.trans ak lr a2 aO⟩
 |b9 v aX=>obtain⟨aP,u,aa,ad,ax,aO⟩:=h;exact⟨aP,u,aa,ad,ax,cb.trans ak lr a2 aO⟩
 |fail s=>trivial
theorem Cw{call:ay->List I->J->an}(ah:lC P call)(hdr:∀need cm,qU P need cm call)(fQ:wB P){need:Nat}{fn:Func}{r:aT}:
  ∀(k:Nat) (ez:Option I) (bm:List b1) (H:J) (μ:bn) (w:World) (cJ:Frame) (cs:List Frame),(jM P call need fn r k ez bm H).kY=true->br μ H w->hz P μ->iz need μ r cJ.tmps->P.funcs[cJ.fn]? =some fn->cJ.kind=.normal->
   gz μ bm cJ.defers->m7 μ ez cJ.mode->∃e w' Cx,Ends μ H w (jM P call need fn r k ez bm H) e w'/\Steps P (lone cJ cs w) (lone Cx cs w')/\Cx.fn=cJ.fn/\Cx.leaving P w' e
 |0,ez,bm,H,μ,w,cJ,cs,b7,ak,aj,ai,hf,aw,aG,bl=>by cases b7
 |k+1,ez,[],H,μ,w,cJ,cs,b7,ak,aj,ai,hf,aw,aG,bl=>by
  have pD:cJ.defers=[]:=aG
  cases ez with
  |none=>
   simp only[jM] at b7⊢
   cases h5:pv P need fn r H with
   |none=>rw[h5] at b7;cases b7
   |some v=>
    obtain⟨u,aV,aN⟩:=Hy (P:=P) ak ai h5
    exact⟨.returned u,w,cJ,⟨μ,u,rfl,aN,ak,cb.refl _ _ _⟩,Steps.refl _ _,rfl,bl,pD,aw,fn,hf,aV⟩
  |some v=>
   obtain⟨u,aa,ad⟩:=bl
   exact⟨.panicked _,w,cJ,⟨μ,u,rfl,ad,ak,cb.refl _ _ _⟩,Steps.refl _ _,rfl,aa,pD,fn,hf⟩
 |k+1,ez,.collected b::bm,H,μ,w,cJ,cs,b7,ak,aj,ai,hf,aw,aG,bl=>by
  obtain⟨qM,dl,wk,aa,ad⟩:=aG
  cases aa with
  |collected _ i ae=>
  simp only[jM] at b7⊢
  cases Cy:H.get b with
  |none=>rw[Cy] at b7;cases b7
  |some o=>
   rw[Cy] at b7
   cases o<;>try (cases b7;done)
   case defrd calls=>
    cases calls with
    |none=>cases b7
    |some O_=>
     simp only at b7⊢
     obtain⟨w',l,aA,aC,bN,eW⟩:=O9 (P:=P) ak ae Cy
     have hs:=step_take (cs:=cs) bl.run wk aA
     obtain⟨e,c9,mg,bb,a3,fv,g4⟩:=Cw ah hdr fQ k ez (O_++bm) _ μ w' {cJ with defers:=l++dl} cs b7 bN aj ai hf aw (aC.append ad) bl
     refine⟨e,c9,mg,?_,Steps.head hs a3,fv,g4⟩
     exact Ends.trans ak bN eW bb
 |k+1,ez,.call g args::bm,H,μ,w,cJ,cs,b7,ak,aj,ai,hf,aw,aG,bl=>by
  obtain⟨qM,dl,wk,aa,ad⟩:=aG
  cases aa with
  |call _ _ cap vs wC=>
  simp only[jM] at b7⊢
  cases qV:P.funcs[g]? with
  |none=>rw[qV] at b7;cases b7
  |some gH=>
   rw[qV] at b7
   simp only at b7⊢
   cases zl:gH.body with
   |none=>
    have:l6 P call gH args (tQ ez) H=.fail "no body" :=by simp[l6,zl]
    rw[this] at b7;cases b7
   |some gc=>
    obtain⟨wD,zm⟩:=fQ g gH gc qV zl
    have bq:hL μ .deferred ({cJ with defers:=dl}::cs) (tQ ez) ({cJ with defers:=dl}::cs):=m7.q (c:={cJ with defers:=dl}) bl
    have af:=Hz (P:=P) ah hdr qV (kind:=.deferred) zl wD (args:=args) (vs:=vs++cap) (q:=tQ ez) wC ak aj bq
    have hinv:(invoke (.fn (.func g) ⟨cap⟩) ⟨vs⟩).run P w=.ok (.enter g ⟨vs++cap⟩) w:=by
     have:=Cu (P:=P) qV zl zm (⟨vs⟩++⟨cap⟩) w
     simpa[invoke] using this
    have Pa:=step_defer (P:=P) (cs:=cs) bl.run wk (d:={target:=.fn (.func g) ⟨cap⟩,args:=⟨vs⟩}) rfl hinv
    cases ab:l6 P call gH args (tQ ez) H with
    |fail s=>rw[ab] at b7;cases b7
    |ok e r' bG bP aX=>
     rw[ab] at b7 af
     obtain⟨aP,w',dr,b6,s1,s2,bE,bX,cZ,ea,e4⟩:=af
     simp only[F0] at b7⊢
     cases h5:pv P (d_ gH) gH r' aX with
     |none=>rw[h5] at b7;cases e<;>cases bG<;>cases b7
     |some Z0=>
      rw[h5] at b7
      obtain⟨u,aV,aN⟩:=Hy (P:=P) bX s2 h5
      have main:∀(he:e=.nrm\/e=.ret) (pD:bG=[]) (gS:(jM P call need fn r k (vN bP ez) bm aX).kY=true),
        ∃aC c9 mg,Ends μ H w (jM P call need fn r k (vN bP ez) bm aX) aC c9/\Steps P (lone cJ cs w) (lone mg cs c9)/\mg.fn=cJ.fn/\mg.leaving P c9 aC:=by
       intro he pD gS
       subst pD
       have wE:dr.defers=[]:=ea
       have wF:∃todo,Steps P (lone (Frame.enter P g ⟨vs++cap⟩ .deferred) ({cJ with defers:=dl}::cs) w) (lone {({(default:Frame) with fn:=g,kind:=.deferred}:Frame).atR dr todo with mode:=.returning} b6 w'):=by
        rcases he with rfl|rfl
        · exact⟨_,Steps.trans s1 (.one (stepR_end rfl))⟩
        · obtain⟨bS,wG⟩:=s1
          exact⟨_,Steps.trans wG (.one (stepR_ret rfl))⟩
       obtain⟨todo,wF⟩:=wF
       have g5:({({(default:Frame) with fn:=g,kind:=.deferred}:Frame).atR dr todo with mode:=.returning}:Frame).going P w' (.returned u):=⟨rfl,wE,gH,qV,aV⟩
       have caller:∃m,b6={({cJ with defers:=dl}:Frame) with mode:=m}::cs/\m7 aP (vN bP ez) (settle m):=by
        have bH:m7 aP ez (settle cJ.mode):=by
         have wH:=bl.mono cZ.le
         cases ez with
         |none=>have:cJ.mode=.returning:=wH;rw[this];rfl
         |some v=>obtain⟨u,aa,ad⟩:=wH;rw[aa];exact⟨u,rfl,ad⟩
        cases bP with
        |none=>exact⟨cJ.mode,e4.1,bH⟩
        |act v=>exact⟨cJ.mode,e4.1,bH⟩
        |done v=>
         obtain⟨_,c,rest,u,aA,aC,bN,eW⟩:=e4
         cases aA
         exact⟨_,eW,rfl⟩
       obtain⟨m,rfl,Pb⟩:=caller
       have ax:=step_going_returned (P:=P) (c:={({cJ with defers:=dl}:Frame) with mode:=m}) (cs:=cs) rfl g5
       obtain⟨aC,c9,mg,bb,a3,fv,g4⟩:=Cw ah hdr fQ k (vN bP ez) bm aX aP w' {cJ with defers:=dl,mode:=settle m} cs gS bX (aj.mono cZ.le) (ai.mono cZ.le) hf aw (ad.mono cZ.le) Pb
       exact⟨aC,c9,mg,Ends.trans ak bX cZ bb,Steps.head Pa (Steps.trans wF (Steps.head ax a3)),fv,g4⟩
      cases bG with
      |cons x xs=>cases e<;>cases b7
      |nil=>
       cases e with
       |nrm=>exact main (.inl rfl) rfl b7
       |ret=>exact main (.inr rfl) rfl b7
       |exit id=>cases b7
       |goto l=>cases b7
       |b9 v=>cases b7
theorem Pc{P:Program}{m zn:Machine}{e:Ending}(h:Steps P m zn)(he:e≠ .outgrown):Comes P m zn e:=by
 cases e with
 |outgrown=>exact absurd rfl he
 |_=>exact h
theorem Pd{call:ay->List I->J->an}(ah:lC P call)(hdr:∀need cm,qU P need cm call)(fQ:wB P){f:FuncId}{fn:Func}{c:Code}(hf:P.funcs[f]? =some fn)(af:fn.body=some c)
  {args:List I}{vs:List Value}{H:J}{μ:bn}{w:World}(aE:cd μ args vs)(ak:br μ H w)(aj:hz P μ)(b7:(l7 P call fn (l6 P call fn args .none H)).kY=true):
  Calls P f ⟨vs⟩ w (Ends μ H w (l7 P call fn (l6 P call fn args .none H))):=by
 intro cs
 obtain⟨wD,zm⟩:=fQ f fn c hf af
 have bq:hL μ .normal cs .none cs:=⟨rfl,λcJ aw=>by simp[tryRecover,aw]⟩
 have hb:=Hz (P:=P) ah hdr hf (kind:=.normal) af wD aE ak aj bq
 generalize ab:l6 P call fn args .none H=x at b7 hb⊢
 cases x with
 |fail s=>cases b7
 |ok e r d q aX=>
  obtain⟨aP,w',dr,b6,s1,s2,bE,bX,cZ,ea,e4⟩:=hb
  have iN:b6=cs:=by
   cases q with
   |none=>exact e4.1
   |act v=>exact e4.1
   |done v=>exact absurd e4.1 (by intro h;cases h)
  subst iN
  have main:∀(ez:Option I) (cJ:Frame),cJ.fn=f->cJ.tmps=dr.tmps->cJ.defers=dr.defers->cJ.kind=.normal->m7 aP ez cJ.mode->Steps P (lone (Frame.enter P f ⟨vs⟩ .normal) b6 w) (lone cJ b6 w')->
    (jM P call (d_ fn) fn r 100 ez d aX).kY=true->∃e c9 mg,Ends μ H w (jM P call (d_ fn) fn r 100 ez d aX) e c9/\Comes P (lone (Frame.enter P f ⟨vs⟩ .normal) b6 w) (lone mg b6 c9) e/\mg.fn=f/\mg.leaving P c9 e:=by
   intro ez cJ aa ad ax aO bZ dj gS
   subst aa
   obtain⟨aC,c9,mg,bb,a3,fv,g4⟩:=Cw ah hdr fQ 100 ez d aX aP w' cJ b6 gS bX (aj.mono cZ.le) (by rw[ad];exact s2) hf aO (by rw[ax];exact ea) bZ
   have HA:=Ends.trans ak bX cZ bb
   exact⟨aC,c9,mg,HA,Pc (dj.trans a3) (λe=>Cg gS _ (e▸HA)),fv,g4⟩
  cases e with
  |nrm=>exact main none {({(default:Frame) with fn:=f,kind:=.normal}:Frame).atR dr [] with mode:=.returning} rfl rfl rfl rfl rfl (Steps.trans s1 (.one (stepR_end rfl))) b7
  |ret=>obtain⟨bS,wG⟩:=s1;exact main none {({(default:Frame) with fn:=f,kind:=.normal}:Frame).atR dr (.code .ret::bS) with mode:=.returning} rfl rfl rfl rfl rfl (Steps.trans wG (.one (stepR_ret rfl))) b7
  |b9 v=>obtain⟨bS,u,aa,ad⟩:=s1;exact main (some v) _ rfl rfl rfl rfl ⟨u,rfl,aa.1⟩ ad b7
  |exit id=>cases b7
  |goto l=>cases b7
end
end aD
namespace aD
open Go
section
variable {P:Program}
theorem HB{need:Nat}{μ:bn}:∀(ps:List Nat) (args:List I) (vs:List Value) (r hn:aT) (cf:Array Value),(∀t∈ps,t<cf.size)->iz need μ r cf->cd μ args vs->rU ps args r=some hn->
  iz need μ hn ((ps.zip vs).foldl (λcf (p:Nat×Value)=>cf.setIfInBounds p.1 p.2) cf)/\((ps.zip vs).foldl (λcf (p:Nat×Value)=>cf.setIfInBounds p.1 p.2) cf).size=cf.size/\ps.length=vs.length
 |[],[],vs,r,hn,cf,bl,ai,aE,h=>by cases aE;cases h;exact⟨ai,rfl,rfl⟩
 |t::ts,v::args,vs,r,hn,cf,bl,ai,aE,h=>by
  obtain⟨u,us,rfl,aa,ad⟩:=aE
  simp only[rU] at h
  have sb:iz need μ (r.set (gO t) v) (cf.setIfInBounds t u):=λs hs=>by
   rw[aT.b_,wz (bl t (by simp))]
   by_cases e:s=t
   · rw[if_pos e,if_pos e];exact aa
   · rw[if_neg e,if_neg e];exact ai s hs
  obtain⟨aV,aN,cz⟩:=HB ts args us _ hn (cf.setIfInBounds t u) (λs hs=>by simp;exact bl s (by simp[hs])) sb ad h
  exact⟨aV,by rw[List.zip_cons_cons,List.foldl_cons];rw[aN];simp,by simp[cz]⟩
 |[],_::_,vs,r,hn,cf,bl,ai,aE,h=>by cases h
 |_::_,[],vs,r,hn,cf,bl,ai,aE,h=>by cases h
theorem Cz{μ:bn}{H:J}{w:World}(ak:br μ H w){l:Nat}{i:eG}(au:μ l=some i){st:LoopState}{fL:Option Code}{gP:Nat}{rg:aT}{ps:List Nat}{as cn:Code}{ee:Nat}(aj:H.get l=some (.loop st fL gP rg ps as cn ee)):
  ∃cf ho fn,μ ee=some ho/\(Instr.getLoop i.bj).run P w=.ok {state:=st,pending:=fL,fn:=fn,tmps:=cf,params:=⟨ps⟩,assign:=as,body:=cn,defers:=ho.bj} w/\iz gP μ rg cf/\ic cf.size as=true/\ic cf.size cn=true/\(∀t∈ps,t<cf.size)/\
   ∀cj ud,∃w',(setObj i.bj (.loop {state:=cj,pending:=ud,fn:=fn,tmps:=cf,params:=⟨ps⟩,assign:=as,body:=cn,defers:=ho.bj})).run P w=.ok () w'/\
    br μ (H.set l (some (.loop cj ud gP rg ps as cn ee))) w'/\cb μ H w μ (H.set l (some (.loop cj ud gP rg ps as cn ee))) w':=by
 obtain⟨cf,ho,fn,aA,aC,bN,eW,iO,fg⟩:=ak.rel _ _ i aj au
 have cy:=(ak.lt _ _ au).2
 have g5:(getObj i.bj).run P w=.ok (.loop {state:=st,pending:=fL,fn:=fn,tmps:=cf,params:=⟨ps⟩,assign:=as,body:=cn,defers:=ho.bj}) w:=by simp[getObj,Sem.run,aC]
 refine⟨cf,ho,fn,aA,?_,bN,eW,iO,fg,λcj ud=>?_⟩
 · simp only[Instr.getLoop,Sem.run_bind,g5,Result.andThen_ok,Sem.run_pure]
 · obtain⟨bb,a3⟩:=ak.update (w':={w with heap:=w.heap.setIfInBounds i.bj (.loop {state:=cj,pending:=ud,fn:=fn,tmps:=cf,params:=⟨ps⟩,assign:=as,body:=cn,defers:=ho.bj})}) (o':=.loop cj ud gP rg ps as cn ee) aj rfl au (by simp) (λr ai=>by simp[Array.getElem?_setIfInBounds];intro e;exact absurd e.symm ai) rfl rfl rfl
     ⟨cf,ho,fn,aA,by simp[cy],bN,eW,iO,fg⟩
   exact⟨_,by simp[setObj,Sem.run,aC],bb,a3⟩
theorem Pe{b:Frame}{a:Act}{bS:List Item}{c:Frame}{cs:List Frame}{w:World}{chain:List PanicEntry}(aG:a.defers=[])(aK:Cm bS):
  step P (lone {b.atR a bS with mode:=.panicking chain} (c::cs) w)=.next (lone (c.raise chain) cs w):=by
 have Pf:({b.atR a bS with mode:=.panicking chain}:Frame).catches P=false:=by
  unfold Frame.catches
  cases hf:P.funcs[b.fn]? with
  |some fn=>simp[Frame.atR,hf]
  |none=>
   cases bS with
   |nil=>simp[Frame.atR,hf]
   |cons x t=>cases x<;>first|exact aK.elim|simp[Frame.atR,hf]
 refine step_lone_go ?_
 have HC:=Pf
 simp only[Frame.atR,aG] at HC⊢
 simp[stepG,unwind,HC]
theorem Pg{μ:bn}{H:J}{w:World}{l:Nat}{i:eG}(au:μ l=some i){b:Frame}(af:b.roundOf=some i.bj)(aw:b.kind=.normal){need cm:Nat}{c:Frame}{cs:List Frame}{fV:Machine}{x:iL}(ab:m5 P need cm μ H w b [] (c::cs) fV x)(Z1:∀cJ:Frame,cJ.kind=b.kind->tryRecover cJ (c::cs)=none)(b7:(tR l x).kY=true)(ak:br μ H w):
  qR P fV c cs (Ends μ H w (tR l x)):=by
 cases x with
 |fail s=>cases b7
 |ok e r d q aX=>
  obtain⟨aP,w',dr,b6,s1,s2,bE,bX,cZ,ea,e4⟩:=ab
  have iN:b6=c::cs:=by
   cases q with
   |none=>exact e4.1
   |act v=>exact e4.1
   |done v=>exact absurd (aw.symm.trans e4.1) (by intro h;cases h)
  subst iN
  cases d with
  |cons y ys=>cases b7
  |nil=>
   have wE:dr.defers=[]:=ea
   simp only[tR] at b7⊢
   cases aj:aX.get l with
   |none=>rw[aj] at b7;cases b7
   |some o=>
    rw[aj] at b7
    cases o<;>try (cases b7;done)
    case loop st fL gP rg ps as cn ee=>
     cases st<;>try (cases b7;done)
     simp only at b7⊢
     obtain⟨cf,ho,fn,ao,ar,_,_,_,_,aZ⟩:=Cz (P:=P) bX (cZ.le _ _ au) aj
     have fin:∀m6:Option Code,∃c9,(Instr.endRound i.bj m6).run P w'=.ok (.bool m6.isNone) c9/\br aP (aX.set l (some (.loop (if m6.isNone then .ready else .done) m6 gP rg ps as cn ee))) c9/\cb aP aX w' aP (aX.set l (some (.loop (if m6.isNone then .ready else .done) m6 gP rg ps as cn ee))) c9:=λm6=>by
      obtain⟨c9,aV,aN,cz⟩:=aZ (if m6.isNone then .ready else .done) m6
      refine⟨c9,?_,aN,cz⟩
      simp only[Instr.endRound,Sem.run_bind,ar,Result.andThen_ok,aV,Sem.run_pure]
     cases e with
     |nrm=>
      obtain⟨c9,aV,aN,cz⟩:=fin none
      exact⟨.returned (.bool true),c9,⟨aP,_,rfl,rfl,aN,cb.trans ak bX cZ cz⟩,Steps.trans s1 (.one (stepR_round_end af aw aV))⟩
     |ret=>
      obtain⟨bS,s1⟩:=s1
      obtain⟨c9,aV,aN,cz⟩:=fin (some .ret)
      exact⟨.returned (.bool false),c9,⟨aP,_,rfl,rfl,aN,cb.trans ak bX cZ cz⟩,Steps.trans s1 (.one (stepR_round_ret af aw aV))⟩
     |exit id=>
      obtain⟨bS,wG,s1⟩:=s1
      obtain⟨c9,aV,aN,cz⟩:=fin (some (.exit id))
      exact⟨.returned (.bool false),c9,⟨aP,_,rfl,rfl,aN,cb.trans ak bX cZ cz⟩,Steps.trans s1 (.one (stepR_round_exit af aw (wG.trans rfl) aV))⟩
     |b9 v=>
      obtain⟨bS,u,⟨aa,ad⟩,s1⟩:=s1
      exact⟨.panicked _,w',⟨aP,u,rfl,aa,bX,cZ⟩,Steps.trans s1 (.one (Pe wE ad))⟩
     |goto t=>cases b7
theorem Ph{call:ay->List I->J->an}(ah:lC P call)(hdr:∀need cm,qU P need cm call){l:Nat}{args:List I}{H:J}{μ:bn}{w:World}{i:eG}{vs:List Value}(b7:(ow P call l args H).kY=true)(ak:br μ H w)(oI:hz P μ)(au:μ l=some i)(aE:cd μ args vs):
  Hc P i.bj vs w (Ends μ H w (ow P call l args H)):=by
 unfold ow at b7⊢
 cases aj:H.get l with
 |none=>rw[aj] at b7;cases b7
 |some o=>
  rw[aj] at b7
  cases o<;>try (cases b7;done)
  case loop st fL gP rg ps as cn ee=>
   cases st<;>try (cases b7;done)
   simp only at b7⊢
   cases a4:rU ps args rg with
   |none=>rw[a4] at b7;cases b7
   |some hn=>
    rw[a4] at b7
    simp only at b7⊢
    obtain⟨cf,ho,fn,ao,ar,aZ,ch,dQ,eS,gA⟩:=Cz (P:=P) ak au aj
    obtain⟨dP,fR,kz⟩:=HB ps args vs rg hn cf eS aZ aE a4
    obtain⟨ue,HD⟩:∃ue,(ps.zip vs).foldl (λcf (p:Nat×Value)=>cf.setIfInBounds p.1 p.2) cf=ue:=⟨_,rfl⟩
    rw[HD] at dP fR
    refine⟨fn,ue,as,cn,?_,λc cs=>?_⟩
    · simp only[Instr.yield,Sem.run_bind,ar,Result.andThen_ok]
      rw[if_neg (by simp;omega)]
      simp only[Sem.run_bind,Sem.run_pure,Result.andThen_ok]
      rw[<-HD]
      simp
    · have Pj:Frame.round i.bj fn ue as cn .normal=({(default:Frame) with fn:=fn,kind:=.normal,roundOf:=some i.bj}:Frame).atR {tmps:=ue,defers:=[]} [.code as,.beginRound,.code cn]:=rfl
      rw[Pj]
      have bq:hL μ .normal (c::cs) .none (c::cs):=⟨rfl,λcJ aw=>by simp[tryRecover,aw]⟩
      have dg:nJ μ ({(default:Frame) with fn:=fn,kind:=.normal,roundOf:=some i.bj}:Frame) (some l):=⟨i,au,rfl⟩
      have aa:=oN ah (hdr gP cf.size) (Cr ah) (some l) as ch {(default:Frame) with fn:=fn,kind:=.normal,roundOf:=some i.bj} hn [] .none H μ w {tmps:=ue,defers:=[]} [.beginRound,.code cn] (c::cs) (c::cs) dg dP fR ak oI rfl bq
      generalize dG P gP (some l) call as hn [] .none H=x at aa b7⊢
      cases x with
      |fail s=>cases b7
      |ok e bb d1 aV H1=>
       cases e<;>try (cases b7;done)
       case nrm=>
        cases d1<;>try (cases b7;done)
        case nil=>
         obtain⟨gq,dI,dD,jq,s1,s2,bE,bX,cZ,ea,e4⟩:=aa
         have iN:jq=c::cs:=by
          cases aV with
          |none=>exact e4.1
          |act v=>exact e4.1
          |done v=>exact absurd e4.1 (by intro h;cases h)
         subst iN
         simp only[yK] at b7⊢
         cases e9:H1.get l with
         |none=>rw[e9] at b7;cases b7
         |some cq=>
          rw[e9] at b7
          cases cq<;>try (cases b7;done)
          case loop j_ Pk Z2 Z3 Z4 Z5 Z6 Z7=>
           cases j_<;>try (cases b7;done)
           simp only at b7⊢
           obtain⟨Z8,Z9,Z_,b4,b0,e2,h6,nL,wI,CA⟩:=Cz (P:=P) bX (cZ.le _ _ au) e9
           obtain⟨c9,a8,aI,cK⟩:=CA .busy Pk
           have wx:(Instr.beginRound i.bj).run P dI=.ok () c9:=by
            simp only[Instr.beginRound,Sem.run_bind,b0,Result.andThen_ok,a8,Sem.run_pure]
           have ct:=stepR_beginRound (P:=P) (b:={(default:Frame) with fn:=fn,kind:=.normal,roundOf:=some i.bj}) (a:=dD) (k:=[.code cn]) (cs:=c::cs) rfl wx
           have pE:hL gq .normal (c::cs) .none (c::cs):=⟨rfl,λcJ aw=>by simp[tryRecover,aw]⟩
           have Pl:nJ gq ({(default:Frame) with fn:=fn,kind:=.normal,roundOf:=some i.bj}:Frame) (some l):=⟨i,cZ.le _ _ au,rfl⟩
           have wE:gz gq [] dD.defers:=ea
           have ad:=oN ah (hdr gP cf.size) (Cr ah) (some l) cn dQ {(default:Frame) with fn:=fn,kind:=.normal,roundOf:=some i.bj} bb [] .none _ gq c9 dD [] (c::cs) (c::cs) Pl s2 bE aI (oI.mono cZ.le) wE pE
           have ax:=ad.of_steps ak aI (Steps.trans s1 (.one ct)) (cb.trans ak bX cZ cK)
           exact Pg au rfl rfl ax (λcJ aw=>by simp[tryRecover,aw]) b7 ak
end
end aD
namespace aD
open Go
section
variable {P:Program}
def qW:List String:=["internal/abi.NoEscape","internal/bytealg.MakeNoZero","internal/bytealg.IndexByteString","maps.clone"]
def zo(P:Program):Prop:=∀(g:FuncId) (gH:Func),P.funcs[g]? =some gH->gH.body=none->gH.name∈qW->Extern.findNext gH=none
theorem HE:∀(n t:Nat) (acc:Array Value),(Extern.BytealgMakeNoZero.digits n t acc).size=acc.size+n
 |0,t,acc=>rfl
 |n+1,t,acc=>by rw[Extern.BytealgMakeNoZero.digits,HE n];simp;omega
theorem Pm{fn:Func}(aK:fn.name= "internal/abi.NoEscape"):Extern.find fn=some Extern.AbiNoEscape.same:=by
 have aa:Extern.allGenericRows.lookup "internal/abi.NoEscape" =none:=by rfl
 have ad:Extern.allTypedRows.lookup "internal/abi.NoEscape" =none:=by rfl
 have ax:Extern.allRows.lookup "internal/abi.NoEscape" =some Extern.AbiNoEscape.same:=by rfl
 simp[Extern.find,aK,aa,ad,ax]
theorem Pn{fn:Func}(aK:fn.name= "internal/bytealg.MakeNoZero"):Extern.find fn=some (Extern.BytealgMakeNoZero.makeNoZero fn.params fn.resultTypes):=by
 have aa:Extern.allGenericRows.lookup "internal/bytealg.MakeNoZero" =none:=by rfl
 have ad:Extern.allTypedRows.lookup "internal/bytealg.MakeNoZero" =some Extern.BytealgMakeNoZero.makeNoZero:=by rfl
 simp[Extern.find,aK,aa,ad]
theorem Po{fn:Func}(aK:fn.name= "internal/bytealg.IndexByteString"):Extern.find fn=some Extern.BytealgIndexByte.indexByte:=by
 have aa:Extern.allGenericRows.lookup "internal/bytealg.IndexByteString" =none:=by rfl
 have ad:Extern.allTypedRows.lookup "internal/bytealg.IndexByteString" =none:=by rfl
 have ax:Extern.allRows.lookup "internal/bytealg.IndexByteString" =some Extern.BytealgIndexByte.indexByte:=by rfl
 simp[Extern.find,aK,aa,ad,ax]
theorem Pp{fn:Func}(aK:fn.name= "maps.clone"):Extern.find fn=some Extern.MapsClone.clone:=by
 have aa:Extern.allGenericRows.lookup "maps.clone" =none:=by rfl
 have ad:Extern.allTypedRows.lookup "maps.clone" =none:=by rfl
 have ax:Extern.allRows.lookup "maps.clone" =some Extern.MapsClone.clone:=by rfl
 simp[Extern.find,aK,aa,ad,ax]
theorem HF(c:Nat):∀(l:List UInt8) (i:Nat),nz c l i=match l.findIdx? (λb=>Nat.beq b.toNat c) with
  |some j=>((i+j:Nat):Int)
  |none=>-1
 |[],i=>rfl
 |b::l,i=>by
  rw[nz,List.findIdx?_cons]
  cases Nat.beq b.toNat c with
  |true=>simp
  |false=>
   simp only[HF c l (i+1)]
   cases l.findIdx? (λb=>Nat.beq b.toNat c) with
   |none=>rfl
   |some j=>
    simp only[Option.map_some]
    have:((i+(j+1):Nat):Int)=((i+1+j:Nat):Int):=by congr 1;omega
    exact this.symm
theorem Pq(b:ByteArray)(p:UInt8->Bool):(List.range b.size).find? (λi=>p b[i]!)=b.data.toList.findIdx? p:=by
 have bL:b.data.toList.length=b.size:=Array.length_toList
 have fw:∀(i:Nat) (ae:i<b.data.toList.length),b[i]! =b.data.toList[i]:=λi ae=>by
  have eH:i<b.size:=by omega
  rw[getElem!_pos b i eH];rfl
 cases hf:b.data.toList.findIdx? p with
 |none=>
  rw[List.find?_eq_none]
  intro i ae
  have eH:i<b.data.toList.length:=by rw[bL];simpa using ae
  rw[fw i eH]
  have:=List.findIdx?_eq_none_iff.1 hf _ (List.getElem_mem eH)
  rw[this];exact Bool.false_ne_true
 |some j=>
  obtain⟨aL,bl,cy⟩:=List.findIdx?_eq_some_iff_getElem.1 hf
  rw[List.find?_range_eq_some]
  refine⟨?_,by simp;omega,λi ae=>?_⟩
  · rw[fw j aL];exact bl
  · rw[fw i (by omega)]
    have:=cy i ae
    simpa using this
theorem Pr{α:Type}(n:Int)(f:Int->α)(g:Array Value->α):Extern.BytealgMakeNoZero.makeNoZero.match_3 (λ_=>α) #[.int .i64 n] f g=f n:=rfl
theorem Ps{α:Type}(t:TypeId)(r:Nat)(f:TypeId->Nat->α)(e:TypeId->α)(g:Array Value->α):Extern.MapsClone.clone.match_2 (λ_=>α) #[.iface t (.map (some r))] f e g=f t r:=rfl
theorem Pt{α:Type}(b c:Value)(f:Value->Value->α)(g:Array Value->α):Extern.BytealgIndexByte.indexByte.match_2 (λ_=>α) #[b,c] f g=f b c:=rfl
theorem Pu{f:FuncId}{fn:Func}(hf:P.funcs[f]? =some fn)(af:fn.body=none)(qX:zo P){args:List I}{H aX:J}{v:I}(h:tP P fn fn.name args H=some (v,aX))
  {μ:bn}{w:World}{vs:List Value}(ak:br μ H w)(aE:cd μ args vs):
  ∃u w',(callFunc f ⟨vs⟩).run P w=.ok (.value u) w'/\Ends μ H w (.ret v aX) (.returned u) w':=by
 have call:∀e:Array Value->Sem Value,fn.name∈qW->Extern.find fn=some e->(callFunc f ⟨vs⟩).run P w=(do let v<-e ⟨vs⟩;pure (.value v):Sem Next).run P w:=by
  intro e hm he
  have aK:=qX f fn hf af hm
  have wJ:(fn.name== "runtime.NumGoroutine")=false:=by
   simp only[qW,List.mem_cons,List.mem_nil_iff,or_false] at hm
   rcases hm with h|h|h|h<;>rw[h]<;>decide
  rw[run_callFunc_extern hf wJ (by rw[af];rfl) aK he];simp only[Sem.run_bind];rfl
 unfold tP at h
 split at h
 · rename_i n
   split at h
   · rename_i nM
     split at h
     · rename_i t a6
       split at h
       · rename_i e hu
         split at h
         · rename_i hle
           cases h
           have BY:n<=1099511627776:=by simpa using hle
           obtain⟨u,us,rfl,aa,ad⟩:=aE
           cases aa;cases ad
           have bL:∀(t:TypeId),(Question.appendCap n 0 t).forced=false:=λ_=>rfl
           obtain⟨cap,oF,HG⟩:∃cap,(Question.appendCap n 0 e).cut (w.tape w.drawn (Question.appendCap n 0 e))=cap/\n<=cap:=⟨_,rfl,by simp[Question.cut]⟩
           obtain⟨HH,m8⟩:∃x,(Question.extern "internal/bytealg.MakeNoZero.bytes" 0).cut (w.drew.tape w.drew.drawn (Question.extern "internal/bytealg.MakeNoZero.bytes" 0))=x:=⟨_,rfl⟩
           have aG:=HE cap HH #[]
           have HI:=ak.drew.drew
           obtain⟨bb,a3⟩:=HI.alloc (.cells (List.replicate n .bad) e .aY 0 0) (.cells (Extern.BytealgMakeNoZero.digits cap HH #[]) e) cap
            ⟨_,0,0,World.heap_alloc_new _ _,λj v aL=>by
              have BF:j<n:=by
               rcases Nat.lt_or_ge j n with h|h
               · exact h
               · rw[List.getElem?_eq_none (by simpa using h)] at aL;cases aL
              rw[List.getElem?_replicate,if_pos BF] at aL
              cases aL
              refine⟨_,Array.getElem?_eq_getElem (by rw[Nat.zero_add,aG];simp;omega),trivial⟩,by rw[aG];simp,by simpa using HG,λj _ _ h=>by omega⟩
           refine⟨_,_,?_,gb μ H.n ⟨w.drew.drew.heap.size,0,cap⟩,_,rfl,⟨_,gf _ _ _,cap,rfl,HG,by simp⟩,bb,cb.trans ak ak.drew cb.drew (cb.trans ak.drew HI cb.drew a3)⟩
           rw[call _ (by rw[nM];simp[qW]) (Pn nM)]
           have Pv:¬((Int.ofNat n<0||Int.ofNat n>2^48)=true):=by
            have ad:(2:Int)^48=281474976710656:=by rfl
            have ax:Int.ofNat n=(n:Int):=rfl
            rw[ad,ax];simp only[Bool.or_eq_true,decide_eq_true_eq];omega
           have Pw:(Question.extern "internal/bytealg.MakeNoZero.bytes" 0).forced=false:=rfl
           have zp:(Int.ofNat n).toNat=n:=rfl
           delta Extern.BytealgMakeNoZero.makeNoZero
           rw[Pr]
           simp only[Sem.run_bind,a6,Sem.run_pure,bW hu,Result.andThen_ok]
           rw[if_neg Pv]
           simp only[Sem.run_bind,run_choose,zp,bL,Pw,Bool.false_eq_true,if_false,World.drew_eq,oF,Result.andThen_ok,run_askRoom,m8,Sem.run_pure]
           rfl
         · cases h
       · cases h
     · cases h
   · cases h
 · rename_i x _
   obtain⟨u,us,rfl,aa,ad⟩:=aE
   cases ad
   split at h
   · rename_i nM
     cases h
     refine⟨u,w,?_,μ,u,rfl,aa,ak,cb.refl _ _ _⟩
     rw[call _ (by rw[nM];simp[qW]) (Pm nM)]
     rfl
   · split at h
     · rename_i nM
       split at h
       · rename_i t r
         split at h
         · rename_i es c aj
           cases h
           obtain⟨y,rfl,i,ae,rfl⟩:=aa
           obtain⟨ents,aA,aC⟩:=ak.rel _ _ i aj ae
           have hle:=ak.nB ⟨w.heap.size,0,0⟩
           obtain⟨bb,a3⟩:=ak.alloc (.map es c) (.map ⟨ents⟩ c) 0 ⟨ents,World.heap_alloc_new _ _,aC.mono hle⟩
           refine⟨_,_,?_,gb μ H.n ⟨w.heap.size,0,0⟩,.iface _ (.map (some w.heap.size)),rfl,⟨.map (some w.heap.size),rfl,⟨w.heap.size,0,0⟩,gf _ _ _,rfl⟩,bb,a3⟩
           rw[call _ (by rw[nM];simp[qW]) (Pp nM)]
           have g5:(getObj i.bj).run P w=.ok (.map ⟨ents⟩ c) w:=by simp[getObj,Sem.run,aA]
           simp only[Sem.run_bind]
           rw[show(⟨[Value.iface _ (Value.map (some i.bj))]⟩:Array Value)=#[.iface _ (.map (some i.bj))] from rfl]
           delta Extern.MapsClone.clone
           rw[Ps]
           simp only[Sem.run_bind,g5,Result.andThen_ok,run_newObj,Sem.run_pure]
           rfl
         · cases h
       · cases h
     · cases h
 · rename_i s c
   split at h
   · rename_i nM
     split at h
     · rename_i ah
       cases h
       have ox:c<256:=by simpa using ah
       obtain⟨u,us,rfl,aa,ad⟩:=aE
       obtain⟨ua,aaa,rfl,ax,aO⟩:=ad
       cases ax;cases aO
       obtain⟨t,rfl,rfl⟩:=aa
       refine⟨_,w,?_,μ,_,rfl,rfl,ak,cb.refl _ _ _⟩
       rw[call _ (by rw[nM];simp[qW]) (Po nM)]
       have m8:(Int.ofNat c).toNat.toUInt8=UInt8.ofNat c:=rfl
       have heq:∀b:UInt8,(b==UInt8.ofNat c)=Nat.beq b.toNat c:=λb=>by
        rw[Bool.eq_iff_iff,beq_iff_eq,Nat.beq_eq,<-UInt8.toNat_inj]
        simp[Nat.mod_eq_of_lt ox]
       delta Extern.BytealgIndexByte.indexByte
       rw[Pt]
       simp only[Sem.run_bind,Extern.Bytes.bytesOf,Extern.Bytes.asByte,Sem.run_pure,Result.andThen_ok,m8,heq]
       have hf:=Pq t (λb=>Nat.beq b.toNat c)
       rw[hf,HF]
       cases t.data.toList.findIdx? (λb=>Nat.beq b.toNat c) with
       |none=>rfl
       |some j=>
        simp only[Nat.zero_add]
        rfl
     · cases h
   · cases h
 · cases h
def lE(P:Program)(intr:Nat->List I->J->Option (I×J)):Prop:=
 ∀f args H v aX,intr f args H=some (v,aX)->∀μ w (vs:List Value),br μ H w->hz P μ->cd μ args vs->ub P f vs w (Ends μ H w (.ret v aX))
theorem Px{call:ay->List I->J->an}(ah:lC P call)(hdr:∀need cm,qU P need cm call)(fQ:wB P)(qX:zo P){f:Nat}{args:List I}{H:J}(b7:(qt P call f args H).kY=true)
  {μ:bn}{w:World}{vs:List Value}(ak:br μ H w)(aj:hz P μ)(aE:cd μ args vs):ub P f vs w (Ends μ H w (qt P call f args H)):=by
 unfold qt at b7⊢
 cases hf:P.funcs[f]? with
 |none=>rw[hf] at b7;cases b7
 |some fn=>
  rw[hf] at b7
  simp only at b7⊢
  cases af:fn.body with
  |none=>
   rw[af] at b7
   simp only at b7⊢
   cases ab:tP P fn fn.name args H with
   |none=>rw[ab] at b7;cases b7
   |some p=>
    obtain⟨v,aX⟩:=p
    obtain⟨u,w',aa,ad⟩:=Pu hf af qX ab ak aE
    exact .inl ⟨u,w',aa,ad⟩
  |some c=>
   rw[af] at b7
   simp only at b7⊢
   obtain⟨wD,zm⟩:=fQ f fn c hf af
   exact .inr ⟨Cu hf af zm _ _,Pd ah hdr fQ hf af aE ak aj b7⟩
theorem HJ{intr:Nat->List I->J->Option (I×J)}(ae:lE P intr)(hdr:∀call,lC P call->∀need cm,qU P need cm call)(fQ:wB P)(qX:zo P):∀n,lC P (fD P intr n)
 |0=>⟨λf args H aj=>(by cases aj),λl args H aj=>(by cases aj)⟩
 |n+1=>by
  have ba:=HJ ae hdr fQ qX n
  refine⟨λf args H b7 μ w vs ak aj aE=>?_,λl args H b7 μ w i vs ak aj au aE=>?_⟩
  · simp only[fD] at b7⊢
    cases ab:intr f args H with
    |some p=>
     obtain⟨v,aX⟩:=p
     exact ae f args H v aX ab μ w vs ak aj aE
    |none=>
     rw[ab] at b7
     exact Px ba (hdr _ ba) fQ qX b7 ak aj aE
  · simp only[fD] at b7⊢
    exact Ph ba (hdr _ ba) b7 ak aj au aE
end
end aD
namespace aD
open Go
def si(ops:Array Oper)(S:List Nat):List Nat->Prop
 |[]=>∀i,i<ops.size->i∈S
 |i::rest=>i<ops.size/\i∉S/\(∀o,ops[i]? =some o->∀e∈o.after,Region.binds .any e=true->e.on∈S)/\si ops (i::S) rest
theorem filter_lt{p q:Nat->Bool}(CB:∀x,q x=true->p x=true):∀(l:List Nat) {i:Nat},i∈l->p i=true->q i=false->(l.filter q).length<(l.filter p).length
 |[],i,h,_,_=>by cases h
 |a::l,i,h,bl,bq=>by
  have hle:∀l:List Nat,(l.filter q).length<=(l.filter p).length:=λl=>by
   induction l with
   |nil=>simp
   |cons b l ba=>
    simp only[List.filter_cons]
    cases af:q b with
    |true=>simp[CB b af];exact ba
    |false=>cases p b<;>simp<;>omega
  rcases List.mem_cons.1 h with rfl|h
  · have:=hle l
    simp only[List.filter_cons,bl,bq,if_true,Bool.false_eq_true,if_false,List.length_cons];omega
  · have ba:=filter_lt CB l h bl bq
    simp only[List.filter_cons]
    cases af:q a with
    |true=>simp[CB a af];exact ba
    |false=>cases p a<;>simp<;>omega
theorem Py{ops:Array Oper}(qY:∀o i,ops[i]? =some o->nA o i=true){listed:Array Bool}(bL:listed.size=ops.size)(ai:Region.ready .any ops listed=[]):∀i,i<ops.size->listed.getD i true=true:=by
 intro i
 induction i using Nat.strongRecOn with
 |ind i ba=>
  intro ae
  cases au:listed.getD i true with
  |true=>rfl
  |false=>
   have bd:ops[i]? =some ops[i]:=Array.getElem?_eq_getElem ae
   have:i∈Region.ready .any ops listed:=mem_ready.2 ⟨au,ops[i],bd,λe he af=>by
    have:=qY _ _ bd
    unfold nA at this
    rw[List.all_eq_true] at this
    have ad:=this e (by simpa using he)
    simp only[af,Bool.not_true,Bool.false_or,Nat.blt_eq] at ad
    have ax:=ba e.on ad (by omega)
    have cy:e.on<listed.size:=by omega
    simp[cy] at ax⊢
    exact ax⟩
   rw[ai] at this;cases this
theorem HK{ops:Array Oper}(qY:∀o i,ops[i]? =some o->nA o i=true):∀(fuel t:Nat) (listed:Array Bool) (S:List Nat),listed.size=ops.size->(∀i,i<ops.size->(listed.getD i true=true<->i∈S))->
  ((List.range ops.size).filter λi=>!listed.getD i true).length<=fuel->si ops S (Region.linearise.go .any ops fuel t listed [])
 |0,t,listed,S,bL,jn,hf=>by
  simp only[Region.linearise.go,List.reverse_nil,si]
  intro i ae
  rw[<-jn i ae]
  have h0:((List.range ops.size).filter λi=>!listed.getD i true)=[]:=List.length_eq_zero_iff.1 (Nat.le_zero.1 hf)
  rw[List.filter_eq_nil_iff] at h0
  have:=h0 i (List.mem_range.2 ae)
  simpa using this
 |fuel+1,t,listed,S,bL,jn,hf=>by
  simp only[Region.linearise.go]
  change si ops S (match(Region.ready .any ops listed)[t %(Region.ready .any ops listed).length]? with
   |some i=>Region.linearise.go .any ops fuel (t/(Region.ready .any ops listed).length) (listed.setIfInBounds i true) [i]
   |none=>[].reverse)
  cases ae:(Region.ready .any ops listed)[t %(Region.ready .any ops listed).length]? with
  |none=>
   have sj:Region.ready .any ops listed=[]:=by
    cases ai:Region.ready .any ops listed with
    |nil=>rfl
    |cons x xs=>
     rw[ai] at ae
     have cy:t %(x::xs).length<(x::xs).length:=Nat.mod_lt _ (by simp)
     rw[List.getElem?_eq_getElem cy] at ae;cases ae
   simp only[List.reverse_nil,si]
   exactλi h=>(jn i h).1 (Py qY bL sj i h)
  |some i=>
   simp only[]
   rw[linearise_go_acc,List.reverse_singleton,List.singleton_append]
   obtain⟨aa,o,ad,ax⟩:=mem_ready.1 (List.mem_of_getElem? ae)
   have cy:i<ops.size:=(Array.getElem?_eq_some_iff.1 ad).1
   have BO:i<listed.size:=by omega
   have sb:∀j d,(listed.setIfInBounds i true).getD j d=if j=i then true else listed.getD j d:=λj d=>by
    simp only[Array.getD_eq_getD_getElem?,Array.getElem?_setIfInBounds]
    by_cases e:i=j
    · subst e;simp[BO]
    · rw[if_neg e,if_neg (λh=>e h.symm)]
   refine⟨cy,λh=>?_,λo' hN e he af=>?_,HK qY fuel _ _ _ (by simpa using bL) (λj aL=>?_) ?_⟩
   · have:=(jn i cy).2 h
     rw[aa] at this;cases this
   · rw[ad] at hN;cases hN
     have aO:=ax e he af
     have zq:e.on<listed.size:=by
      rcases Nat.lt_or_ge e.on listed.size with h|h
      · exact h
      · simp[Array.getElem?_eq_none h] at aO
     rw[<-jn e.on (by omega)]
     simp[zq] at aO⊢
     exact aO
   · rw[sb,List.mem_cons]
     by_cases e:j=i
     · simp[e]
     · rw[if_neg e,jn j aL];simp[e]
   · have aab:((List.range ops.size).filter λj=>!(listed.setIfInBounds i true).getD j true).length<((List.range ops.size).filter λj=>!listed.getD j true).length:=
       filter_lt (λx ab=>by
        rw[sb] at ab
        by_cases e:x=i
        · rw[if_pos e] at ab;cases ab
        · rw[if_neg e] at ab;exact ab) _ (List.mem_range.2 cy) (by rw[aa];rfl) (by rw[sb,if_pos rfl];rfl)
     omega
theorem Pz{ops:Array Oper}(qY:∀o i,ops[i]? =some o->nA o i=true)(t:Nat):si ops [] (Region.schedule true ops t):=by
 simp only[Region.schedule,Bool.true_or,if_true,Region.linearise]
 refine HK qY ops.size t _ [] (by simp) (λi ae=>by simp[ae]) ?_
 refine Nat.le_trans (List.length_filter_le _ _) (by simp)
section
variable {P:Program} {g gv:Operand->I}
theorem CC{o:Option Operand}(h:∀x∈o.toArray,g x=gv x):o.map g=o.map gv:=by
 cases o with
 |none=>rfl
 |some x=>simp[h x (by simp)]
theorem wK(o:Oper)(H:J)(h:∀x∈o.op.operands,g x=gv x):cM P o g H=cM P o gv H:=by
 obtain⟨dst,op,type,pos,after,guard⟩:=o
 have zr:∀ps:Array (Nat×Operand),(∀x∈ps.map (·.2),g x=gv x)->(ps.toList.map λp=>(p.1,g p.2))=(ps.toList.map λp=>(p.1,gv p.2)):=λps bl=>
  List.map_congr_left λp hm=>by rw[bl p.2 (Array.mem_map.2 ⟨p,by simpa using hm,rfl⟩)]
 cases op<;>simp only[Op.operands] at h<;>unfold cM
 case build t ps=>simp only[zr ps λx ab=>h x (by simpa using ab)]
 case buildSlice t n ps=>simp only[zr ps λx ab=>h x (by simpa using ab)]
 case makeFunc fn first captured=>
  simp only[List.map_congr_left (l:=first.toList) λx ab=>h x (by simp at ab;simp[ab]),List.map_congr_left (l:=captured.toList) λx ab=>h x (by simp at ab;simp[ab])]
 case call c=>
  have a2:c.args.toList.map g=c.args.toList.map gv:=List.map_congr_left λx ab=>h x (by simp at ab;simp[Call.operands,ab])
  simp only[a2]
  cases ah:c.callee with
  |value f=>have hf:g f=gv f:=h f (by simp[Call.operands,ah]);simp only[hf]
  |invoke r m=>have ai:g r=gv r:=h r (by simp[Call.operands,ah]);simp only[ai]
  |builtin b=>rfl
 case defer c=>
  have a2:c.args.toList.map g=c.args.toList.map gv:=List.map_congr_left λx ab=>h x (by simp at ab;simp[Call.operands,ab])
  simp only[a2]
  cases ah:c.callee with
  |value f=>have hf:g f=gv f:=h f (by simp[Call.operands,ah]);simp only[hf]
  |invoke r m=>rfl
  |builtin b=>rfl
 case makeMap t r=>cases r<;>simp_all
 case slice t x bf ae mx=>
  have aA:bf.map g=bf.map gv:=CC λy bg=>h y (by simp at bg;simp[bg])
  have aC:ae.map g=ae.map gv:=CC λy bg=>h y (by simp at bg;simp[bg])
  have bN:mx.map g=mx.map gv:=CC λy bg=>h y (by simp at bg;simp[bg])
  have eW:g x=gv x:=h x (by simp)
  have iO:∀o:Option Operand,(o.map λo=>kindName (g o))=(o.map g).map kindName:=λo=>by cases o<;>rfl
  have fg:∀o:Option Operand,(o.map λo=>kindName (gv o))=(o.map gv).map kindName:=λo=>by cases o<;>rfl
  simp only[aA,aC,bN,eW,iO,fg]
 all_goals (first|rfl|(simp_all;done))
theorem wL(o:Op)(b:Nat)(h:∀x∈o.operands,g x=gv x):jL P o g b=jL P o gv b:=by
 have zr:∀ps:Array (Nat×Operand),(∀x∈ps.map (·.2),g x=gv x)->(ps.toList.map λp=>(p.1,g p.2))=(ps.toList.map λp=>(p.1,gv p.2)):=λps bl=>
  List.map_congr_left λp hm=>by rw[bl p.2 (Array.mem_map.2 ⟨p,by simpa using hm,rfl⟩)]
 cases o<;>simp only[Op.operands] at h<;>unfold jL
 case buildSlice t n ps=>simp only[zr ps λx ab=>h x (by simpa using ab)]
 case makeMap t r=>cases r<;>rfl
 all_goals (first|rfl|(simp_all;done))
theorem PA{o:Oper}{H aX:J}{v:I}(aw:kindOf P o.op=.pure)(h:cM P o g H=.val v aX):aX=H:=by
 have gI:∀{w:String} {x:Option I},fC H w x=.val v aX->aX=H:=λ{w x} e=>by
  cases x with
  |none=>cases e
  |some y=>cases e;rfl
 obtain⟨dst,op,type,pos,after,guard⟩:=o
 cases op<;>simp only[kindOf] at aw<;>(try (cases aw;done))<;>unfold cM at h<;>simp only at h
 case move=>cases h;rfl
 case assign=>cases h;rfl
 case pick=>
  split at h
  · cases h;rfl
  · cases h;rfl
  · cases h
 case build=>
  repeat' (first|contradiction|(cases h;rfl)|(cases h;done)|split at h)
 case load=>
  repeat' (first|contradiction|(cases h;rfl)|(cases h;done)|exact gI h|split at h)
 case nilCheck=>repeat' (first|contradiction|(cases h;rfl)|(cases h;done)|exact gI h|split at h)
 case binOp=>exact gI h
 case unOp=>repeat' (first|contradiction|(cases h;rfl)|(cases h;done)|exact gI h|split at h)
 case convert s d x=>
  have dC:∀e,P.underlying d≠some (.slice e):=λe he=>by rw[he] at aw;cases aw
  unfold eR at h
  repeat' (first|exact absurd (by assumption) (dC _)|(cases h;rfl)|(cases h;done)|split at h)
 case makeInterface=>repeat' (first|contradiction|(cases h;rfl)|(cases h;done)|exact gI h|split at h)
 case makeFunc=>repeat' (first|contradiction|(cases h;rfl)|(cases h;done)|exact gI h|split at h)
 case makeMap r=>cases r<;>cases aw
 case slice=>exact gI h
 case fieldAddr=>repeat' (first|contradiction|(cases h;rfl)|(cases h;done)|exact gI h|split at h)
 case field=>repeat' (first|contradiction|(cases h;rfl)|(cases h;done)|exact gI h|split at h)
 case indexAddr=>repeat' (first|contradiction|(cases h;rfl)|(cases h;done)|exact gI h|split at h)
 case index=>repeat' (first|contradiction|(cases h;rfl)|(cases h;done)|exact gI h|split at h)
 case lookup=>exact gI h
 case typeAssert=>repeat' (first|contradiction|(cases h;rfl)|(cases h;done)|exact gI h|split at h)
 case extract=>repeat' (first|contradiction|(cases h;rfl)|(cases h;done)|exact gI h|split at h)
 case call c=>
  cases ah:c.callee with
  |value f=>rw[ah] at aw;cases aw
  |invoke r m=>rw[ah] at aw;cases aw
  |builtin b=>
   rw[ah] at aw h
   simp only at h
   cases b<;>simp only at aw<;>(try (cases aw;done))<;>unfold hZ at h<;>simp only at h
   all_goals repeat' (first|contradiction|(cases h;rfl)|(cases h;done)|exact gI h|split at h)
end
end aD
namespace aD
open Go
def kA(ops:Array Oper)(S:List Nat)(j:Nat):Prop:=∀o,ops[j]? =some o->∀e∈o.after,Region.binds .any e=true->e.on∈S
def zs(ops:Array Oper)(S:List Nat):Prop:=∀j∈S,kA ops S j
def Sound(ops:Array Oper)(j m:Nat):Prop:=∀S,zs ops S->kA ops S j->∀b,Nat.testBit m b=true->b∈S
def wM(ops:Array Oper)(n:Nat)(gp:List Nat):Prop:=∀j,j<n->∃m,nth (n-1-j) gp=some m/\Sound ops j m
theorem PB(a b:Nat)(h:Nat.testBit (1<<<a) b=true):b=a:=by
 rw[Nat.shiftLeft_eq,Nat.one_mul,Nat.testBit_two_pow] at h
 exact(of_decide_eq_true h).symm
theorem HL{gp:List Nat}{n:Nat}:∀(l:List Edge) (s b:Nat),Nat.testBit (l.foldl (λs e=>match Region.binds .any e with
  |true=>s|||1<<<e.on|||(nth (n-1-e.on) gp).getD 0
  |false=>s) s) b=true->Nat.testBit s b=true\/∃e∈l,Region.binds .any e=true/\(b=e.on\/Nat.testBit ((nth (n-1-e.on) gp).getD 0) b=true)
 |[],s,b,h=>.inl h
 |e::l,s,b,h=>by
  rw[List.foldl_cons] at h
  rcases HL l _ b h with h|⟨cY,aa,ad⟩
  · cases af:Region.binds .any e with
    |false=>rw[af] at h;exact .inl h
    |true=>
     rw[af] at h
     simp only[Nat.testBit_or,Bool.or_eq_true] at h
     rcases h with(h|h)|h
     · exact .inl h
     · exact .inr ⟨e,by simp,af,.inl (PB _ _ h)⟩
     · exact .inr ⟨e,by simp,af,.inr h⟩
  · exact .inr ⟨cY,by simp[aa],ad⟩
theorem PC{ops:Array Oper}{gp:List Nat}{n:Nat}{o:Oper}(bd:ops[n]? =some o)(af:nA o n=true)(hm:wM ops n gp):Sound ops n (vL gp n o):=by
 intro S jn ai b h
 unfold vL at h
 rw[<-Array.foldl_toList] at h
 rcases HL _ _ _ h with h|⟨e,aa,ad,ax⟩
 · simp at h
 · have he:e∈o.after:=by simpa using aa
   have zq:=ai o bd e he ad
   rcases ax with rfl|ax
   · exact zq
   · have cy:e.on<n:=by
       unfold nA at af
       rw[List.all_eq_true] at af
       have:=af e aa
       simpa[ad] using this
     obtain⟨m,PD,PE⟩:=hm e.on cy
     rw[PD] at ax
     exact PE S jn (jn _ zq) b ax
theorem wM.cons{ops:Array Oper}{gp:List Nat}{n m:Nat}(h:wM ops n gp)(hs:Sound ops n m):wM ops (n+1) (m::gp):=by
 intro j aL
 by_cases e:j=n
 · subst e;exact⟨m,by simp[nth],hs⟩
 · obtain⟨zn,aa,ad⟩:=h j (by omega)
   refine⟨zn,?_,ad⟩
   have:n+1-1-j=(n-1-j)+1:=by omega
   rw[this];exact aa
theorem HM:∀(l:List Oper) (n:Nat) (loc:List (Nat×Acc)) (k:Nat) (o:Oper),l[k]? =some o->ib (l.take (k+1)) n loc=lo o (n+k) (ib (l.take k) n loc)
 |[],n,loc,k,o,h=>by simp at h
 |x::l,n,loc,0,o,h=>by simp at h;subst h;simp[ib]
 |x::l,n,loc,k+1,o,h=>by
  have al:l[k]? =some o:=by simpa using h
  have ba:=HM l (n+1) (lo x n loc) k o al
  simp only[List.take_succ_cons,ib]
  rw[ba]
  have:n+1+k=n+(k+1):=by omega
  rw[this]
theorem wN{ops:Array Oper}:∀(l:List Oper) (n:Nat) (loc:List (Nat×Acc)) (gp:List Nat),(∀k,l[k]? =ops[n+k]?)->(∀s∈e1 l n loc gp,nA s.o s.i=true)->wM ops n gp->∀(k:Nat) (o:Oper),l[k]? =some o->
  ∃s,(e1 l n loc gp)[k]? =some s/\s.i=n+k/\s.o=o/\s.loc=ib (l.take k) n loc/\Sound ops (n+k) s.eU
 |[],n,loc,gp,au,he,hm,k,o,h=>by simp at h
 |x::l,n,loc,gp,au,he,hm,k,o,h=>by
  simp only[e1] at he⊢
  have ab:ops[n]? =some x:=by have:=au 0;simpa using this.symm
  have af:nA x n=true:=he ⟨n,x,vL gp n x,loc⟩ (by simp)
  have hs:=PC ab af hm
  cases k with
  |zero=>
   simp at h;subst h
   exact⟨_,rfl,rfl,rfl,rfl,hs⟩
  |succ k=>
   obtain⟨s,aa,ad,ax,aO,bZ⟩:=wN l (n+1) (lo x n loc) (vL gp n x::gp) (λj=>by have:=au (j+1);simp at this;rw[this];congr 1;omega) (λs hs=>he s (by simp[hs])) (hm.cons hs) k o (by simpa using h)
   exact⟨s,by simpa using aa,by omega,ax,by simpa[ib] using aO,by rw[show n+(k+1)=n+1+k by omega];exact bZ⟩
theorem CD:∀(l:List Oper) (n:Nat) (loc:List (Nat×Acc)) (gp:List Nat),(e1 l n loc gp).length=l.length
 |[],_,_,_=>rfl
 |x::l,n,loc,gp=>by simp[e1,CD l]
theorem uf{ops:Array Oper}:∀{l:List DStep},pw ops l=true->∀s∈l,nA s.o s.i=true
 |[],_,s,h=>by cases h
 |x::l,aG,s,h=>by
  simp only[pw,Bool.and_eq_true] at aG
  rcases List.mem_cons.1 h with rfl|h
  · exact aG.1.1
  · exact uf aG.2 s h
theorem HN{ops:Array Oper}{s:DStep}:∀{l:List DStep},yN ops s l=true->∀bM∈l,(∃t,s.o.dst=some t/\t∈lq ops bM.o)\/(∃t,bM.o.dst=some t/\t∈lq ops s.o)->Nat.testBit bM.eU s.i=true
 |[],_,bM,h=>by cases h
 |x::l,aG,bM,h=>by
  simp only[yN,Bool.and_eq_true] at aG
  rcases List.mem_cons.1 h with rfl|h
  · intro aK
    have aa:=aG.1
    split at aa
    · exact aa
    · rename_i ah
      exfalso
      rw[Bool.or_eq_false_iff] at ah
      rcases aK with⟨t,e,hm⟩|⟨t,e,hm⟩
      · have:=ah.1;rw[e] at this;simp[hm] at this
      · have:=ah.2;rw[e] at this;simp[hm] at this
  · exact HN aG.2 bM h
theorem HO{ops:Array Oper}:∀{l:List DStep},pw ops l=true->∀(i j:Nat) (s bM:DStep),i<j->l[i]? =some s->l[j]? =some bM->(∃t,s.o.dst=some t/\t∈lq ops bM.o)\/(∃t,bM.o.dst=some t/\t∈lq ops s.o)->Nat.testBit bM.eU s.i=true
 |[],_,i,j,s,bM,_,h,_=>by simp at h
 |x::l,aG,i,j,s,bM,qZ,aa,ad=>by
  simp only[pw,Bool.and_eq_true] at aG
  cases j with
  |zero=>omega
  |succ j=>
   have lF:l[j]? =some bM:=by simpa using ad
   cases i with
   |zero=>
    simp at aa;subst aa
    exact HN aG.1.2 bM (List.mem_of_getElem? lF)
   |succ i=>exact HO aG.2 i j s bM (by omega) (by simpa using aa) lF
structure sk where
 env:List I
 d:List b1
 q:bJ
 h:J
 a9:List (Nat×Nat×J)
section
variable {P:Program} {need:Nat} {inR:Bool} {call:ay->List I->J->an} {ops:Array Oper} {r:aT} {cP:Nat}
def lG(P:Program)(need:Nat)(r:aT)(s:DStep)(env:List I):Operand->I:=λx=>dU s.i env r (cT P need s.loc x)
inductive sl(P:Program)(need:Nat)(inR:Bool)(call:ay->List I->J->an)(ops:Array Oper)(r:aT)(cP:Nat)(s:DStep)(st:sk):sk->Prop where
 |ug (aw:kindOf P s.o.op=.alloc) (hw:ey (gG P need ops r s.i st.env s)=some false):sl P need inR call ops r cP s st {st with env:=.aW []::st.env}
 |alloc {v:I} {ob:cx} (aw:kindOf P s.o.op=.alloc) (hw:ey (gG P need ops r s.i st.env s)=some true) (a2:jL P s.o.op (lG P need r s st.env) (cP+s.i)=some (v,ob)):
   sl P need inR call ops r cP s st {st with env:=v::st.env,h:=st.h.set (cP+s.i) (some ob)}
 |pure {v:I} {bG:List b1} {bP:bJ} {al:J} (aw:kindOf P s.o.op=.pure) (he:dV P inR call (gG P need ops r s.i st.env s) s.o (lG P need r s st.env) st.d st.q st.h=.ok v bG bP al):
   sl P need inR call ops r cP s st {st with env:=v::st.env}
 |eg {v:I} {bG:List b1} {bP:bJ} {al:J} (aw:kindOf P s.o.op=.eg) (bd:∀e m h0 l,st.a9=(e,m,h0)::l->Nat.testBit s.eU e=true)
   (he:dV P inR call (gG P need ops r s.i st.env s) s.o (lG P need r s st.env) st.d st.q st.h=.ok v bG bP al):sl P need inR call ops r cP s st ⟨v::st.env,bG,bP,al,(s.i,s.eU,st.h)::st.a9⟩
theorem PF{s:DStep}{rest:List DStep}{st:sk}{x:Bz}(h:ga P need inR call ops r cP (s::rest) st.env st.d st.q st.h st.a9=x)(hf:∀w,x≠ .fail w):
  (∃cj,sl P need inR call ops r cP s st cj/\ga P need inR call ops r cP rest cj.env cj.d cj.q cj.h cj.a9=x)\/
  (kindOf P s.o.op=.eg/\(∀e m h0 l,st.a9=(e,m,h0)::l->Nat.testBit s.eU e=true)/\rest.all (λbM=>Nat.testBit bM.eU s.i)=true/\
   ∃v bG bP al,dV P inR call (gG P need ops r s.i st.env s) s.o (lG P need r s st.env) st.d st.q st.h=.b9 v bG bP al/\x=.b9 v st.env bG bP al ((s.i,s.eU,st.h)::st.a9)):=by
 simp only[ga] at h
 split at h
 · rename_i aw
   split at h
   · exact absurd h.symm (hf _)
   · rename_i hw;exact .inl ⟨_,.ug aw hw,h⟩
   · rename_i hw
     split at h
     · rename_i v ob a2;exact .inl ⟨_,.alloc aw hw a2,h⟩
     · exact absurd h.symm (hf _)
 · rename_i aw
   split at h
   · rename_i he;exact .inl ⟨_,.pure aw he,h⟩
   · exact absurd h.symm (hf _)
   · exact absurd h.symm (hf _)
 · rename_i aw
   split at h
   · exact absurd h.symm (hf _)
   · rename_i bd
     have hN:∀e m h0 l,st.a9=(e,m,h0)::l->Nat.testBit s.eU e=true:=λe m h0 l hs=>by rw[hs] at bd;exact bd
     split at h
     · rename_i he;exact .inl ⟨_,.eg aw hN he,h⟩
     · rename_i he
       split at h
       · rename_i fQ;exact .inr ⟨aw,hN,fQ,_,_,_,_,he,h.symm⟩
       · exact absurd h.symm (hf _)
     · exact absurd h.symm (hf _)
theorem HP:∀(l:List DStep) (st:sk) (x:Bz),ga P need inR call ops r cP l st.env st.d st.q st.h st.a9=x->(∀w,x≠ .fail w)->
  ∃(f:Nat->sk) (N:Nat),f 0=st/\N<=l.length/\(∀k s,k<N->l[k]? =some s->sl P need inR call ops r cP s (f k) (f (k+1)))/\
   ((N=l.length/\x=.ok (f N).env (f N).d (f N).q (f N).h (f N).a9)\/
    (∃s,l[N]? =some s/\kindOf P s.o.op=.eg/\(∀e m h0 l,(f N).a9=(e,m,h0)::l->Nat.testBit s.eU e=true)/\(∀k bM,N<k->l[k]? =some bM->Nat.testBit bM.eU s.i=true)/\
     ∃v bG bP al,dV P inR call (gG P need ops r s.i (f N).env s) s.o (lG P need r s (f N).env) (f N).d (f N).q (f N).h=.b9 v bG bP al/\x=.b9 v (f N).env bG bP al ((s.i,s.eU,(f N).h)::(f N).a9)))
 |[],st,x,h,hf=>⟨λ_=>st,0,rfl,Nat.le_refl _,λk s aw=>by omega,.inl ⟨rfl,h.symm⟩⟩
 |s::l,st,x,h,hf=>by
  rcases PF h hf with⟨cj,aa,ad⟩|⟨aa,ad,ax,aO⟩
  · obtain⟨f,N,ao,ar,aZ,ch⟩:=HP l cj x ad hf
    refine⟨λk=>match k with|0=>st|k+1=>f k,N+1,rfl,by simpa using ar,λk bM aw hs=>?_,?_⟩
    · cases k with
      |zero=>simp at hs;subst hs;simp only[Nat.zero_add,ao];exact aa
      |succ k=>exact aZ k bM (by omega) (by simpa using hs)
    · rcases ch with⟨aA,aC⟩|⟨s2,aA,aC,bN,eW,iO⟩
      · exact .inl ⟨by simp[aA],aC⟩
      · refine .inr ⟨s2,by simpa using aA,aC,bN,λk bM aw hs=>?_,iO⟩
        cases k with
        |zero=>omega
        |succ k=>exact eW k bM (by omega) (by simpa using hs)
  · refine⟨λ_=>st,0,rfl,by simp,λk s aw=>by omega,.inr ⟨s,rfl,aa,ad,λk bM aw hs=>?_,aO⟩⟩
    cases k with
    |zero=>omega
    |succ k=>
     rw[List.all_eq_true] at ax
     exact ax bM (List.mem_of_getElem? (by simpa using hs))
mutual
theorem beq_eq:∀(a c:I),I.beq a c=true->a=c
 |.bool a,c,h=>by
  cases c<;>simp only[I.beq] at h<;>first|(cases h;done)|(simp at h;subst h;rfl)
 |.int k n,c,h=>by
  cases c<;>simp only[I.beq] at h<;>first|(cases h;done)|(simp[a7] at h;obtain⟨rfl,rfl⟩:=h;rfl)
 |.str s,c,h=>by
  cases c<;>simp only[I.beq] at h<;>first|(cases h;done)|(rw[oC] at h;simp at h;subst h;rfl)
 |.aR,c,h=>by cases c<;>simp only[I.beq] at h<;>first|(cases h;done)|rfl
 |.ptr x y,c,h=>by
  cases c<;>simp only[I.beq] at h<;>first|(cases h;done)|(rw[Bool.and_eq_true,Nat.beq_eq,Nat.beq_eq] at h;obtain⟨rfl,rfl⟩:=h;rfl)
 |.a_,c,h=>by cases c<;>simp only[I.beq] at h<;>first|(cases h;done)|rfl
 |.slice x y z cap,c,h=>by
  cases c<;>simp only[I.beq] at h<;>(try (cases h;done))
  rename_i cW yX aac HQ
  simp only[Bool.and_eq_true,Nat.beq_eq] at h
  obtain⟨⟨⟨rfl,rfl⟩,rfl⟩,h⟩:=h
  cases cap<;>cases HQ<;>simp only[b5.beq] at h<;>first|(cases h;done)|(rw[Nat.beq_eq] at h;subst h;rfl)|rfl
 |.g_,c,h=>by cases c<;>simp only[I.beq] at h<;>first|(cases h;done)|rfl
 |.map x,c,h=>by
  cases c<;>simp only[I.beq] at h<;>first|(cases h;done)|(rw[Nat.beq_eq] at h;subst h;rfl)
 |.fi,c,h=>by cases c<;>simp only[I.beq] at h<;>first|(cases h;done)|rfl
 |.fn x as bs,c,h=>by
  cases c<;>simp only[I.beq] at h<;>(try (cases h;done))
  simp only[Bool.and_eq_true,Nat.beq_eq] at h
  obtain⟨⟨rfl,aa⟩,ad⟩:=h
  rw[pF _ _ aa,pF _ _ ad]
 |.cc x,c,h=>by
  cases c<;>simp only[I.beq] at h<;>first|(cases h;done)|(rw[Nat.beq_eq] at h;subst h;rfl)
 |.eO,c,h=>by cases c<;>simp only[I.beq] at h<;>first|(cases h;done)|rfl
 |.iface t v,c,h=>by
  cases c<;>simp only[I.beq] at h<;>(try (cases h;done))
  simp only[Bool.and_eq_true,Nat.beq_eq] at h
  obtain⟨rfl,aa⟩:=h
  rw[beq_eq _ _ aa]
 |.agg cs,c,h=>by
  cases c<;>simp only[I.beq] at h<;>(try (cases h;done))
  rw[pF _ _ h]
 |.aW cs,c,h=>by
  cases c<;>simp only[I.beq] at h<;>(try (cases h;done))
  rw[pF _ _ h]
 |.bad,c,h=>by cases c<;>simp only[I.beq] at h<;>cases h
theorem pF:∀(a c:List I),I.jK a c=true->a=c
 |[],[],_=>rfl
 |[],_::_,h=>by simp[I.jK] at h
 |_::_,[],h=>by simp[I.jK] at h
 |x::a,y::c,h=>by
  simp only[I.jK,Bool.and_eq_true] at h
  rw[beq_eq _ _ h.1,pF _ _ h.2]
end
end
end aD
