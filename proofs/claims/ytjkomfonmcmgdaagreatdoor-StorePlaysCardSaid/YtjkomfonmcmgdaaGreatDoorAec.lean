/-
  THE ABSTRACT EVALUATOR (code, functions, rounds, calls): a deterministic semantics of loaded code, and the proof that its runs are runs of the program in the model, whatever the tape draws. No condition.
-/
import Derived.Test.YtjkomfonmcmgdaaGreatDoorAeb
import Derived.Defers
import Derived.Laws.Externs
import Derived.Orders
set_option linter.unusedVariables false
set_option linter.unusedSimpArgs false
namespace bg
open Go
def nY(P:Program)(need:Nat)(ops:Array Oper):List Oper->List (Nat×Acc)->Nat->List Step
 |[],_,_=>[]
 |o::rest,loc,m=>
  match aliasOf o with
  |some (t,x)=>nY P need ops rest ((t,da P need loc x)::loc) m
  |none=>⟨k6 P need ops loc o,o,loc,m⟩::nY P need ops rest (ix o m loc) (m+1)
def mQ(P:Program)(need:Nat)(ops:Array Oper):List Oper->List (Nat×Acc)->Nat->List (Nat×Acc)
 |[],loc,_=>loc
 |o::rest,loc,m=>
  match aliasOf o with
  |some (t,x)=>mQ P need ops rest ((t,da P need loc x)::loc) m
  |none=>mQ P need ops rest (ix o m loc) (m+1)
theorem GY(P:Program)(need:Nat)(ops:Array Oper):∀(l:List Oper) (loc:List (Nat×Acc)) (st:List Step) (m:Nat),xO P need ops l loc st m=⟨st.reverse++nY P need ops l loc m,mQ P need ops l loc m⟩
 |[],loc,st,m=>by simp[xO,nY,mQ]
 |o::rest,loc,st,m=>by
  unfold xO nY mQ
  cases aV:aliasOf o with
  |some p=>obtain⟨t,x⟩:=p;simp only[aV];exact GY P need ops rest _ st m
  |none=>simp only[aV];rw[GY P need ops rest];simp
section
variable {P:Program} {need:Nat}
theorem qx(t u:Nat)(a:Acc)(l:List (Nat×Acc)):jx t ((u,a)::l)=if t=u then some a else jx t l:=by
 rw[jx]
 by_cases h:t=u
 · subst h;simp
 · have:Nat.beq t u=false:=by
     cases ag:Nat.beq t u with
     |false=>rfl
     |true=>exact absurd (Nat.eq_of_beq_eq_true ag) h
   rw[this,if_neg h]
def Acc.below(m:Nat):Acc->Prop
 |.env j=>j<m
 |_=>True
theorem VO{m:Nat}{env:List ad}{r:ba}{v:ad}{a:Acc}(h:a.below m):ep (m+1) (v::env) r a=ep m env r a:=by
 cases a with
 |env j=>
  simp only[Acc.below] at h
  have:m+1-1-j=(m-1-j)+1:=by omega
  simp only[ep,this,nth]
 |reg p=>rfl
 |val v=>rfl
theorem VP{m:Nat}{env:List ad}{r:ba}{v:ad}:ep (m+1) (v::env) r (.env m)=v:=by
 simp[ep,nth]
def GZ(m:Nat)(loc:List (Nat×Acc)):Prop:=∀t a,jx t loc=some a->a.below m
theorem DH{m:Nat}{loc:List (Nat×Acc)}(h:GZ m loc)(x:Operand):(da P need loc x).below m:=by
 cases x with
 |tmp t=>
  simp only[da]
  cases hf:jx t loc with
  |some a=>exact h t a hf
  |none=>simp only[];cases Nat.testBit need t<;>trivial
 |const v=>trivial
 |global g=>simp only[da];cases Nat.blt g P.globals.size<;>trivial
 |func f=>trivial
theorem Acc.M6{m n:Nat}(h:m<=n){a:Acc}(aV:a.below m):a.below n:=by
 cases a with
 |env j=>exact Nat.lt_of_lt_of_le aV h
 |reg p=>trivial
 |val v=>trivial
structure kN(P:Program)(need:Nat)(μ:bI)(r:ba)(m:Nat)(env:List ad)(loc:List (Nat×Acc))(cH:Array Value):Prop where
 x5:GZ m loc
 rel:∀t,bz μ (ep m env r (da P need loc (.tmp t))) (cH.getD t undef)
theorem kN.mono{μ a9:bI}{r:ba}{m:Nat}{env:List ad}{loc:List (Nat×Acc)}{cH:Array Value}(hle:ga μ a9)(h:kN P need μ r m env loc cH):kN P need a9 r m env loc cH:=⟨h.x5,λt=>(h.rel t).mono hle⟩
theorem kN.eval{μ:bI}{r:ba}{m:Nat}{env:List ad}{loc:List (Nat×Acc)}{a:Act}(h:kN P need μ r m env loc a.tmps)(ar:iA P μ)(x:Operand):bz μ (ep m env r (da P need loc x)) (a.eval x):=by
 cases x with
 |tmp t=>exact h.rel t
 |const v=>exact lO μ v
 |global g=>
  simp only[da,Act.eval]
  cases ag:Nat.blt g P.globals.size with
  |false=>exact trivial
  |true=>
   obtain⟨i,I,ae,ax⟩:=ar g (by simpa using ag)
   obtain⟨iz,i0,Ax⟩:=i
   simp only at ae ax
   subst ae;subst ax
   exact⟨_,I,rfl⟩
 |func f=>exact⟨[],[],rfl,rfl,rfl⟩
theorem kN.init{μ:bI}{r:ba}{cH:Array Value}(h:j6 need μ r cH):kN P need μ r 0 [] [] cH:=
 ⟨λt a h=>by simp[jx] at h,λt=>by
  simp only[da,jx]
  cases ag:Nat.testBit need t with
  |true=>exact h t ag
  |false=>trivial⟩
theorem AJ{cH:Array Value}{d t:Nat}{u:Value}(ai:d<cH.size):(cH.setIfInBounds d u).getD t undef=if t=d then u else cH.getD t undef:=by
 simp only[Array.getD_eq_getD_getElem?,Array.getElem?_setIfInBounds]
 by_cases h:d=t
 · subst h;simp[ai]
 · rw[if_neg h,if_neg (λe=>h e.symm)]
theorem kN.alias{μ:bI}{r:ba}{m:Nat}{env:List ad}{loc:List (Nat×Acc)}{a:Act}(h:kN P need μ r m env loc a.tmps)(ar:iA P μ){t:Nat}(bm:t<a.tmps.size)(x:Operand):
  kN P need μ r m env ((t,da P need loc x)::loc) (a.put (some t) (a.eval x)).tmps:=by
 refine⟨λu b hu=>?_,λu=>?_⟩
 · rw[qx] at hu
   split at hu
   · cases hu;exact DH h.x5 x
   · exact h.x5 u b hu
 · simp only[da,qx,Act.put]
   rw[AJ bm]
   by_cases e:u=t
   · simp only[e,if_true];exact h.eval ar x
   · simp only[e,if_false];exact h.rel u
theorem kN.step{μ:bI}{r:ba}{m:Nat}{env:List ad}{loc:List (Nat×Acc)}{a:Act}(h:kN P need μ r m env loc a.tmps){o:Oper}(bm:∀t,o.dst=some t->t<a.tmps.size){v:ad}{u:Value}(aI:bz μ v u):
  kN P need μ r (m+1) (v::env) (ix o m loc) (a.put o.dst u).tmps:=by
 have old:∀t,bz μ (ep (m+1) (v::env) r (da P need loc (.tmp t))) (a.tmps.getD t undef):=λt=>by
  rw[VO (DH h.x5 _)];exact h.rel t
 unfold ix
 cases ai:o.dst with
 |none=>exact⟨λt b ag=>Acc.M6 (Nat.le_succ m) (h.x5 t b ag),old⟩
 |some d=>
  refine⟨λt b ag=>?_,λt=>?_⟩
  · rw[qx] at ag
    split at ag
    · cases ag;exact Nat.lt_succ_self m
    · exact Acc.M6 (Nat.le_succ m) (h.x5 t b ag)
  · simp only[Act.put]
    rw[AJ (bm d ai)]
    by_cases e:t=d
    · simp only[da,qx,e,if_true,VP];exact aI
    · have:=old t
      simp only[da,qx,e,if_false] at this⊢
      exact this
theorem M7{ops:Array Oper}{cH:Array Value}{j t:Nat}(h:(ops[j]?).bind (·.dst)=some t):yielded ops cH j=match cH.getD t undef with
  |.bool b=>some b
  |_=>none:=by
 unfold yielded
 rw[h,Option.bind_some]
 rw[Array.getD_eq_getD_getElem?]
 cases au:cH[t]? with
 |none=>rfl
 |some v=>simp only[Option.getD_some];cases v<;>rfl
theorem VQ{μ:bI}{ops:Array Oper}{loc:List (Nat×Acc)}{o:Oper}{acc:Acc->ad}{cH:Array Value}(nf:∀t,bz μ (acc (da P need loc (.tmp t))) (cH.getD t undef))(nZ:∀v,acc (.val v)=v):
  ∀rI,fg (match k6 P need ops loc o with|none=>none|some (a,b)=>some (acc a,b))=some rI->Region.wanted o (yielded ops cH)=rI:=by
 intro rI h
 unfold k6 at h
 unfold Region.wanted
 cases ar:o.guard with
 |none=>rw[ar] at h;simp only[fg] at h;cases h;rfl
 |some p=>
  obtain⟨j,b⟩:=p
  rw[ar] at h
  simp only at h⊢
  cases bm:(ops[j]?).bind (·.dst) with
  |none=>rw[bm] at h;simp only[nZ,fg] at h;cases h
  |some t=>
   rw[bm] at h
   simp only at h
   have ao:=nf t
   rw[M7 bm]
   generalize acc (da P need loc (.tmp t))=v at h ao
   unfold fg at h
   split at h
   · rename_i he;cases he
   · rename_i he;cases he;cases h
     have G0:cH.getD t undef=_:=ao
     rw[G0];rfl
   · rename_i he;cases he;cases h
     obtain⟨l,aA,hD⟩:=ao
     cases hD
     rw[aA];rfl
   · cases h
def G1:List Item->Prop
 |.call _ _ _ _::_=>False
 |_=>True
def qy(P:Program)(need b9:Nat)(μ:bI)(r:ba)(H:ab)(w:World)(b:Frame)(k:List Item)(cs0:List Frame)(gj:Machine)(loc:List (Nat×Acc)):oH->Prop
 |.ok env d' br a6=>∃a9 w' cW b5,Steps P gj (lone (b.atR cW k) b5 w')/\kN P need a9 r env.length env loc cW.tmps/\cW.tmps.size=b9/\bK a9 a6 w'/\cA μ H w a9 a6 w'/\hs a9 d' cW.defers/\iO a9 b.kind cs0 br b5
 |.cw v d' br a6=>∃a9 w' cW b5 u bq,Steps P gj (lone {b.atR cW bq with mode:=.panicking [{v:=u,recovered:=false}]} b5 w')/\G1 bq/\bz a9 v u/\
   (∀t,jx t loc=none->Nat.testBit need t=true->bz a9 (r.get (h_ t)) (cW.tmps.getD t undef))/\cW.tmps.size=b9/\bK a9 a6 w'/\cA μ H w a9 a6 w'/\hs a9 d' cW.defers/\iO a9 b.kind cs0 br b5
 |.fail _=>True
theorem qy.of_steps{b9:Nat}{μ ja:bI}{r:ba}{H H1:ab}{w df:World}{b:Frame}{k:List Item}{cs0:List Frame}{gj a3:Machine}{loc:List (Nat×Acc)}{x:oH}(au:bK μ H w)(kr:bK ja H1 df)(h:Steps P gj a3)(aV:cA μ H w ja H1 df)
  (I:qy P need b9 ja r H1 df b k cs0 a3 loc x):qy P need b9 μ r H w b k cs0 gj loc x:=by
 cases x with
 |ok env d q a6=>
  obtain⟨a9,w',cW,b5,s1,s2,b1,b_,cI,dz⟩:=I
  exact⟨a9,w',cW,b5,h.trans s1,s2,b1,b_,cA.trans au kr aV cI,dz⟩
 |cw v d q a6=>
  obtain⟨a9,w',cW,b5,u,bq,s1,aj,s2,b1,b_,cI,dz,ek⟩:=I
  exact⟨a9,w',cW,b5,u,bq,h.trans s1,aj,s2,b1,b_,cI,cA.trans au kr aV dz,ek⟩
 |fail s=>trivial
theorem G2{ops:Array Oper}:∀(l:List Oper) (loc:List (Nat×Acc)) (m t:Nat),jx t (mQ P need ops l loc m)=none->jx t loc=none
 |[],loc,m,t,h=>h
 |o::rest,loc,m,t,h=>by
  unfold mQ at h
  cases aV:aliasOf o with
  |some p=>
   obtain⟨u,x⟩:=p
   rw[aV] at h
   have:=G2 rest _ m t h
   rw[qx] at this
   split at this
   · cases this
   · exact this
  |none=>
   rw[aV] at h
   have:=G2 rest _ _ t h
   unfold ix at this
   split at this
   · rw[qx] at this
     split at this
     · cases this
     · exact this
   · exact this
theorem VR{o:Oper}{t:Nat}{x:Operand}(h:aliasOf o=some (t,x)):o.guard=none/\o.dst=some t/\∀cP,execOp cP o=pure (.value (cP x)):=by
 unfold aliasOf at h
 split at h
 · rename_i I ae ax;cases h;exact⟨I,ae,λcP=>by simp[execOp,ax]⟩
 · rename_i I ae ax;cases h;exact⟨I,ae,λcP=>by simp[execOp,ax]⟩
 · cases h
theorem AK(a:Act)(dst:Option Tmp)(u:Value):(a.put dst u).tmps.size=a.tmps.size:=by cases dst<;>simp[Act.put]
theorem DI{call:ff->List ad->ab->bE}(ah:kM P call){b9:Nat}{ops:Array Oper}(me:∀o∈ops.toList,∀t,o.dst=some t->t<b9){b:Frame}{inR:Bool}(gp:inR=b.roundOf.isSome){r:ba}{k:List Item}{cs0:List Frame}:
  ∀(l:List Oper) (i0:Nat) (loc:List (Nat×Acc)) (m:Nat) (env:List ad) (d:List cb) (q:bU) (μ:bI) (H:ab) (w:World) (a:Act) (cs:List Frame),ops.toList.drop i0=l->env.length=m->
   kN P need μ r m env loc a.tmps->a.tmps.size=b9->bK μ H w->iA P μ->hs μ d a.defers->iO μ b.kind cs0 q cs->
   qy P need b9 μ r H w b k cs0 (lone (b.atR a (.inRegion ops (List.range' i0 l.length)::k)) cs w) (mQ P need ops l loc m) (jI P need inR call r (nY P need ops l loc m) env d q H)
 |[],i0,loc,m,env,d,q,μ,H,w,a,cs,aA,hm,oR,bJ,au,ar,ai,aK=>by
  subst hm
  exact⟨μ,w,a,cs,.one stepR_region_end,oR,bJ,au,cA.refl _ _ _,ai,aK⟩
 |o::rest,i0,loc,m,env,d,q,μ,H,w,a,cs,aA,hm,oR,bJ,au,ar,ai,aK=>by
  have bc:ops[i0]? =some o:=by
   have:=congrArg List.head? aA
   simpa[List.head?_drop] using this
  have pC:ops.toList.drop (i0+1)=rest:=by
   have:=congrArg List.tail aA
   simpa[List.tail_drop] using this
  have je:o∈ops.toList:=by
   rw[<-Array.getElem?_toList] at bc
   exact List.mem_of_getElem? bc
  have DJ:∀t,o.dst=some t->t<a.tmps.size:=λt h=>by rw[bJ];exact me o je t h
  rw[List.length_cons,List.range'_succ]
  unfold nY mQ
  cases aV:aliasOf o with
  |some p=>
   obtain⟨t,x⟩:=p
   simp only
   obtain⟨cu,cU,dm⟩:=VR aV
   have hw:Region.wanted o (yielded ops a.tmps)=true:=by simp[Region.wanted,cu]
   have cL:=stepGR_op (P:=P) (b:=b) (a:=a) (k:=k) (cs:=cs) (w:=w) (rest:=List.range' (i0+1) rest.length) bc hw
   have vY:o.semAt b.roundOf a.eval=execOp a.eval o:=by
    refine Oper.semAt_eq _ _ _ λc e=>?_
    have:=dm a.eval
    unfold aliasOf at aV
    rw[e] at aV
    split at aV
    · rename_i h;cases h
    · rename_i h;cases h
    · cases aV
   rw[vY] at cL
   obtain⟨ak,_⟩:=DD cL
   have al:=ak (a.eval x) w (by rw[dm];rfl)
   have oP:(b.atR a (.inRegion ops (i0::List.range' (i0+1) rest.length)::k)).finish (a.eval x)=b.atR (a.put (some t) (a.eval x)) (.inRegion ops (List.range' (i0+1) rest.length)::k):=by
    rw[Frame.finish_atR,bc]
    simp only[Option.bind_some,cU]
   rw[oP] at al
   have bl:=DI (k:=k) ah me gp rest (i0+1) ((t,da P need loc x)::loc) m env d q μ H w (a.put (some t) (a.eval x)) cs pC hm (oR.alias ar (DJ t cU) x) ((AK _ _ _).trans bJ) au ar (by rw[put_defers];exact ai) aK
   exact bl.of_steps au au al (cA.refl _ _ _)
  |none=>
   simp only[jI]
   have gP:=M3 (P:=P) ah au ar (b:=b) (a:=a) (ops:=ops) (i:=i0) (rest:=List.range' (i0+1) rest.length) (k:=k) (cs0:=cs0) (cs:=cs) bc (gd:=match k6 P need ops loc o with|none=>none|some (x,c)=>some (ep m env r x,c))
    (VQ (acc:=ep m env r) oR.rel (λv=>rfl)) (g:=λx=>ep m env r (da P need loc x)) (λx=>oR.eval ar x) ai aK gp
   generalize eI P inR call (match k6 P need ops loc o with|none=>none|some (x,c)=>some (ep m env r x,c)) o (λx=>ep m env r (da P need loc x)) d q H=res at gP⊢
   cases res with
   |ok v d' br a6=>
    obtain⟨a9,w',u,vW,b5,s1,s2,b1,b_,cI,dz⟩:=gP
    have G3:=(oR.mono b_.le).step (a:=a) (o:=o) DJ s2
    have bl:=DI (k:=k) ah me gp rest (i0+1) (ix o m loc) (m+1) (v::env) d' br a9 a6 w' {tmps:=(a.put o.dst u).tmps,defers:=vW} b5 pC (by simp[hm]) G3 ((AK _ _ _).trans bJ) b1 (ar.mono b_.le) cI dz
    exact bl.of_steps au b1 s1 b_
   |cw v d' br a6=>
    obtain⟨a9,w',u,s1,s2,b1,b_,cI,dz⟩:=gP
    refine⟨a9,w',a,cs,u,_,s1,trivial,s2,λt bm aH=>?_,bJ,b1,b_,cI,dz⟩
    have h0:=G2 (P:=P) (need:=need) (ops:=ops) rest _ _ t bm
    have I:jx t loc=none:=by
     unfold ix at h0
     split at h0
     · rw[qx] at h0
       split at h0
       · cases h0
       · exact h0
     · exact h0
    have:=(oR.mono b_.le).rel t
    simp only[da,I,aH,ep] at this
    exact this
   |fail s=>trivial
end
end bg
namespace bg
open Go
section
variable {P:Program} {need:Nat}
theorem M8(need m:Nat)(env:List ad)(gE:ba):∀(loc:List (Nat×Acc)) (r:ba) (t:Nat),Nat.testBit need t=true->
  (rr need m env gE loc r).get (h_ t)=match jx t loc with|some a=>ep m env gE a|none=>r.get (h_ t)
 |[],r,t,bm=>rfl
 |(u,a)::l,r,t,bm=>by
  rw[qx]
  simp only[rr]
  by_cases e:t=u
  · subst e
    simp only[bm,if_true,ba.dx]
  · have bl:=M8 need m env gE l r t bm
    cases hu:Nat.testBit need u with
    |true=>simp only[ba.dx,if_neg e,bl]
    |false=>simp only[if_neg e,bl]
theorem M9:∀(loc:List (Nat×Acc)) (r:ba) (t:Nat),(xP loc r).get (h_ t)=match jx t loc with|some a=>.bad|none=>r.get (h_ t)
 |[],r,t=>rfl
 |(u,a)::l,r,t=>by
  rw[qx]
  simp only[xP,ba.dx]
  by_cases e:t=u
  · simp only[e,if_true]
  · simp only[if_neg e,M9 l r t]
theorem kN.outs{μ:bI}{r:ba}{m:Nat}{env:List ad}{loc:List (Nat×Acc)}{cH:Array Value}(h:kN P need μ r m env loc cH):j6 need μ (rr need m env r loc r) cH:=by
 intro t bm
 rw[M8 need m env r loc r t bm]
 have:=h.rel t
 simp only[da,bm] at this
 cases hf:jx t loc with
 |some a=>rw[hf] at this;exact this
 |none=>rw[hf] at this;exact this
theorem vZ{e:bW}{r:ba}{d:List cb}{q:bU}{h:ab}{f:ba->List cb->bU->ab->k5}(he:e≠ .nrm):sr (.ok e r d q h) f=.ok e r d q h:=by
 cases e<;>first|rfl|exact absurd rfl he
def ur(P:Program)(μ:bI)(gj:Machine)(b:Frame)(k:List Item)(cs:List Frame)(a:Act)(w:World):bW->Prop
 |.nrm=>Steps P gj (lone (b.atR a k) cs w)
 |.exit id=>∃bq,exitTo id bq=exitTo id k/\Steps P gj (lone (b.atR a (.code (.exit id)::bq)) cs w)
 |.ret=>∃bq,Steps P gj (lone (b.atR a (.code .ret::bq)) cs w)
 |.goto _=>False
 |.cw v=>∃bq u,(bz μ v u/\G1 bq)/\Steps P gj (lone {b.atR a bq with mode:=.panicking [{v:=u,recovered:=false}]} cs w)
theorem ur.of_steps{μ:bI}{gj a3:Machine}{b:Frame}{k:List Item}{cs:List Frame}{a:Act}{w:World}{e:bW}(h:Steps P gj a3)(aw:ur P μ a3 b k cs a w e):ur P μ gj b k cs a w e:=by
 cases e with
 |nrm=>exact h.trans aw
 |exit id=>obtain⟨bq,I,ae⟩:=aw;exact⟨bq,I,h.trans ae⟩
 |ret=>obtain⟨bq,ae⟩:=aw;exact⟨bq,h.trans ae⟩
 |goto l=>exact aw
 |cw v=>obtain⟨bq,u,I,ae⟩:=aw;exact⟨bq,u,I,h.trans ae⟩
theorem ur.pass{μ:bI}{gj:Machine}{b:Frame}{x:Item}{k:List Item}{cs:List Frame}{a:Act}{w:World}{e:bW}(aa:∀id,x≠ .inBlock id)(he:e≠ .nrm)(h:ur P μ gj b (x::k) cs a w e):ur P μ gj b k cs a w e:=by
 cases e with
 |nrm=>exact absurd rfl he
 |exit id=>
  obtain⟨bq,I,ae⟩:=h
  refine⟨bq,I.trans ?_,ae⟩
  cases x<;>first|rfl|exact absurd rfl (aa _)
 |ret=>exact h
 |goto l=>exact h
 |cw v=>exact h
def mR(P:Program)(need b9:Nat)(μ:bI)(H:ab)(w:World)(b:Frame)(k:List Item)(cs0:List Frame)(gj:Machine):k5->Prop
 |.ok e r' d' br a6=>∃a9 w' cW b5,ur P a9 gj b k b5 cW w' e/\j6 need a9 r' cW.tmps/\cW.tmps.size=b9/\bK a9 a6 w'/\cA μ H w a9 a6 w'/\hs a9 d' cW.defers/\iO a9 b.kind cs0 br b5
 |.fail _=>True
theorem mR.of_steps{b9:Nat}{μ ja:bI}{H H1:ab}{w df:World}{b:Frame}{k:List Item}{cs0:List Frame}{gj a3:Machine}{x:k5}(au:bK μ H w)(kr:bK ja H1 df)(h:Steps P gj a3)(aV:cA μ H w ja H1 df)
  (I:mR P need b9 ja H1 df b k cs0 a3 x):mR P need b9 μ H w b k cs0 gj x:=by
 cases x with
 |ok e r d q a6=>
  obtain⟨a9,w',cW,b5,s1,s2,b1,b_,cI,dz⟩:=I
  exact⟨a9,w',cW,b5,s1.of_steps h,s2,b1,b_,cA.trans au kr aV cI,dz⟩
 |fail s=>trivial
def oS(μ:bI)(b:Frame):Option Nat->Prop
 |none=>b.roundOf=none
 |some l=>∃i,μ l=some i/\b.roundOf=some i.bx
theorem oS.mono{μ a9:bI}(hle:ga μ a9){b:Frame}{rd:Option Nat}(h:oS μ b rd):oS a9 b rd:=by
 cases rd with
 |none=>exact h
 |some l=>obtain⟨i,I,ae⟩:=h;exact⟨i,hle _ _ I,ae⟩
theorem oS.isSome{μ:bI}{b:Frame}{rd:Option Nat}(h:oS μ b rd):rd.isSome=b.roundOf.isSome:=by
 cases rd with
 |none=>have:b.roundOf=none:=h;simp[this]
 |some l=>obtain⟨i,I,ae⟩:=h;simp[ae]
def oT(P:Program)(need b9:Nat)(call:ff->List ad->ab->bE):Prop:=
 ∀(ops:Array Oper) (id:Nat),(∀o∈ops.toList,∀t,o.dst=some t->t<b9)->sv ops (f_ ops.toList 0 [] [])=true->
  ∀(b:Frame) (inR:Bool) (r:ba) (d:List cb) (q:bU) (H:ab) (μ:bI) (w:World) (a:Act) (k:List Item) (cs0 cs:List Frame),inR=b.roundOf.isSome->j6 need μ r a.tmps->a.tmps.size=b9->bK μ H w->iA P μ->hs μ d a.defers->iO μ b.kind cs0 q cs->
   qy P need b9 μ r H w b k cs0 (lone (b.atR a (.code (.region id ops true)::k)) cs w) (kq ops.toList 0 []) (vD P need inR call ops r d q H)
def M_(P:Program)(need b9:Nat)(call:ff->List ad->ab->bE):Prop:=
 ∀(f:Operand) (ps:Array Nat) (as cK:Code),iM b9 (.rangeFunc f ps as cK)=true->∀(b:Frame) (rd:Option Nat) (r:ba) (d:List cb) (q:bU) (H:ab) (μ:bI) (w:World) (a:Act) (k:List Item) (cs0 cs:List Frame),oS μ b rd->j6 need μ r a.tmps->a.tmps.size=b9->bK μ H w->iA P μ->hs μ d a.defers->iO μ b.kind cs0 q cs->
  mR P need b9 μ H w b k cs0 (lone (b.atR a (.code (.rangeFunc f ps as cK)::k)) cs w) (et P need rd call (.rangeFunc f ps as cK) r d q H)
theorem VS{b:Frame}{a:Act}{c:Code}{k:List Item}{cs:List Frame}{w:World}:step P (lone (b.atR a (.inScope c::k)) cs w)=.next (lone (b.atR a k) cs w):=
 step_lone_go (by simp[stepG,stepG.exec,Frame.atR])
theorem Na{b:Frame}{a:Act}{c:Code}{k:List Item}{cs:List Frame}{w:World}:step P (lone (b.atR a (.code (.scope c)::k)) cs w)=.next (lone (b.atR a (.code c::.inScope c::k)) cs w):=
 step_lone_go (by simp[stepG,stepG.exec,Frame.atR])
theorem qy.code{b9:Nat}{μ:bI}{r:ba}{H:ab}{w:World}{b:Frame}{k:List Item}{cs0:List Frame}{gj:Machine}{loc:List (Nat×Acc)}{x:oH}(h:qy P need b9 μ r H w b k cs0 gj loc x):
  mR P need b9 μ H w b k cs0 gj (oI need r loc x):=by
 cases x with
 |ok env d q a6=>
  obtain⟨a9,w',cW,b5,s1,s2,b1,b_,cI,dz⟩:=h
  exact⟨a9,w',cW,b5,s1,s2.outs,b1,b_,cI,dz⟩
 |cw v d q a6=>
  obtain⟨a9,w',cW,b5,u,bq,s1,aj,s2,b1,b_,cI,dz,ek⟩:=h
  refine⟨a9,w',cW,b5,⟨bq,u,⟨s2,aj⟩,s1⟩,λt bm=>?_,b_,cI,dz,ek⟩
  rw[M9]
  cases hf:jx t loc with
  |some x=>trivial
  |none=>exact b1 t hf bm
 |fail s=>trivial
def Nb(P:Program)(need b9:Nat)(call:ff->List ad->ab->bE)(rd:Option Nat)(c:Code):Prop:=
 ∀(b:Frame) (r:ba) (d:List cb) (q:bU) (H:ab) (μ:bI) (w:World) (a:Act) (k:List Item) (cs0 cs:List Frame),oS μ b rd->j6 need μ r a.tmps->a.tmps.size=b9->bK μ H w->iA P μ->hs μ d a.defers->iO μ b.kind cs0 q cs->
  mR P need b9 μ H w b k cs0 (lone (b.atR a (.code c::k)) cs w) (et P need rd call c r d q H)
theorem Nc{b9:Nat}{call:ff->List ad->ab->bE}{rd:Option Nat}{c:Code}(gG:Nb P need b9 call rd c)(b:Frame)(k:List Item)(cs0:List Frame):∀(n:Nat) (r:ba) (d:List cb) (q:bU) (H:ab) (μ:bI) (w:World) (a:Act) (cs:List Frame),oS μ b rd->j6 need μ r a.tmps->a.tmps.size=b9->bK μ H w->iA P μ->hs μ d a.defers->iO μ b.kind cs0 q cs->
  mR P need b9 μ H w b k cs0 (lone (b.atR a (.code c::.inLoop c::k)) cs w) (ru (et P need rd call c) n r d q H)
 |0,r,d,q,H,μ,w,a,cs,c8,ao,bJ,au,ar,ai,aK=>trivial
 |n+1,r,d,q,H,μ,w,a,cs,c8,ao,bJ,au,ar,ai,aK=>by
  have I:=gG b r d q H μ w a (.inLoop c::k) cs0 cs c8 ao bJ au ar ai aK
  unfold ru
  cases aa:et P need rd call c r d q H with
  |fail s=>trivial
  |ok e r' d' br a6=>
   rw[aa] at I
   obtain⟨a9,w',cW,b5,s1,s2,b1,b_,cI,dz,ek⟩:=I
   by_cases he:e=.nrm
   · subst he
     have bl:=Nc gG b k cs0 n r' d' br a6 a9 w' cW b5 (c8.mono cI.le) s2 b1 b_ (ar.mono cI.le) dz ek
     exact bl.of_steps au b_ (Steps.trans s1 (.one stepR_inLoop)) cI
   · rw[vZ he]
     exact⟨a9,w',cW,b5,s1.pass (λid h=>by cases h) he,s2,b1,b_,cI,dz,ek⟩
theorem qz{b9:Nat}{call:ff->List ad->ab->bE}(ah:kM P call)(hdr:oT P need b9 call)(mM:M_ P need b9 call)(rd:Option Nat):∀(c:Code),iM b9 c=true->Nb P need b9 call rd c
 |.skip,_=>λb r d q H μ w a k cs0 cs c8 ao bJ au ar ai aK=>⟨μ,w,a,cs,.one stepR_skip,ao,bJ,au,cA.refl _ _ _,ai,aK⟩
 |.label l,_=>λb r d q H μ w a k cs0 cs c8 ao bJ au ar ai aK=>⟨μ,w,a,cs,.one stepR_label,ao,bJ,au,cA.refl _ _ _,ai,aK⟩
 |.exit id,_=>λb r d q H μ w a k cs0 cs c8 ao bJ au ar ai aK=>⟨μ,w,a,cs,⟨k,rfl,Steps.refl _ _⟩,ao,bJ,au,cA.refl _ _ _,ai,aK⟩
 |.ret,_=>λb r d q H μ w a k cs0 cs c8 ao bJ au ar ai aK=>⟨μ,w,a,cs,⟨k,Steps.refl _ _⟩,ao,bJ,au,cA.refl _ _ _,ai,aK⟩
 |.goto l,_=>λb r d q H μ w a k cs0 cs c8 ao bJ au ar ai aK=>trivial
 |.refuse s,_=>λb r d q H μ w a k cs0 cs c8 ao bJ au ar ai aK=>trivial
 |.region id ops draw,di=>λb r d q H μ w a k cs0 cs c8 ao bJ au ar ai aK=>by
  simp only[iM,Bool.and_eq_true,List.all_eq_true] at di
  have me:∀o∈ops.toList,∀t,o.dst=some t->t<b9:=λo bc t bm=>by
   have:=di.1 o bc
   rw[bm] at this
   simpa using this
  cases draw with
  |false=>
   have h:=DI (P:=P) (need:=need) (k:=k) ah me (b:=b) (inR:=rd.isSome) c8.isSome (r:=r) (cs0:=cs0) ops.toList 0 [] 0 [] d q μ H w a cs rfl rfl (kN.init ao) bJ au ar ai aK
   have aA:List.range' 0 ops.toList.length=List.range ops.size:=by rw[List.range_eq_range'];simp
   rw[aA] at h
   have ae:=qy.code h
   have hV:rq P need ops=⟨nY P need ops ops.toList [] 0,mQ P need ops ops.toList [] 0⟩:=by
    unfold rq;rw[GY];simp
   simp only[et,hV]
   exact mR.of_steps au au (.one stepR_region) (cA.refl _ _ _) ae
  |true=>
   have sL:sv ops (f_ ops.toList 0 [] [])=true:=by simpa using di.2
   have h:=hdr ops id me sL b rd.isSome r d q H μ w a k cs0 cs c8.isSome ao bJ au ar ai aK
   simp only[et]
   exact qy.code h
 |.seq x y,di=>λb r d q H μ w a k cs0 cs c8 ao bJ au ar ai aK=>by
  simp only[iM,Bool.and_eq_true] at di
  have I:=qz ah hdr mM rd x di.1 b r d q H μ w a (.code y::k) cs0 cs c8 ao bJ au ar ai aK
  simp only[et]
  cases aa:et P need rd call x r d q H with
  |fail s=>trivial
  |ok e r' d' br a6=>
   rw[aa] at I
   obtain⟨a9,w',cW,b5,s1,s2,b1,b_,cI,dz,ek⟩:=I
   by_cases he:e=.nrm
   · subst he
     have ae:=qz ah hdr mM rd y di.2 b r' d' br a6 a9 w' cW k cs0 b5 (c8.mono cI.le) s2 b1 b_ (ar.mono cI.le) dz ek
     exact ae.of_steps au b_ (Steps.head stepR_seq s1) cI
   · rw[vZ he]
     exact⟨a9,w',cW,b5,(s1.pass (λid h=>by cases h) he).of_steps (.one stepR_seq),s2,b1,b_,cI,dz,ek⟩
 |.cond c x y,di=>λb r d q H μ w a k cs0 cs c8 ao bJ au ar ai aK=>by
  simp only[iM,Bool.and_eq_true] at di
  simp only[et]
  have gu:=(kN.init (P:=P) ao).eval (a:=a) ar c
  split
  · rename_i qq
    rw[qq] at gu
    have h:=qz ah hdr mM rd x di.1 b r d q H μ w a k cs0 cs c8 ao bJ au ar ai aK
    exact h.of_steps au au (.one (stepR_cond (t:=true) gu)) (cA.refl _ _ _)
  · rename_i qq
    rw[qq] at gu
    have h:=qz ah hdr mM rd y di.2 b r d q H μ w a k cs0 cs c8 ao bJ au ar ai aK
    exact h.of_steps au au (.one (stepR_cond (t:=false) gu)) (cA.refl _ _ _)
  · trivial
 |.block id c,di=>λb r d q H μ w a k cs0 cs c8 ao bJ au ar ai aK=>by
  have I:=qz ah hdr mM rd c di b r d q H μ w a (.inBlock id::k) cs0 cs c8 ao bJ au ar ai aK
  simp only[et]
  cases aa:et P need rd call c r d q H with
  |fail s=>trivial
  |ok e r' d' br a6=>
   rw[aa] at I
   obtain⟨a9,w',cW,b5,s1,s2,b1,b_,cI,dz,ek⟩:=I
   cases e with
   |nrm=>exact⟨a9,w',cW,b5,Steps.head stepR_block (Steps.trans s1 (.one stepR_inBlock)),s2,b1,b_,cI,dz,ek⟩
   |exit i=>
    obtain⟨bq,aG,aE⟩:=s1
    by_cases jf:i=id
    · simp only[jf,if_true]
      subst jf
      have bH:exitTo i bq=some k:=by rw[aG];simp[exitTo]
      exact⟨a9,w',cW,b5,Steps.head stepR_block (Steps.trans aE (.one (stepR_exit bH))),s2,b1,b_,cI,dz,ek⟩
    · simp only[if_neg jf]
      have:(id==i)=false:=by simp;exactλh=>jf h.symm
      exact⟨a9,w',cW,b5,⟨bq,aG.trans (by simp[exitTo,this]),Steps.head stepR_block aE⟩,s2,b1,b_,cI,dz,ek⟩
   |ret=>obtain⟨bq,aE⟩:=s1;exact⟨a9,w',cW,b5,⟨bq,Steps.head stepR_block aE⟩,s2,b1,b_,cI,dz,ek⟩
   |goto l=>exact s1.elim
   |cw v=>obtain⟨bq,u,aG,aE⟩:=s1;exact⟨a9,w',cW,b5,⟨bq,u,aG,Steps.head stepR_block aE⟩,s2,b1,b_,cI,dz,ek⟩
 |.loop c,di=>λb r d q H μ w a k cs0 cs c8 ao bJ au ar ai aK=>by
  have h:=Nc (qz ah hdr mM rd c di) b k cs0 100000 r d q H μ w a cs c8 ao bJ au ar ai aK
  simp only[et]
  exact h.of_steps au au (.one stepR_loop) (cA.refl _ _ _)
 |.scope c,di=>λb r d q H μ w a k cs0 cs c8 ao bJ au ar ai aK=>by
  have I:=qz ah hdr mM rd c di b r d q H μ w a (.inScope c::k) cs0 cs c8 ao bJ au ar ai aK
  simp only[et]
  cases aa:et P need rd call c r d q H with
  |fail s=>trivial
  |ok e r' d' br a6=>
   rw[aa] at I
   obtain⟨a9,w',cW,b5,s1,s2,b1,b_,cI,dz,ek⟩:=I
   by_cases he:e=.nrm
   · subst he
     exact⟨a9,w',cW,b5,Steps.head Na (Steps.trans s1 (.one VS)),s2,b1,b_,cI,dz,ek⟩
   · exact⟨a9,w',cW,b5,(s1.pass (λid h=>by cases h) he).of_steps (.one Na),s2,b1,b_,cI,dz,ek⟩
 |.rangeFunc f ps as cK,di=>λb r d q H μ w a k cs0 cs c8 ao bJ au ar ai aK=>mM f ps as cK di b rd r d q H μ w a k cs0 cs c8 ao bJ au ar ai aK
end
end bg
namespace bg
open Go
section
variable {P:Program} {need:Nat}
theorem VT{w h3:World}{cs:List Frame}{b:Frame}{a:Act}{l:Nat}{k:List Item}{s:Sem Next}{DK:Frame}
  (cL:(stepG P true {frame:=DK,callers:=cs,status:=.running,dying:=none} h3).bare=(stepG.apply P true (b.atR a (.inRangeFunc l::k)) cs none s w).bare):
  (∀v w',s.run P w=.ok (.value v) w'->Steps P (lone DK cs h3) (lone ((b.atR a (.inRangeFunc l::k)).finish v) cs w'))/\
  (∀f args w',s.run P w=.ok (.enter f args) w'->Steps P (lone DK cs h3) (lone (Frame.enter P f args .normal) (b.atR a (.inRangeFunc l::k)::cs) w'))/\
  (∀nW f tmps assign body w',s.run P w=.ok (.round nW f tmps assign body) w'->Steps P (lone DK cs h3) (lone (Frame.round nW f tmps assign body .normal) (b.atR a (.inRangeFunc l::k)::cs) w')):=by
 refine⟨λv w' ao=>.one (step_lone_go ?_),λf args w' ao=>.one (step_lone_go ?_),λl f tmps assign body w' ao=>.one (step_lone_go ?_)⟩
 · rw[cL];simp[stepG.apply,ao]
 · rw[cL];simp[stepG.apply,ao,Frame.atR]
 · rw[cL];simp[stepG.apply,ao]
theorem VU{b:Frame}{a:Act}{f:Operand}{ps:Array Nat}{as cK:Code}{k:List Item}{cs:List Frame}{w df:World}{l:Nat}{mark:List Deferred}(he:(Instr.enterLoop b.fn a.tmps ps as cK b.roundOf).run P w=.ok (l,mark) df):
  (stepG P true {frame:=b.atR a (.code (.rangeFunc f ps as cK)::k),callers:=cs,status:=.running,dying:=none} w).bare=
   (stepG.apply P true (b.atR {tmps:=a.tmps,defers:=mark++a.defers} (.inRangeFunc l::k)) cs none (do let d<-Deferred.ofValue (a.eval f) #[.func (.yield l) #[] #[]];invoke d.target d.args) df).bare:=by
 have DL:=Frame.eval_atR b {tmps:=a.tmps,defers:=mark++a.defers} (.inRangeFunc l::k)
 simp only[Frame.atR] at DL
 have VV:({tmps:=a.tmps,defers:=mark++a.defers}:Act).eval=a.eval:=funext λx=>by cases x<;>rfl
 simp only[stepG,stepG.exec,Frame.atR,Sem.runT_eq,he,GStep.bare_after]
 have VW:resolve a.eval {callee:=.value f,args:=#[.const (.func (.yield l) #[] #[])],argTypes:=#[]} 0=Deferred.ofValue (a.eval f) #[.func (.yield l) #[] #[]]:=by simp[resolve,Act.eval]
 rw[DL,VV,VW]
theorem VX{b:Frame}{a:Act}{l:Nat}{k:List Item}{cs:List Frame}{w w':World}{pL:Option Code}(he:(Instr.endLoop l).run P w=.ok pL w'):
  step P (lone (b.atR a (.endRangeFunc l::k)) cs w)=.next (lone (b.atR a ((pL.map Item.code).toList++k)) cs w'):=
 step_lone_go (by simp[stepG,stepG.exec,Frame.atR,Sem.runT_eq,he])
theorem VY{b9:Nat}{b:Frame}{a:Act}{r:ba}{ps:Array Nat}{as cK:Code}(di:iM b9 as=true/\iM b9 cK=true/\∀t∈ps.toList,t<b9){μ:bI}{H:ab}{w:World}{rd:Option Nat}(c8:oS μ b rd)(ao:j6 need μ r a.tmps)(bJ:a.tmps.size=b9)(au:bK μ H w)
  {d:List cb}(ai:hs μ d a.defers){l:Nat}{d':List cb}{H1:ab}
  (aA:l=qj rd H.n)(he:z5 need rd r ps.toList as cK d H=some (d',H1)):
  ∃a9 w' mark i,(Instr.enterLoop b.fn a.tmps ps as cK b.roundOf).run P w=.ok (i.bx,mark) w'/\a9 l=some i/\bK a9 H1 w'/\cA μ H w a9 H1 w'/\hs a9 d' (mark++a.defers):=by
 subst bJ
 unfold qj at aA
 unfold z5 at he
 cases rd with
 |none=>
  have ag:b.roundOf=none:=c8
  cases he
  obtain⟨r1,r2⟩:=au.alloc (.defrd (some [])) (.deferred (some [])) 0 ⟨[],World.heap_alloc_new _ _,rfl⟩
  have hu:gx μ H.n ⟨w.heap.size,0,0⟩ H.n=some ⟨w.heap.size,0,0⟩:=hy _ _ _
  have DM:=r1.qo ⟨(w.alloc (.deferred (some []))).heap.size,0,0⟩
  obtain⟨a8,a2⟩:=r1.alloc (.loop .ready none need r ps.toList as cK H.n) (.loop {state:=.ready,pending:=none,fn:=b.fn,tmps:=a.tmps,params:=ps,assign:=as,body:=cK,defers:=w.heap.size}) 0
   ⟨a.tmps,⟨w.heap.size,0,0⟩,b.fn,DM _ _ hu,World.heap_alloc_new _ _,ao.mono (r2.le.trans DM),di.1,di.2.1,di.2.2⟩
  refine⟨_,_,[{target:=.collected w.heap.size,args:=#[]}],⟨(w.alloc (.deferred (some []))).heap.size,0,0⟩,?_,?_,a8,cA.trans au r1 r2 a2,⟨_,_,rfl,.collected _ ⟨w.heap.size,0,0⟩ (DM _ _ hu),ai.mono (r2.le.trans DM)⟩⟩
  · rw[ag]
    simp only[Instr.enterLoop,Sem.run_bind,run_newObj,Result.andThen_ok,Sem.run_pure]
    rfl
  · rw[aA];exact hy _ _ _
 |some rv=>
  obtain⟨j,aO,ag⟩:=c8
  simp only at aA he
  subst aA
  cases ar:H.get rv with
  |none=>rw[ar] at he;cases he
  |some G4=>
  rw[ar] at he
  cases G4<;>try (cases he;done)
  case loop oU Nd ajl ajm Nf Ng Nh fy=>
   cases he
   obtain⟨cH,i_,fn,aG,aE,_⟩:=au.rel _ _ j ar aO
   have hle:=au.qo ⟨w.heap.size,0,0⟩
   obtain⟨a8,a2⟩:=au.alloc (.loop .ready none need r ps.toList as cK fy) (.loop {state:=.ready,pending:=none,fn:=b.fn,tmps:=a.tmps,params:=ps,assign:=as,body:=cK,defers:=i_.bx}) 0
    ⟨a.tmps,i_,b.fn,hle _ _ aG,World.heap_alloc_new _ _,ao.mono hle,di.1,di.2.1,di.2.2⟩
   refine⟨_,_,[],⟨w.heap.size,0,0⟩,?_,?_,a8,a2,ai.mono hle⟩
   · rw[ag]
     have nX:(Instr.getLoop j.bx).run P w=.ok {state:=oU,pending:=Nd,fn:=fn,tmps:=cH,params:=⟨Nf⟩,assign:=Ng,body:=Nh,defers:=i_.bx} w:=by
      have:(getObj j.bx).run P w=.ok (.loop {state:=oU,pending:=Nd,fn:=fn,tmps:=cH,params:=⟨Nf⟩,assign:=Ng,body:=Nh,defers:=i_.bx}) w:=by simp[getObj,Sem.run,aE]
      simp only[Instr.getLoop,Sem.run_bind,this];rfl
     simp only[Instr.enterLoop,Sem.run_bind,nX,Result.andThen_ok,Sem.run_pure,run_newObj]
     rfl
   · exact hy _ _ _
theorem VZ{μ:bI}{H:ab}{w:World}(au:bK μ H w){l:Nat}{i:fO}(aA:μ l=some i){st:LoopState}{gX:Option Code}{ib:Nat}{rg:ba}{ps:List Nat}{as cK:Code}{fy:Nat}(ar:H.get l=some (.loop st gX ib rg ps as cK fy))(cL:st≠ .busy):
  ∃w',(Instr.endLoop i.bx).run P w=.ok gX w'/\bK μ (H.set l (some (.loop .exhausted gX ib rg ps as cK fy))) w'/\cA μ H w μ (H.set l (some (.loop .exhausted gX ib rg ps as cK fy))) w':=by
 obtain⟨cH,i_,fn,aG,aE,bH⟩:=au.rel _ _ i ar aA
 have cB:=(au.lt _ _ aA).2
 obtain⟨r1,r2⟩:=au.update (w':={w with heap:=w.heap.setIfInBounds i.bx (.loop {state:=.exhausted,pending:=gX,fn:=fn,tmps:=cH,params:=⟨ps⟩,assign:=as,body:=cK,defers:=i_.bx})}) (o':=.loop .exhausted gX ib rg ps as cK fy) ar rfl aA (by simp) (λr ao=>by simp[Array.getElem?_setIfInBounds];intro e;exact absurd e.symm ao) rfl rfl rfl
  ⟨cH,i_,fn,aG,by simp[cB],bH⟩
 refine⟨_,?_,r1,r2⟩
 have kb:(getObj i.bx).run P w=.ok (.loop {state:=st,pending:=gX,fn:=fn,tmps:=cH,params:=⟨ps⟩,assign:=as,body:=cK,defers:=i_.bx}) w:=by simp[getObj,Sem.run,aE]
 have fm:(setObj i.bx (.loop {state:=.exhausted,pending:=gX,fn:=fn,tmps:=cH,params:=⟨ps⟩,assign:=as,body:=cK,defers:=i_.bx})).run P w=.ok () {w with heap:=w.heap.setIfInBounds i.bx (.loop {state:=.exhausted,pending:=gX,fn:=fn,tmps:=cH,params:=⟨ps⟩,assign:=as,body:=cK,defers:=i_.bx})}:=by simp[setObj,Sem.run,aE]
 have ag:(st==LoopState.busy)=false:=by cases st<;>first|rfl|exact absurd rfl cL
 simp only[Instr.endLoop,Instr.getLoop,Sem.run_bind,kb,Result.andThen_ok,Sem.run_pure,ag,Bool.false_eq_true,if_false,fm]
theorem DN{b9:Nat}{call:ff->List ad->ab->bE}(ah:kM P call):M_ P need b9 call:=by
 intro f ps as cK di b rd r d q H μ w a k cs0 cs c8 ao bJ au ar ai aK
 simp only[iM,Bool.and_eq_true,List.all_eq_true] at di
 have qA:∀t∈ps.toList,t<b9:=λt bm=>by simpa using di.1.1 t bm
 have gu:=(kN.init (P:=P) ao).eval (a:=a) ar f
 simp only[et]
 cases cL:z5 need rd r ps.toList as cK d H with
 |none=>trivial
 |some p=>
  obtain⟨d',H1⟩:=p
  simp only
  obtain⟨ja,df,mark,i,I,ae,ax,aN,bS⟩:=VY (P:=P) (b:=b) (a:=a) (ps:=ps) ⟨di.1.2,di.2,qA⟩ c8 ao bJ au ai rfl cL
  have V0:=gu.mono aN.le
  have V1:=VU (P:=P) (f:=f) (k:=k) (cs:=cs) I
  obtain⟨ak,av,aD⟩:=VT V1
  have qq:=MW (P:=P) (w:=df) ax V0 (args:=[.eb (qj rd H.n)]) (vs:=[.func (.yield i.bx) #[] #[]]) ⟨_,_,rfl,⟨i,ae,rfl⟩,rfl⟩
  have fin:∀(res:bE),uq P (lone (b.atR a (.code (.rangeFunc f ps as cK)::k)) cs w) (b.atR {tmps:=a.tmps,defers:=mark++a.defers} (.inRangeFunc i.bx::k)) cs (Ends ja H1 df res)->
    mR P need b9 μ H w b k cs0 (lone (b.atR a (.code (.rangeFunc f ps as cK)::k)) cs w) (py (qj rd H.n) r d' q res):=by
   intro res aA
   obtain⟨e,lr,e4,jK⟩:=aA
   cases res with
   |fail s=>trivial
   |cw v bD=>
    obtain⟨a9,u,rfl,a8,a2,bX⟩:=e4
    exact⟨a9,lr,{tmps:=a.tmps,defers:=mark++a.defers},cs,⟨.inRangeFunc i.bx::k,u,⟨a8,trivial⟩,jK⟩,ao.mono (aN.le.trans bX.le),bJ,a2,cA.trans au ax aN bX,bS.mono bX.le,aK.mono (aN.le.trans bX.le)⟩
   |ret v bD=>
    obtain⟨a9,u,rfl,a8,a2,bX⟩:=e4
    have oP:(b.atR {tmps:=a.tmps,defers:=mark++a.defers} (.inRangeFunc i.bx::k)).finish u=b.atR {tmps:=a.tmps,defers:=mark++a.defers} (.endRangeFunc i.bx::k):=rfl
    simp only[oP] at jK
    unfold py
    simp only
    cases hE:bD.get (qj rd H.n) with
    |none=>trivial
    |some G4=>
     cases G4<;>try trivial
     case loop st gX ib rg V2 C_ Da fy=>
      simp only
      by_cases ag:st=.busy
      · subst ag;trivial
      · obtain⟨sM,aG,aE,bH⟩:=VZ (P:=P) a2 (bX.le _ _ ae) hE ag
        have lR:=Steps.trans jK (.one (VX (b:=b) (a:={tmps:=a.tmps,defers:=mark++a.defers}) (k:=k) (cs:=cs) aG))
        have hle:=aN.le.trans (bX.le.trans bH.le)
        have mf:=cA.trans au a2 (cA.trans au ax aN bX) bH
        have done:∀(e:bW),ur P a9 (lone (b.atR a (.code (.rangeFunc f ps as cK)::k)) cs w) b k cs {tmps:=a.tmps,defers:=mark++a.defers} sM e->
          mR P need b9 μ H w b k cs0 (lone (b.atR a (.code (.rangeFunc f ps as cK)::k)) cs w) (.ok e r d' q (bD.set (qj rd H.n) (some (.loop .exhausted gX ib rg V2 C_ Da fy)))):=λe he=>
         ⟨a9,sM,{tmps:=a.tmps,defers:=mark++a.defers},cs,he,ao.mono hle,bJ,aE,mf,bS.mono (bX.le.trans bH.le),aK.mono hle⟩
        have ajn:∀X:k5,(match st with|.busy=>k5.fail "" |_=>X)=X:=λX=>by cases st<;>first|rfl|exact absurd rfl ag
        cases st<;>first
         |exact absurd rfl ag
         |(cases gX with
          |none=>exact done .nrm lR
          |some c=>
           cases c<;>first
            |trivial
            |exact done .ret ⟨k,lR⟩
            |exact done (.exit _) ⟨k,rfl,lR⟩)
  cases Ni:vC (ep 0 [] r (da P need [] f)) [.eb (qj rd H.n)] H1 with
  |call g args bh=>
   rw[Ni] at qq
   obtain⟨rfl,vs,aG,aE⟩:=qq
   simp only
   cases cx:(call (.fn g) args bh).mP with
   |false=>obtain⟨s,al⟩:=DF cx;rw[al];trivial
   |true=>
    apply fin
    rcases ah.fn g args bh cx ja df vs ax (ar.mono aN.le) aE with⟨v,w',a8,a2⟩|⟨a8,a2⟩
    · rw[<-aG] at a8
      exact⟨_,_,a2,ak _ _ a8⟩
    · rw[<-aG] at a8
      exact(M0 (DG cx) a2 _ _).of_steps (av _ _ _ a8)
  |eb bw args bh=>
   rw[Ni] at qq
   obtain⟨rfl,e_,vs,hD,aG,aE⟩:=qq
   simp only
   cases cx:(call (.eb bw) args bh).mP with
   |false=>obtain⟨s,al⟩:=DF cx;rw[al];trivial
   |true=>
    apply fin
    obtain⟨G5,tmps,C_,Da,a8,a2⟩:=ah.eb bw args bh cx ja df e_ vs ax (ar.mono aN.le) hD aE
    rw[<-aG] at a8
    exact(a2 _ _).of_steps (aD _ _ _ _ _ _ a8)
  |val v bh=>trivial
  |cw v bh=>trivial
  |m_ x=>trivial
  |vy=>trivial
  |fail s=>trivial
end
end bg
namespace bg
open Go
section
variable {P:Program}
theorem G6:∀(l:List ad) (i:Nat) (r:ba) (t:Nat),(pz i l r).get (h_ t)=if i<=t/\t<i+l.length then(l[t-i]?).getD .bad else r.get (h_ t)
 |[],i,r,t=>by
  simp only[pz,List.length_nil]
  rw[if_neg (by omega)]
 |v::l,i,r,t=>by
  simp only[pz,G6 l (i+1),ba.dx,List.length_cons]
  by_cases h:i+1<=t/\t<i+1+l.length
  · rw[if_pos h,if_pos (by omega)]
    have:t-i=(t-(i+1))+1:=by omega
    rw[this];simp
  · rw[if_neg h]
    by_cases e:t=i
    · subst e;rw[if_pos rfl,if_pos (by omega)];simp
    · rw[if_neg e,if_neg (by omega)]
theorem Nj{need:Nat}{μ:bI}{args:List ad}{vs:List Value}(h:cG μ args vs)(n:Nat):j6 need μ (pz 0 args .leaf) (⟨vs⟩++Array.replicate n undef):=by
 intro t _
 rw[G6]
 have aA:=h.length
 by_cases bm:t<args.length
 · rw[if_pos (by omega)]
   simp only[Nat.sub_zero]
   obtain⟨v,aI,ao⟩:=h.get (List.getElem?_eq_getElem bm)
   rw[List.getElem?_eq_getElem bm]
   rw[Array.getD_eq_getD_getElem?,Array.getElem?_append_left (by simp;omega)]
   simp only[List.getElem?_toArray,aI,Option.getD_some]
   exact ao
 · rw[if_neg (by omega),ba.pA];trivial
theorem V3{need:Nat}{μ:bI}{H:ab}{w:World}(au:bK μ H w){r:ba}{cH:Array Value}(ao:j6 need μ r cH){x:ResultVar}{v:ad}(h:tO P need r H x=some v):
  ∃u,((match x with|.tmp t=>pure (cH.getD t undef)|.cell a t=>do loadVar t (<-asAddr (cH.getD a undef)):Sem Value)).run P w=.ok u w/\bz μ v u:=by
 unfold tO at h
 cases x with
 |tmp t=>
  simp only at h
  split at h
  · rename_i ag;cases h;exact⟨_,rfl,ao t ag⟩
  · cases h
 |cell t ty=>
  simp only at h
  split at h
  · rename_i ag
    have I:=ao t ag
    split at h
    · rename_i b off n a0 aV aH
      rw[a0] at I
      obtain⟨i,hi,aI⟩:=I
      split at h
      · rename_i cs aA
        cases h
        obtain⟨us,a8,a2⟩:=tX (P:=P) au hi aA
        refine⟨.agg ⟨us⟩,?_,us,rfl,a2⟩
        simp[aI,asAddr,loadVar,xW aV,run_sizeOf aH,a8]
      · cases h
    · rename_i b off a0 aV
      rw[a0] at I
      obtain⟨i,hi,aI⟩:=I
      obtain⟨u,a8,a2⟩:=Gr (P:=P) au hi h
      refine⟨u,?_,a2⟩
      simp only[aI,asAddr,loadVar,Sem.run_bind,Sem.run_pure,Result.andThen_ok,xW aV,Bool.false_eq_true,if_false,a8]
    · cases h
  · cases h
theorem G7{need:Nat}{μ:bI}{H:ab}{w:World}(au:bK μ H w){r:ba}{cH:Array Value}(ao:j6 need μ r cH):∀(l:List ResultVar) (vs:List ad),qk (tO P need r H) l=some vs->
  ∃us:List Value,(l.mapM (λx=>(match x with|.tmp t=>pure (cH.getD t undef)|.cell a t=>do loadVar t (<-asAddr (cH.getD a undef)):Sem Value))).run P w=.ok us w/\cG μ vs us
 |[],vs,h=>by cases h;exact⟨[],rfl,rfl⟩
 |x::l,vs,h=>by
  simp only[qk] at h
  split at h
  · rename_i v sN I ae
    cases h
    obtain⟨u,a8,a2⟩:=V3 au ao I
    obtain⟨us,bX,eG⟩:=G7 au ao l sN ae
    refine⟨u::us,?_,⟨_,_,rfl,a2,eG⟩⟩
    rw[List.mapM_cons]
    simp only[Sem.run_bind]
    rw[a8]
    simp only[Result.andThen_ok,Sem.run_bind,bX,Sem.run_pure]
  · cases h
theorem Nk{need:Nat}{μ:bI}{H:ab}{w:World}(au:bK μ H w){fn:Func}{r:ba}{cH:Array Value}(ao:j6 need μ r cH){v:ad}(h:ss P need fn r H=some v):
  ∃u,(results fn cH).run P w=.ok u w/\bz μ v u:=by
 unfold ss at h
 have jL:∀us:List Value,(fn.results.toList.mapM (λx=>(match x with|.tmp t=>pure (cH.getD t undef)|.cell a t=>do loadVar t (<-asAddr (cH.getD a undef)):Sem Value))).run P w=.ok us w->
   (results fn cH).run P w=.ok (if h:(⟨us⟩:Array Value).size=1 then(⟨us⟩:Array Value)[0] else .tuple ⟨us⟩) w:=by
  intro us ku
  have hm:(fn.results.mapM (λx=>(match x with|.tmp t=>pure (cH.getD t undef)|.cell a t=>do loadVar t (<-asAddr (cH.getD a undef)):Sem Value))).run P w=.ok ⟨us⟩ w:=by
   rw[Array.mapM_eq_mapM_toList]
   simp only[map_eq_pure_bind,Sem.run_bind]
   rw[ku];rfl
  unfold results
  simp only[Sem.run_bind]
  refine Eq.trans (congrArg (λq=>Result.andThen q _) hm) ?_
  rfl
 split at h
 · rename_i v' aV
   cases h
   obtain⟨us,a8,a2⟩:=G7 au ao _ _ aV
   obtain⟨u,ue,rfl,bX,eG⟩:=a2
   cases eG
   exact⟨_,jL _ a8,bX⟩
 · rename_i vs dr aV
   cases h
   obtain⟨us,a8,a2⟩:=G7 au ao _ _ aV
   refine⟨_,jL _ a8,?_⟩
   have:¬((⟨us⟩:Array Value).size=1):=by
    intro e
    have aA:=a2.length
    have dc:us.length=1:=e
    rw[dc] at aA
    obtain⟨x,aa⟩:=List.length_eq_one_iff.1 aA
    exact dr x aa
   rw[dif_neg this]
   exact⟨us,rfl,a2⟩
 · cases h
theorem Nl{call:ff->List ad->ab->bE}(ah:kM P call)(hdr:∀need b9,oT P need b9 call){f:FuncId}{fn:Func}(hf:P.funcs[f]? =some fn){kind:CallKind}{c:Code}(ag:fn.body=some c)(di:iM fn.ntmps c=true)
  {args:List ad}{vs:List Value}{q:bU}{H:ab}{μ:bI}{w:World}{cs0 cs:List Frame}(aI:cG μ args vs)(au:bK μ H w)(ar:iA P μ)(aK:iO μ kind cs0 q cs):
  mR P (ej fn) fn.ntmps μ H w {(default:Frame) with fn:=f,kind:=kind} [] cs0 (lone (Frame.enter P f ⟨vs⟩ kind) cs w) (oJ P call fn args q H):=by
 unfold oJ
 rw[ag]
 simp only
 cases hle:Nat.ble args.length fn.ntmps with
 |false=>trivial
 |true=>
  have Dt:args.length<=fn.ntmps:=by simpa using hle
  have hlen:=aI.length
  simp only
  have G8:Frame.enter P f ⟨vs⟩ kind=({(default:Frame) with fn:=f,kind:=kind}:Frame).atR {tmps:=⟨vs⟩++Array.replicate (fn.ntmps-vs.length) undef,defers:=[]} [.code c]:=by
   simp[Frame.enter,Frame.atR,hf,ag]
   rfl
  rw[G8]
  exact qz ah (hdr _ _) (DN ah) none c di {(default:Frame) with fn:=f,kind:=kind} (pz 0 args .leaf) [] q H μ w {tmps:=⟨vs⟩++Array.replicate (fn.ntmps-vs.length) undef,defers:=[]} [] cs0 cs rfl (Nj aI _) (by simp;omega) au ar rfl aK
def x6(P:Program):Prop:=∀(g:FuncId) (iL:Func) (gc:Code),P.funcs[g]? =some iL->iL.body=some gc->iM iL.ntmps gc=true/\(iL.name== "runtime.NumGoroutine")=false
theorem DO{f:FuncId}{fn:Func}{c:Code}(hf:P.funcs[f]? =some fn)(ag:fn.body=some c)(aH:(fn.name== "runtime.NumGoroutine")=false)(args:Array Value)(w:World):(callFunc f args).run P w=.ok (.enter f args) w:=by
 have pM:¬fn.name= "runtime.NumGoroutine" :=by simpa using aH
 simp[callFunc,hf,pM,ag]
def oV(μ:bI):Option ad->FrameMode->Prop
 |none,m=>m=.returning
 |some v,m=>∃u,m=.panicking [{v:=u,recovered:=false}]/\bz μ v u
theorem oV.mono{μ a9:bI}(hle:ga μ a9){fA:Option ad}{m:FrameMode}(h:oV μ fA m):oV a9 fA m:=by
 cases fA with
 |none=>exact h
 |some v=>obtain⟨u,I,ae⟩:=h;exact⟨u,I,ae.mono hle⟩
theorem oV.run{μ:bI}{fA:Option ad}{m:FrameMode}(h:oV μ fA m):m≠ .run:=by
 cases fA with
 |none=>intro e;cases h.symm.trans e
 |some v=>obtain⟨u,I,_⟩:=h;intro e;cases I.symm.trans e
theorem oV.q{μ:bI}{fA:Option ad}{c:Frame}{cs:List Frame}(h:oV μ fA c.mode):iO μ .deferred (c::cs) (xQ fA) (c::cs):=by
 cases fA with
 |none=>
  refine⟨rfl,λdj ay=>?_⟩
  have aw:c.mode=.returning:=h
  simp only[tryRecover,ay,aw]
 |some v=>obtain⟨u,I,ae⟩:=h;exact⟨rfl,rfl,c,cs,u,rfl,I,ae⟩
theorem V4{μ:bI}{H:ab}{w:World}(au:bK μ H w){r:Nat}{i:fO}(hi:μ r=some i){cs:List cb}(ar:H.get r=some (.defrd (some cs))):
  ∃w' l,(Instr.takeDeferred i.bx).run P w=.ok l w'/\hs μ cs l/\bK μ (H.set r (some (.defrd none))) w'/\cA μ H w μ (H.set r (some (.defrd none))) w':=by
 obtain⟨l,aG,aE⟩:=au.rel _ _ i ar hi
 have cB:=(au.lt _ _ hi).2
 obtain⟨r1,r2⟩:=au.update (w':={w with heap:=w.heap.setIfInBounds i.bx (.deferred none)}) (o':=.defrd none) ar rfl hi (by simp) (λr ao=>by simp[Array.getElem?_setIfInBounds];intro e;exact absurd e.symm ao) rfl rfl rfl
  (show({w with heap:=w.heap.setIfInBounds i.bx (.deferred none)}:World).heap[i.bx]? =some (.deferred none) by simp[cB])
 refine⟨_,l,?_,aE,r1,r2⟩
 have kb:(getObj i.bx).run P w=.ok (.deferred (some l)) w:=by simp[getObj,Sem.run,aG]
 have fm:(setObj i.bx (.deferred none)).run P w=.ok () {w with heap:=w.heap.setIfInBounds i.bx (.deferred none)}:=by simp[setObj,Sem.run,aG]
 simp only[Instr.takeDeferred,Sem.run_bind,kb,Result.andThen_ok,fm,Sem.run_pure]
end
end bg
namespace bg
open Go
section
variable {P:Program}
theorem step_take{dj:Frame}{cs:List Frame}{w w':World}{b:Nat}{args:Array Value}{ds calls:List Deferred}(hm:dj.mode≠ .run)(ai:dj.defers={target:=.collected b,args:=args}::ds)(bm:(Instr.takeDeferred b).run P w=.ok calls w'):
  step P (lone dj cs w)=.next (lone {dj with defers:=calls++ds} cs w'):=by
 refine step_lone_go ?_
 cases G9:dj.mode with
 |run=>exact absurd G9 hm
 |returning=>simp[stepG,unwind,G9,ai,Sem.runT_eq,bm]
 |panicking chain=>simp[stepG,unwind,G9,ai,Sem.runT_eq,bm]
theorem Ends.trans{μ ja:bI}{H H1:ab}{w df:World}{x:bE}{e:Ending}{w':World}(au:bK μ H w)(kr:bK ja H1 df)(aV:cA μ H w ja H1 df)(h:Ends ja H1 df x e w'):Ends μ H w x e w':=by
 cases x with
 |ret v a6=>obtain⟨a9,u,I,ae,ax,aN⟩:=h;exact⟨a9,u,I,ae,ax,cA.trans au kr aV aN⟩
 |cw v a6=>obtain⟨a9,u,I,ae,ax,aN⟩:=h;exact⟨a9,u,I,ae,ax,cA.trans au kr aV aN⟩
 |fail s=>trivial
theorem DP{call:ff->List ad->ab->bE}(ah:kM P call)(hdr:∀need b9,oT P need b9 call)(eL:x6 P){need:Nat}{fn:Func}{r:ba}:
  ∀(k:Nat) (fA:Option ad) (ds:List cb) (H:ab) (μ:bI) (w:World) (dj:Frame) (cs:List Frame),(kJ P call need fn r k fA ds H).mP=true->bK μ H w->iA P μ->j6 need μ r dj.tmps->P.funcs[dj.fn]? =some fn->dj.kind=.normal->
   hs μ ds dj.defers->oV μ fA dj.mode->∃e w' G_,Ends μ H w (kJ P call need fn r k fA ds H) e w'/\Steps P (lone dj cs w) (lone G_ cs w')/\G_.fn=dj.fn/\G_.leaving P w' e
 |0,fA,ds,H,μ,w,dj,cs,cx,au,ar,ao,hf,ay,ai,a0=>by cases cx
 |k+1,fA,[],H,μ,w,dj,cs,cx,au,ar,ao,hf,ay,ai,a0=>by
  have qB:dj.defers=[]:=ai
  cases fA with
  |none=>
   simp only[kJ] at cx⊢
   cases jL:ss P need fn r H with
   |none=>rw[jL] at cx;cases cx
   |some v=>
    obtain⟨u,a8,a2⟩:=Nk (P:=P) au ao jL
    exact⟨.returned u,w,dj,⟨μ,u,rfl,a2,au,cA.refl _ _ _⟩,Steps.refl _ _,rfl,a0,qB,ay,fn,hf,a8⟩
  |some v=>
   obtain⟨u,I,ae⟩:=a0
   exact⟨.panicked _,w,dj,⟨μ,u,rfl,ae,au,cA.refl _ _ _⟩,Steps.refl _ _,rfl,I,qB,fn,hf⟩
 |k+1,fA,.collected b::ds,H,μ,w,dj,cs,cx,au,ar,ao,hf,ay,ai,a0=>by
  obtain⟨uj,dl,Az,I,ae⟩:=ai
  cases I with
  |collected _ i hi=>
  simp only[kJ] at cx⊢
  cases Ha:H.get b with
  |none=>rw[Ha] at cx;cases cx
  |some o=>
   rw[Ha] at cx
   cases o<;>try (cases cx;done)
   case defrd calls=>
    cases calls with
    |none=>cases cx
    |some V5=>
     simp only at cx⊢
     obtain⟨w',l,aG,aE,bH,eu⟩:=V4 (P:=P) au hi Ha
     have al:=step_take (cs:=cs) a0.run Az aG
     obtain⟨e,db,lu,r1,r2,e5,gh⟩:=DP ah hdr eL k fA (V5++ds) _ μ w' {dj with defers:=l++dl} cs cx bH ar ao hf ay (aE.append ae) a0
     refine⟨e,db,lu,?_,Steps.head al r2,e5,gh⟩
     exact Ends.trans au bH eu r1
 |k+1,fA,.call g args::ds,H,μ,w,dj,cs,cx,au,ar,ao,hf,ay,ai,a0=>by
  obtain⟨uj,dl,Az,I,ae⟩:=ai
  cases I with
  |call _ _ cap vs V6=>
  simp only[kJ] at cx⊢
  cases uu:P.funcs[g]? with
  |none=>rw[uu] at cx;cases cx
  |some iL=>
   rw[uu] at cx
   simp only at cx⊢
   cases x7:iL.body with
   |none=>
    have:oJ P call iL args (xQ fA) H=.fail "" :=by simp[oJ,x7]
    rw[this] at cx;cases cx
   |some gc=>
    obtain⟨mg,lS⟩:=eL g iL gc uu x7
    have aK:iO μ .deferred ({dj with defers:=dl}::cs) (xQ fA) ({dj with defers:=dl}::cs):=oV.q (c:={dj with defers:=dl}) a0
    have ag:=Nl (P:=P) ah hdr uu (kind:=.deferred) x7 mg (args:=args) (vs:=vs++cap) (q:=xQ fA) V6 au ar aK
    have hinv:(invoke (.fn (.func g) ⟨cap⟩) ⟨vs⟩).run P w=.ok (.enter g ⟨vs++cap⟩) w:=by
     have:=DO (P:=P) uu x7 lS (⟨vs⟩++⟨cap⟩) w
     simpa[invoke] using this
    have DQ:=step_defer (P:=P) (cs:=cs) a0.run Az (d:={target:=.fn (.func g) ⟨cap⟩,args:=⟨vs⟩}) rfl hinv
    cases aa:oJ P call iL args (xQ fA) H with
    |fail s=>rw[aa] at cx;cases cx
    |ok e r' d' br a6=>
     rw[aa] at cx ag
     obtain⟨a9,w',cW,b5,s1,s2,b1,b_,cI,dz,ek⟩:=ag
     simp only[LQ] at cx⊢
     cases jL:ss P (ej iL) iL r' a6 with
     |none=>rw[jL] at cx;cases e<;>cases d'<;>cases cx
     |some sO=>
      rw[jL] at cx
      obtain⟨u,a8,a2⟩:=Nk (P:=P) b_ s2 jL
      have main:∀(he:e=.nrm\/e=.ret) (qB:d'=[]) (hC:(kJ P call need fn r k (z6 br fA) ds a6).mP=true),
        ∃aE db lu,Ends μ H w (kJ P call need fn r k (z6 br fA) ds a6) aE db/\Steps P (lone dj cs w) (lone lu cs db)/\lu.fn=dj.fn/\lu.leaving P db aE:=by
       intro he qB hC
       subst qB
       have AL:cW.defers=[]:=dz
       have AM:∃todo,Steps P (lone (Frame.enter P g ⟨vs++cap⟩ .deferred) ({dj with defers:=dl}::cs) w) (lone {({(default:Frame) with fn:=g,kind:=.deferred}:Frame).atR cW todo with mode:=.returning} b5 w'):=by
        rcases he with rfl|rfl
        · exact⟨_,Steps.trans s1 (.one (stepR_end rfl))⟩
        · obtain⟨bq,v3⟩:=s1
          exact⟨_,Steps.trans v3 (.one (stepR_ret rfl))⟩
       obtain⟨todo,AM⟩:=AM
       have kb:({({(default:Frame) with fn:=g,kind:=.deferred}:Frame).atR cW todo with mode:=.returning}:Frame).going P w' (.returned u):=⟨rfl,AL,iL,uu,a8⟩
       have caller:∃m,b5={({dj with defers:=dl}:Frame) with mode:=m}::cs/\oV a9 (z6 br fA) (settle m):=by
        have bB:oV a9 fA (settle dj.mode):=by
         have AN:=a0.mono cI.le
         cases fA with
         |none=>have:dj.mode=.returning:=AN;rw[this];rfl
         |some v=>obtain⟨u,I,ae⟩:=AN;rw[I];exact⟨u,rfl,ae⟩
        cases br with
        |none=>exact⟨dj.mode,ek.1,bB⟩
        |act v=>exact⟨dj.mode,ek.1,bB⟩
        |done v=>
         obtain⟨_,c,rest,u,aG,aE,bH,eu⟩:=ek
         cases aG
         exact⟨_,eu,rfl⟩
       obtain⟨m,rfl,V7⟩:=caller
       have ax:=step_going_returned (P:=P) (c:={({dj with defers:=dl}:Frame) with mode:=m}) (cs:=cs) rfl kb
       obtain⟨aE,db,lu,r1,r2,e5,gh⟩:=DP ah hdr eL k (z6 br fA) ds a6 a9 w' {dj with defers:=dl,mode:=settle m} cs hC b_ (ar.mono cI.le) (ao.mono cI.le) hf ay (ae.mono cI.le) V7
       exact⟨aE,db,lu,Ends.trans au b_ cI r1,Steps.head DQ (Steps.trans AM (Steps.head ax r2)),e5,gh⟩
      cases d' with
      |cons x xs=>cases e<;>cases cx
      |nil=>
       cases e with
       |nrm=>exact main (.inl rfl) rfl cx
       |ret=>exact main (.inr rfl) rfl cx
       |exit id=>cases cx
       |goto l=>cases cx
       |cw v=>cases cx
theorem Nm{P:Program}{m lv:Machine}{e:Ending}(h:Steps P m lv)(he:e≠ .outgrown):Comes P m lv e:=by
 cases e with
 |outgrown=>exact absurd rfl he
 |_=>exact h
theorem V8{call:ff->List ad->ab->bE}(ah:kM P call)(hdr:∀need b9,oT P need b9 call)(eL:x6 P){f:FuncId}{fn:Func}{c:Code}(hf:P.funcs[f]? =some fn)(ag:fn.body=some c)
  {args:List ad}{vs:List Value}{H:ab}{μ:bI}{w:World}(aI:cG μ args vs)(au:bK μ H w)(ar:iA P μ)(cx:(ry P call fn (oJ P call fn args .none H)).mP=true):
  Calls P f ⟨vs⟩ w (Ends μ H w (ry P call fn (oJ P call fn args .none H))):=by
 intro cs
 obtain⟨mg,lS⟩:=eL f fn c hf ag
 have aK:iO μ .normal cs .none cs:=⟨rfl,λdj ay=>by simp[tryRecover,ay]⟩
 have gr:=Nl (P:=P) ah hdr hf (kind:=.normal) ag mg aI au ar aK
 generalize aa:oJ P call fn args .none H=x at cx gr⊢
 cases x with
 |fail s=>cases cx
 |ok e r d q a6=>
  obtain⟨a9,w',cW,b5,s1,s2,b1,b_,cI,dz,ek⟩:=gr
  have gG:b5=cs:=by
   cases q with
   |none=>exact ek.1
   |act v=>exact ek.1
   |done v=>exact absurd ek.1 (by intro h;cases h)
  subst gG
  have main:∀(fA:Option ad) (dj:Frame),dj.fn=f->dj.tmps=cW.tmps->dj.defers=cW.defers->dj.kind=.normal->oV a9 fA dj.mode->Steps P (lone (Frame.enter P f ⟨vs⟩ .normal) b5 w) (lone dj b5 w')->
    (kJ P call (ej fn) fn r 100 fA d a6).mP=true->∃e db lu,Ends μ H w (kJ P call (ej fn) fn r 100 fA d a6) e db/\Comes P (lone (Frame.enter P f ⟨vs⟩ .normal) b5 w) (lone lu b5 db) e/\lu.fn=f/\lu.leaving P db e:=by
   intro fA dj I ae ax aN bS cz hC
   subst I
   obtain⟨aE,db,lu,r1,r2,e5,gh⟩:=DP ah hdr eL 100 fA d a6 a9 w' dj b5 hC b_ (ar.mono cI.le) (by rw[ae];exact s2) hf aN (by rw[ax];exact dz) bS
   have AO:=Ends.trans au b_ cI r1
   exact⟨aE,db,lu,AO,Nm (cz.trans r2) (λe=>DG hC _ (e▸AO)),e5,gh⟩
  cases e with
  |nrm=>exact main none {({(default:Frame) with fn:=f,kind:=.normal}:Frame).atR cW [] with mode:=.returning} rfl rfl rfl rfl rfl (Steps.trans s1 (.one (stepR_end rfl))) cx
  |ret=>obtain⟨bq,v3⟩:=s1;exact main none {({(default:Frame) with fn:=f,kind:=.normal}:Frame).atR cW (.code .ret::bq) with mode:=.returning} rfl rfl rfl rfl rfl (Steps.trans v3 (.one (stepR_ret rfl))) cx
  |cw v=>obtain⟨bq,u,I,ae⟩:=s1;exact main (some v) _ rfl rfl rfl rfl ⟨u,rfl,I.1⟩ ae cx
  |exit id=>cases cx
  |goto l=>cases cx
end
end bg
namespace bg
open Go
section
variable {P:Program}
theorem Nn{need:Nat}{μ:bI}:∀(ps:List Nat) (args:List ad) (vs:List Value) (r gE:ba) (cH:Array Value),(∀t∈ps,t<cH.size)->j6 need μ r cH->cG μ args vs->xR ps args r=some gE->
  j6 need μ gE ((ps.zip vs).foldl (λcH (p:Nat×Value)=>cH.setIfInBounds p.1 p.2) cH)/\((ps.zip vs).foldl (λcH (p:Nat×Value)=>cH.setIfInBounds p.1 p.2) cH).size=cH.size/\ps.length=vs.length
 |[],[],vs,r,gE,cH,a0,ao,aI,h=>by cases aI;cases h;exact⟨ao,rfl,rfl⟩
 |t::cF,v::args,vs,r,gE,cH,a0,ao,aI,h=>by
  obtain⟨u,us,rfl,I,ae⟩:=aI
  simp only[xR] at h
  have md:j6 need μ (r.set (h_ t) v) (cH.setIfInBounds t u):=λs al=>by
   rw[ba.dx,AJ (a0 t (by simp))]
   by_cases e:s=t
   · rw[if_pos e,if_pos e];exact I
   · rw[if_neg e,if_neg e];exact ao s al
  obtain⟨a8,a2,bX⟩:=Nn cF args us _ gE (cH.setIfInBounds t u) (λs al=>by simp;exact a0 s (by simp[al])) md ae h
  exact⟨a8,by rw[List.zip_cons_cons,List.foldl_cons];rw[a2];simp,by simp[bX]⟩
 |[],_::_,vs,r,gE,cH,a0,ao,aI,h=>by cases h
 |_::_,[],vs,r,gE,cH,a0,ao,aI,h=>by cases h
theorem Hb{μ:bI}{H:ab}{w:World}(au:bK μ H w){l:Nat}{i:fO}(aA:μ l=some i){st:LoopState}{gX:Option Code}{ib:Nat}{rg:ba}{ps:List Nat}{as cK:Code}{fy:Nat}(ar:H.get l=some (.loop st gX ib rg ps as cK fy)):
  ∃cH i_ fn,μ fy=some i_/\(Instr.getLoop i.bx).run P w=.ok {state:=st,pending:=gX,fn:=fn,tmps:=cH,params:=⟨ps⟩,assign:=as,body:=cK,defers:=i_.bx} w/\j6 ib μ rg cH/\iM cH.size as=true/\iM cH.size cK=true/\(∀t∈ps,t<cH.size)/\
   ∀cg x8,∃w',(setObj i.bx (.loop {state:=cg,pending:=x8,fn:=fn,tmps:=cH,params:=⟨ps⟩,assign:=as,body:=cK,defers:=i_.bx})).run P w=.ok () w'/\
    bK μ (H.set l (some (.loop cg x8 ib rg ps as cK fy))) w'/\cA μ H w μ (H.set l (some (.loop cg x8 ib rg ps as cK fy))) w':=by
 obtain⟨cH,i_,fn,aG,aE,bH,eu,eZ,hd⟩:=au.rel _ _ i ar aA
 have cB:=(au.lt _ _ aA).2
 have kb:(getObj i.bx).run P w=.ok (.loop {state:=st,pending:=gX,fn:=fn,tmps:=cH,params:=⟨ps⟩,assign:=as,body:=cK,defers:=i_.bx}) w:=by simp[getObj,Sem.run,aE]
 refine⟨cH,i_,fn,aG,?_,bH,eu,eZ,hd,λcg x8=>?_⟩
 · simp only[Instr.getLoop,Sem.run_bind,kb,Result.andThen_ok,Sem.run_pure]
 · obtain⟨r1,r2⟩:=au.update (w':={w with heap:=w.heap.setIfInBounds i.bx (.loop {state:=cg,pending:=x8,fn:=fn,tmps:=cH,params:=⟨ps⟩,assign:=as,body:=cK,defers:=i_.bx})}) (o':=.loop cg x8 ib rg ps as cK fy) ar rfl aA (by simp) (λr ao=>by simp[Array.getElem?_setIfInBounds];intro e;exact absurd e.symm ao) rfl rfl rfl
     ⟨cH,i_,fn,aG,by simp[cB],bH,eu,eZ,hd⟩
   exact⟨_,by simp[setObj,Sem.run,aE],r1,r2⟩
theorem V9{b:Frame}{a:Act}{bq:List Item}{c:Frame}{cs:List Frame}{w:World}{chain:List PanicEntry}(ai:a.defers=[])(aH:G1 bq):
  step P (lone {b.atR a bq with mode:=.panicking chain} (c::cs) w)=.next (lone (c.raise chain) cs w):=by
 have V_:({b.atR a bq with mode:=.panicking chain}:Frame).catches P=false:=by
  unfold Frame.catches
  cases hf:P.funcs[b.fn]? with
  |some fn=>simp[Frame.atR,hf]
  |none=>
   cases bq with
   |nil=>simp[Frame.atR,hf]
   |cons x t=>cases x<;>first|exact aH.elim|simp[Frame.atR,hf]
 refine step_lone_go ?_
 have No:=V_
 simp only[Frame.atR,ai] at No⊢
 simp[stepG,unwind,No]
theorem Wa{μ:bI}{H:ab}{w:World}{l:Nat}{i:fO}(aA:μ l=some i){b:Frame}(ag:b.roundOf=some i.bx)(ay:b.kind=.normal){need b9:Nat}{c:Frame}{cs:List Frame}{gj:Machine}{x:k5}(aa:mR P need b9 μ H w b [] (c::cs) gj x)(DR:∀dj:Frame,dj.kind=b.kind->tryRecover dj (c::cs)=none)(cx:(z7 l x).mP=true)(au:bK μ H w):
  uq P gj c cs (Ends μ H w (z7 l x)):=by
 cases x with
 |fail s=>cases cx
 |ok e r d q a6=>
  obtain⟨a9,w',cW,b5,s1,s2,b1,b_,cI,dz,ek⟩:=aa
  have gG:b5=c::cs:=by
   cases q with
   |none=>exact ek.1
   |act v=>exact ek.1
   |done v=>exact absurd (ay.symm.trans ek.1) (by intro h;cases h)
  subst gG
  cases d with
  |cons y ys=>cases cx
  |nil=>
   have AL:cW.defers=[]:=dz
   simp only[z7] at cx⊢
   cases ar:a6.get l with
   |none=>rw[ar] at cx;cases cx
   |some o=>
    rw[ar] at cx
    cases o<;>try (cases cx;done)
    case loop st gX ib rg ps as cK fy=>
     cases st<;>try (cases cx;done)
     simp only at cx⊢
     obtain⟨cH,i_,fn,ak,av,_,_,_,_,aD⟩:=Hb (P:=P) b_ (cI.le _ _ aA) ar
     have fin:∀pL:Option Code,∃db,(Instr.endRound i.bx pL).run P w'=.ok (.bool pL.isNone) db/\bK a9 (a6.set l (some (.loop (if pL.isNone then .ready else .done) pL ib rg ps as cK fy))) db/\cA a9 a6 w' a9 (a6.set l (some (.loop (if pL.isNone then .ready else .done) pL ib rg ps as cK fy))) db:=λpL=>by
      obtain⟨db,a8,a2,bX⟩:=aD (if pL.isNone then .ready else .done) pL
      refine⟨db,?_,a2,bX⟩
      simp only[Instr.endRound,Sem.run_bind,av,Result.andThen_ok,a8,Sem.run_pure]
     cases e with
     |nrm=>
      obtain⟨db,a8,a2,bX⟩:=fin none
      exact⟨.returned (.bool true),db,⟨a9,_,rfl,rfl,a2,cA.trans au b_ cI bX⟩,Steps.trans s1 (.one (stepR_round_end ag ay a8))⟩
     |ret=>
      obtain⟨bq,s1⟩:=s1
      obtain⟨db,a8,a2,bX⟩:=fin (some .ret)
      exact⟨.returned (.bool false),db,⟨a9,_,rfl,rfl,a2,cA.trans au b_ cI bX⟩,Steps.trans s1 (.one (stepR_round_ret ag ay a8))⟩
     |exit id=>
      obtain⟨bq,v3,s1⟩:=s1
      obtain⟨db,a8,a2,bX⟩:=fin (some (.exit id))
      exact⟨.returned (.bool false),db,⟨a9,_,rfl,rfl,a2,cA.trans au b_ cI bX⟩,Steps.trans s1 (.one (stepR_round_exit ag ay (v3.trans rfl) a8))⟩
     |cw v=>
      obtain⟨bq,u,⟨I,ae⟩,s1⟩:=s1
      exact⟨.panicked _,w',⟨a9,u,rfl,I,b_,cI⟩,Steps.trans s1 (.one (V9 AL ae))⟩
     |goto t=>cases cx
theorem Wb{call:ff->List ad->ab->bE}(ah:kM P call)(hdr:∀need b9,oT P need b9 call){l:Nat}{args:List ad}{H:ab}{μ:bI}{w:World}{i:fO}{vs:List Value}(cx:(vE P call l args H).mP=true)(au:bK μ H w)(nX:iA P μ)(aA:μ l=some i)(aI:cG μ args vs):
  MZ P i.bx vs w (Ends μ H w (vE P call l args H)):=by
 unfold vE at cx⊢
 cases ar:H.get l with
 |none=>rw[ar] at cx;cases cx
 |some o=>
  rw[ar] at cx
  cases o<;>try (cases cx;done)
  case loop st gX ib rg ps as cK fy=>
   cases st<;>try (cases cx;done)
   simp only at cx⊢
   cases a7:xR ps args rg with
   |none=>rw[a7] at cx;cases cx
   |some gE=>
    rw[a7] at cx
    simp only at cx⊢
    obtain⟨cH,i_,fn,ak,av,aD,a4,bk,cQ,dO⟩:=Hb (P:=P) au aA ar
    obtain⟨dS,gb,nV⟩:=Nn ps args vs rg gE cH cQ aD aI a7
    obtain⟨x9,Np⟩:∃x9,(ps.zip vs).foldl (λcH (p:Nat×Value)=>cH.setIfInBounds p.1 p.2) cH=x9:=⟨_,rfl⟩
    rw[Np] at dS gb
    refine⟨fn,x9,as,cK,?_,λc cs=>?_⟩
    · simp only[Instr.yield,Sem.run_bind,av,Result.andThen_ok]
      rw[if_neg (by simp;omega)]
      simp only[Sem.run_bind,Sem.run_pure,Result.andThen_ok]
      rw[<-Np]
      simp
    · have Wc:Frame.round i.bx fn x9 as cK .normal=({(default:Frame) with fn:=fn,kind:=.normal,roundOf:=some i.bx}:Frame).atR {tmps:=x9,defers:=[]} [.code as,.beginRound,.code cK]:=rfl
      rw[Wc]
      have aK:iO μ .normal (c::cs) .none (c::cs):=⟨rfl,λdj ay=>by simp[tryRecover,ay]⟩
      have c8:oS μ ({(default:Frame) with fn:=fn,kind:=.normal,roundOf:=some i.bx}:Frame) (some l):=⟨i,aA,rfl⟩
      have I:=qz ah (hdr ib cH.size) (DN ah) (some l) as a4 {(default:Frame) with fn:=fn,kind:=.normal,roundOf:=some i.bx} gE [] .none H μ w {tmps:=x9,defers:=[]} [.beginRound,.code cK] (c::cs) (c::cs) c8 dS gb au nX rfl aK
      generalize et P ib (some l) call as gE [] .none H=x at I cx⊢
      cases x with
      |fail s=>cases cx
      |ok e r1 d1 a8 H1=>
       cases e<;>try (cases cx;done)
       case nrm=>
        cases d1<;>try (cases cx;done)
        case nil=>
         obtain⟨ja,df,cu,lx,s1,s2,b1,b_,cI,dz,ek⟩:=I
         have gG:lx=c::cs:=by
          cases a8 with
          |none=>exact ek.1
          |act v=>exact ek.1
          |done v=>exact absurd ek.1 (by intro h;cases h)
         subst gG
         simp only[Gk] at cx⊢
         cases eP:H1.get l with
         |none=>rw[eP] at cx;cases cx
         |some dy=>
          rw[eP] at cx
          cases dy<;>try (cases cx;done)
          case loop k9 Wd ajo ajp ajq ajr Hc ajs=>
           cases k9<;>try (cases cx;done)
           simp only at cx⊢
           obtain⟨ajt,aju,ajv,bG,b0,dF,gA,hg,jM,AP⟩:=Hb (P:=P) b_ (cI.le _ _ aA) eP
           obtain⟨db,bn,bo,c9⟩:=AP .busy Wd
           have AH:(Instr.beginRound i.bx).run P df=.ok () db:=by
            simp only[Instr.beginRound,Sem.run_bind,b0,Result.andThen_ok,bn,Sem.run_pure]
           have cL:=stepR_beginRound (P:=P) (b:={(default:Frame) with fn:=fn,kind:=.normal,roundOf:=some i.bx}) (a:=cu) (k:=[.code cK]) (cs:=c::cs) rfl AH
           have qC:iO ja .normal (c::cs) .none (c::cs):=⟨rfl,λdj ay=>by simp[tryRecover,ay]⟩
           have We:oS ja ({(default:Frame) with fn:=fn,kind:=.normal,roundOf:=some i.bx}:Frame) (some l):=⟨i,cI.le _ _ aA,rfl⟩
           have AL:hs ja [] cu.defers:=dz
           have ae:=qz ah (hdr ib cH.size) (DN ah) (some l) cK bk {(default:Frame) with fn:=fn,kind:=.normal,roundOf:=some i.bx} r1 [] .none _ ja db cu [] (c::cs) (c::cs) We s2 b1 bo (nX.mono cI.le) AL qC
           have ax:=ae.of_steps au bo (Steps.trans s1 (.one cL)) (cA.trans au b_ cI c9)
           exact Wa aA rfl rfl ax (λdj ay=>by simp[tryRecover,ay]) cx au
end
end bg
namespace bg
open Go
section
variable {P:Program}
def uv:List String:=["internal/abi.NoEscape","internal/bytealg.MakeNoZero","internal/bytealg.IndexByteString","maps.clone"]
def DS(P:Program):Prop:=∀(g:FuncId) (iL:Func),P.funcs[g]? =some iL->iL.body=none->iL.name∈uv->Extern.findNext iL=none
theorem Nq:∀(n t:Nat) (acc:Array Value),(Extern.BytealgMakeNoZero.digits n t acc).size=acc.size+n
 |0,t,acc=>rfl
 |n+1,t,acc=>by rw[Extern.BytealgMakeNoZero.digits,Nq n];simp;omega
theorem Wf{fn:Func}(aH:fn.name= "internal/abi.NoEscape"):Extern.find fn=some Extern.AbiNoEscape.same:=by
 have I:Extern.allGenericRows.lookup "internal/abi.NoEscape" =none:=by rfl
 have ae:Extern.allTypedRows.lookup "internal/abi.NoEscape" =none:=by rfl
 have ax:Extern.allRows.lookup "internal/abi.NoEscape" =some Extern.AbiNoEscape.same:=by rfl
 simp[Extern.find,aH,I,ae,ax]
theorem Wg{fn:Func}(aH:fn.name= "internal/bytealg.MakeNoZero"):Extern.find fn=some (Extern.BytealgMakeNoZero.makeNoZero fn.params fn.resultTypes):=by
 have I:Extern.allGenericRows.lookup "internal/bytealg.MakeNoZero" =none:=by rfl
 have ae:Extern.allTypedRows.lookup "internal/bytealg.MakeNoZero" =some Extern.BytealgMakeNoZero.makeNoZero:=by rfl
 simp[Extern.find,aH,I,ae]
theorem Wh{fn:Func}(aH:fn.name= "internal/bytealg.IndexByteString"):Extern.find fn=some Extern.BytealgIndexByte.indexByte:=by
 have I:Extern.allGenericRows.lookup "internal/bytealg.IndexByteString" =none:=by rfl
 have ae:Extern.allTypedRows.lookup "internal/bytealg.IndexByteString" =none:=by rfl
 have ax:Extern.allRows.lookup "internal/bytealg.IndexByteString" =some Extern.BytealgIndexByte.indexByte:=by rfl
 simp[Extern.find,aH,I,ae,ax]
theorem Wi{fn:Func}(aH:fn.name= "maps.clone"):Extern.find fn=some Extern.MapsClone.clone:=by
 have I:Extern.allGenericRows.lookup "maps.clone" =none:=by rfl
 have ae:Extern.allTypedRows.lookup "maps.clone" =none:=by rfl
 have ax:Extern.allRows.lookup "maps.clone" =some Extern.MapsClone.clone:=by rfl
 simp[Extern.find,aH,I,ae,ax]
theorem Nr(c:Nat):∀(l:List UInt8) (i:Nat),ql c l i=match l.findIdx? (λb=>Nat.beq b.toNat c) with
  |some j=>((i+j:Nat):Int)
  |none=>-1
 |[],i=>rfl
 |b::l,i=>by
  rw[ql,List.findIdx?_cons]
  cases Nat.beq b.toNat c with
  |true=>simp
  |false=>
   simp only[Nr c l (i+1)]
   cases l.findIdx? (λb=>Nat.beq b.toNat c) with
   |none=>rfl
   |some j=>
    simp only[Option.map_some]
    have:((i+(j+1):Nat):Int)=((i+1+j:Nat):Int):=by congr 1;omega
    exact this.symm
theorem Wj(b:ByteArray)(p:UInt8->Bool):(List.range b.size).find? (λi=>p b[i]!)=b.data.toList.findIdx? p:=by
 have bJ:b.data.toList.length=b.size:=Array.length_toList
 have h2:∀(i:Nat) (hi:i<b.data.toList.length),b[i]! =b.data.toList[i]:=λi hi=>by
  have fi:i<b.size:=by omega
  rw[getElem!_pos b i fi];rfl
 cases hf:b.data.toList.findIdx? p with
 |none=>
  rw[List.find?_eq_none]
  intro i hi
  have fi:i<b.data.toList.length:=by rw[bJ];simpa using hi
  rw[h2 i fi]
  have:=List.findIdx?_eq_none_iff.1 hf _ (List.getElem_mem fi)
  rw[this];exact Bool.false_ne_true
 |some j=>
  obtain⟨aO,a0,cB⟩:=List.findIdx?_eq_some_iff_getElem.1 hf
  rw[List.find?_range_eq_some]
  refine⟨?_,by simp;omega,λi hi=>?_⟩
  · rw[h2 j aO];exact a0
  · rw[h2 i (by omega)]
    have:=cB i hi
    simpa using this
theorem Wk{α:Type}(n:Int)(f:Int->α)(g:Array Value->α):Extern.BytealgMakeNoZero.makeNoZero.match_3 (λ_=>α) #[.int .i64 n] f g=f n:=rfl
theorem Wl{α:Type}(t:TypeId)(r:Nat)(f:TypeId->Nat->α)(e:TypeId->α)(g:Array Value->α):Extern.MapsClone.clone.match_2 (λ_=>α) #[.iface t (.map (some r))] f e g=f t r:=rfl
theorem Wm{α:Type}(b c:Value)(f:Value->Value->α)(g:Array Value->α):Extern.BytealgIndexByte.indexByte.match_2 (λ_=>α) #[b,c] f g=f b c:=rfl
theorem Wn{f:FuncId}{fn:Func}(hf:P.funcs[f]? =some fn)(ag:fn.body=none)(x_:DS P){args:List ad}{H a6:ab}{v:ad}(h:tP P fn fn.name args H=some (v,a6))
  {μ:bI}{w:World}{vs:List Value}(au:bK μ H w)(aI:cG μ args vs):
  ∃u w',(callFunc f ⟨vs⟩).run P w=.ok (.value u) w'/\Ends μ H w (.ret v a6) (.returned u) w':=by
 have call:∀e:Array Value->Sem Value,fn.name∈uv->Extern.find fn=some e->(callFunc f ⟨vs⟩).run P w=(do let v<-e ⟨vs⟩;pure (.value v):Sem Next).run P w:=by
  intro e hm he
  have aH:=x_ f fn hf ag hm
  have Hd:(fn.name== "runtime.NumGoroutine")=false:=by
   simp only[uv,List.mem_cons,List.mem_nil_iff,or_false] at hm
   rcases hm with h|h|h|h<;>rw[h]<;>decide
  rw[run_callFunc_extern hf Hd (by rw[ag];rfl) aH he];simp only[Sem.run_bind];rfl
 unfold tP at h
 split at h
 · rename_i n
   split at h
   · rename_i qD
     split at h
     · rename_i t bm
       split at h
       · rename_i e hu
         split at h
         · rename_i hle
           cases h
           have Dt:n<=1099511627776:=by simpa using hle
           obtain⟨u,us,rfl,I,ae⟩:=aI
           cases I;cases ae
           have bJ:∀(t:TypeId),(Question.appendCap n 0 t).forced=false:=λ_=>rfl
           obtain⟨cap,mb,Ns⟩:∃cap,(Question.appendCap n 0 e).cut (w.tape w.drawn (Question.appendCap n 0 e))=cap/\n<=cap:=⟨_,rfl,by simp[Question.cut]⟩
           obtain⟨Nt,n0⟩:∃x,(Question.extern "internal/bytealg.MakeNoZero.bytes" 0).cut (w.drew.tape w.drew.drawn (Question.extern "internal/bytealg.MakeNoZero.bytes" 0))=x:=⟨_,rfl⟩
           have ai:=Nq cap Nt #[]
           have uw:=au.drew.drew
           obtain⟨r1,r2⟩:=uw.alloc (.cells (List.replicate n .bad) e .aL 0 0) (.cells (Extern.BytealgMakeNoZero.digits cap Nt #[]) e) cap
            ⟨_,0,0,World.heap_alloc_new _ _,λj v aO=>by
              have hx:j<n:=by
               rcases Nat.lt_or_ge j n with h|h
               · exact h
               · rw[List.getElem?_eq_none (by simpa using h)] at aO;cases aO
              rw[List.getElem?_replicate,if_pos hx] at aO
              cases aO
              refine⟨_,Array.getElem?_eq_getElem (by rw[Nat.zero_add,ai];simp;omega),trivial⟩,by rw[ai];simp,by simpa using Ns,λj _ _ h=>by omega⟩
           refine⟨_,_,?_,gx μ H.n ⟨w.drew.drew.heap.size,0,cap⟩,_,rfl,⟨_,hy _ _ _,cap,rfl,Ns,by simp⟩,r1,cA.trans au au.drew cA.drew (cA.trans au.drew uw cA.drew r2)⟩
           rw[call _ (by rw[qD];simp[uv]) (Wg qD)]
           have Wo:¬((Int.ofNat n<0||Int.ofNat n>2^48)=true):=by
            have ae:(2:Int)^48=281474976710656:=by rfl
            have ax:Int.ofNat n=(n:Int):=rfl
            rw[ae,ax];simp only[Bool.or_eq_true,decide_eq_true_eq];omega
           have Wp:(Question.extern "internal/bytealg.MakeNoZero.bytes" 0).forced=false:=rfl
           have sP:(Int.ofNat n).toNat=n:=rfl
           delta Extern.BytealgMakeNoZero.makeNoZero
           rw[Wk]
           simp only[Sem.run_bind,bm,Sem.run_pure,cl hu,Result.andThen_ok]
           rw[if_neg Wo]
           simp only[Sem.run_bind,run_choose,sP,bJ,Wp,Bool.false_eq_true,if_false,World.drew_eq,mb,Result.andThen_ok,run_askRoom,n0,Sem.run_pure]
           rfl
         · cases h
       · cases h
     · cases h
   · cases h
 · rename_i x _
   obtain⟨u,us,rfl,I,ae⟩:=aI
   cases ae
   split at h
   · rename_i qD
     cases h
     refine⟨u,w,?_,μ,u,rfl,I,au,cA.refl _ _ _⟩
     rw[call _ (by rw[qD];simp[uv]) (Wf qD)]
     rfl
   · split at h
     · rename_i qD
       split at h
       · rename_i t r
         split at h
         · rename_i es c ar
           cases h
           obtain⟨y,rfl,i,hi,rfl⟩:=I
           obtain⟨ents,aG,aE⟩:=au.rel _ _ i ar hi
           have hle:=au.qo ⟨w.heap.size,0,0⟩
           obtain⟨r1,r2⟩:=au.alloc (.map es c) (.map ⟨ents⟩ c) 0 ⟨ents,World.heap_alloc_new _ _,aE.mono hle⟩
           refine⟨_,_,?_,gx μ H.n ⟨w.heap.size,0,0⟩,.iface _ (.map (some w.heap.size)),rfl,⟨.map (some w.heap.size),rfl,⟨w.heap.size,0,0⟩,hy _ _ _,rfl⟩,r1,r2⟩
           rw[call _ (by rw[qD];simp[uv]) (Wi qD)]
           have kb:(getObj i.bx).run P w=.ok (.map ⟨ents⟩ c) w:=by simp[getObj,Sem.run,aG]
           simp only[Sem.run_bind]
           rw[show(⟨[Value.iface _ (Value.map (some i.bx))]⟩:Array Value)=#[.iface _ (.map (some i.bx))] from rfl]
           delta Extern.MapsClone.clone
           rw[Wl]
           simp only[Sem.run_bind,kb,Result.andThen_ok,run_newObj,Sem.run_pure]
           rfl
         · cases h
       · cases h
     · cases h
 · rename_i s c
   split at h
   · rename_i qD
     split at h
     · rename_i ah
       cases h
       have qn:c<256:=by simpa using ah
       obtain⟨u,us,rfl,I,ae⟩:=aI
       obtain⟨j9,ajw,rfl,ax,aN⟩:=ae
       cases ax;cases aN
       obtain⟨t,rfl,rfl⟩:=I
       refine⟨_,w,?_,μ,_,rfl,rfl,au,cA.refl _ _ _⟩
       rw[call _ (by rw[qD];simp[uv]) (Wh qD)]
       have n0:(Int.ofNat c).toNat.toUInt8=UInt8.ofNat c:=rfl
       have heq:∀b:UInt8,(b==UInt8.ofNat c)=Nat.beq b.toNat c:=λb=>by
        rw[Bool.eq_iff_iff,beq_iff_eq,Nat.beq_eq,<-UInt8.toNat_inj]
        simp[Nat.mod_eq_of_lt qn]
       delta Extern.BytealgIndexByte.indexByte
       rw[Wm]
       simp only[Sem.run_bind,Extern.Bytes.bytesOf,Extern.Bytes.asByte,Sem.run_pure,Result.andThen_ok,n0,heq]
       have hf:=Wj t (λb=>Nat.beq b.toNat c)
       rw[hf,Nr]
       cases t.data.toList.findIdx? (λb=>Nat.beq b.toNat c) with
       |none=>rfl
       |some j=>
        simp only[Nat.zero_add]
        rfl
     · cases h
   · cases h
 · cases h
def pN(P:Program)(intr:Nat->List ad->ab->Option (ad×ab)):Prop:=
 ∀f args H v a6,intr f args H=some (v,a6)->∀μ w (vs:List Value),bK μ H w->iA P μ->cG μ args vs->vV P f vs w (Ends μ H w (.ret v a6))
theorem Wq(P:Program):pN P (λ_ _ _=>none):=λ_ _ _ _ _ h=>by cases h
theorem Wr{call:ff->List ad->ab->bE}(ah:kM P call)(hdr:∀need b9,oT P need b9 call)(eL:x6 P)(x_:DS P){f:Nat}{args:List ad}{H:ab}(cx:(su P call f args H).mP=true)
  {μ:bI}{w:World}{vs:List Value}(au:bK μ H w)(ar:iA P μ)(aI:cG μ args vs):vV P f vs w (Ends μ H w (su P call f args H)):=by
 unfold su at cx⊢
 cases hf:P.funcs[f]? with
 |none=>rw[hf] at cx;cases cx
 |some fn=>
  rw[hf] at cx
  simp only at cx⊢
  cases ag:fn.body with
  |none=>
   rw[ag] at cx
   simp only at cx⊢
   cases aa:tP P fn fn.name args H with
   |none=>rw[aa] at cx;cases cx
   |some p=>
    obtain⟨v,a6⟩:=p
    obtain⟨u,w',I,ae⟩:=Wn hf ag x_ aa au aI
    exact .inl ⟨u,w',I,ae⟩
  |some c=>
   rw[ag] at cx
   simp only at cx⊢
   obtain⟨mg,lS⟩:=eL f fn c hf ag
   exact .inr ⟨DO hf ag lS _ _,V8 ah hdr eL hf ag aI au ar cx⟩
theorem Nu{intr:Nat->List ad->ab->Option (ad×ab)}(hi:pN P intr)(hdr:∀call,kM P call->∀need b9,oT P need b9 call)(eL:x6 P)(x_:DS P):∀n,kM P (fF P intr n)
 |0=>⟨λf args H ar=>(by cases ar),λl args H ar=>(by cases ar)⟩
 |n+1=>by
  have bl:=Nu hi hdr eL x_ n
  refine⟨λf args H cx μ w vs au ar aI=>?_,λl args H cx μ w i vs au ar aA aI=>?_⟩
  · simp only[fF] at cx⊢
    cases aa:intr f args H with
    |some p=>
     obtain⟨v,a6⟩:=p
     exact hi f args H v a6 aa μ w vs au ar aI
    |none=>
     rw[aa] at cx
     exact Wr bl (hdr _ bl) eL x_ cx au ar aI
  · simp only[fF] at cx⊢
    exact Wb bl (hdr _ bl) cx au ar aA aI
end
end bg
namespace bg
open Go
def v5(ops:Array Oper)(S:List Nat):List Nat->Prop
 |[]=>∀i,i<ops.size->i∈S
 |i::rest=>i<ops.size/\i∉S/\(∀o,ops[i]? =some o->∀e∈o.after,Region.binds .any e=true->e.on∈S)/\v5 ops (i::S) rest
theorem filter_lt{p q:Nat->Bool}(He:∀x,q x=true->p x=true):∀(l:List Nat) {i:Nat},i∈l->p i=true->q i=false->(l.filter q).length<(l.filter p).length
 |[],i,h,_,_=>by cases h
 |a::l,i,h,a0,aK=>by
  have hle:∀l:List Nat,(l.filter q).length<=(l.filter p).length:=λl=>by
   induction l with
   |nil=>simp
   |cons b l bl=>
    simp only[List.filter_cons]
    cases ag:q b with
    |true=>simp[He b ag];exact bl
    |false=>cases p b<;>simp<;>omega
  rcases List.mem_cons.1 h with rfl|h
  · have:=hle l
    simp only[List.filter_cons,a0,aK,if_true,Bool.false_eq_true,if_false,List.length_cons];omega
  · have bl:=filter_lt He l h a0 aK
    simp only[List.filter_cons]
    cases ag:q a with
    |true=>simp[He a ag];exact bl
    |false=>cases p a<;>simp<;>omega
theorem Ws{ops:Array Oper}(ux:∀o i,ops[i]? =some o->qm o i=true){listed:Array Bool}(bJ:listed.size=ops.size)(ao:Region.ready .any ops listed=[]):∀i,i<ops.size->listed.getD i true=true:=by
 intro i
 induction i using Nat.strongRecOn with
 |ind i bl=>
  intro hi
  cases aA:listed.getD i true with
  |true=>rfl
  |false=>
   have bc:ops[i]? =some ops[i]:=Array.getElem?_eq_getElem hi
   have:i∈Region.ready .any ops listed:=mem_ready.2 ⟨aA,ops[i],bc,λe he ag=>by
    have:=ux _ _ bc
    unfold qm at this
    rw[List.all_eq_true] at this
    have ae:=this e (by simpa using he)
    simp only[ag,Bool.not_true,Bool.false_or,Nat.blt_eq] at ae
    have ax:=bl e.on ae (by omega)
    have cB:e.on<listed.size:=by omega
    simp[cB] at ax⊢
    exact ax⟩
   rw[ao] at this;cases this
theorem Nv{ops:Array Oper}(ux:∀o i,ops[i]? =some o->qm o i=true):∀(fuel t:Nat) (listed:Array Bool) (S:List Nat),listed.size=ops.size->(∀i,i<ops.size->(listed.getD i true=true<->i∈S))->
  ((List.range ops.size).filter λi=>!listed.getD i true).length<=fuel->v5 ops S (Region.linearise.go .any ops fuel t listed [])
 |0,t,listed,S,bJ,jK,hf=>by
  simp only[Region.linearise.go,List.reverse_nil,v5]
  intro i hi
  rw[<-jK i hi]
  have h0:((List.range ops.size).filter λi=>!listed.getD i true)=[]:=List.length_eq_zero_iff.1 (Nat.le_zero.1 hf)
  rw[List.filter_eq_nil_iff] at h0
  have:=h0 i (List.mem_range.2 hi)
  simpa using this
 |fuel+1,t,listed,S,bJ,jK,hf=>by
  simp only[Region.linearise.go]
  change v5 ops S (match(Region.ready .any ops listed)[t %(Region.ready .any ops listed).length]? with
   |some i=>Region.linearise.go .any ops fuel (t/(Region.ready .any ops listed).length) (listed.setIfInBounds i true) [i]
   |none=>[].reverse)
  cases hi:(Region.ready .any ops listed)[t %(Region.ready .any ops listed).length]? with
  |none=>
   have sQ:Region.ready .any ops listed=[]:=by
    cases ao:Region.ready .any ops listed with
    |nil=>rfl
    |cons x xs=>
     rw[ao] at hi
     have cB:t %(x::xs).length<(x::xs).length:=Nat.mod_lt _ (by simp)
     rw[List.getElem?_eq_getElem cB] at hi;cases hi
   simp only[List.reverse_nil,v5]
   exactλi h=>(jK i h).1 (Ws ux bJ sQ i h)
  |some i=>
   simp only[]
   rw[linearise_go_acc,List.reverse_singleton,List.singleton_append]
   obtain⟨I,o,ae,ax⟩:=mem_ready.1 (List.mem_of_getElem? hi)
   have cB:i<ops.size:=(Array.getElem?_eq_some_iff.1 ae).1
   have An:i<listed.size:=by omega
   have md:∀j d,(listed.setIfInBounds i true).getD j d=if j=i then true else listed.getD j d:=λj d=>by
    simp only[Array.getD_eq_getD_getElem?,Array.getElem?_setIfInBounds]
    by_cases e:i=j
    · subst e;simp[An]
    · rw[if_neg e,if_neg (λh=>e h.symm)]
   refine⟨cB,λh=>?_,λo' jN e he ag=>?_,Nv ux fuel _ _ _ (by simpa using bJ) (λj aO=>?_) ?_⟩
   · have:=(jK i cB).2 h
     rw[I] at this;cases this
   · rw[ae] at jN;cases jN
     have aN:=ax e he ag
     have jg:e.on<listed.size:=by
      rcases Nat.lt_or_ge e.on listed.size with h|h
      · exact h
      · simp[Array.getElem?_eq_none h] at aN
     rw[<-jK e.on (by omega)]
     simp[jg] at aN⊢
     exact aN
   · rw[md,List.mem_cons]
     by_cases e:j=i
     · simp[e]
     · rw[if_neg e,jK j aO];simp[e]
   · have ajx:((List.range ops.size).filter λj=>!(listed.setIfInBounds i true).getD j true).length<((List.range ops.size).filter λj=>!listed.getD j true).length:=
       filter_lt (λx aa=>by
        rw[md] at aa
        by_cases e:x=i
        · rw[if_pos e] at aa;cases aa
        · rw[if_neg e] at aa;exact aa) _ (List.mem_range.2 cB) (by rw[I];rfl) (by rw[md,if_pos rfl];rfl)
     omega
theorem Wt{ops:Array Oper}(ux:∀o i,ops[i]? =some o->qm o i=true)(t:Nat):v5 ops [] (Region.schedule true ops t):=by
 simp only[Region.schedule,Bool.true_or,if_true,Region.linearise]
 refine Nv ux ops.size t _ [] (by simp) (λi hi=>by simp[hi]) ?_
 refine Nat.le_trans (List.length_filter_le _ _) (by simp)
section
variable {P:Program} {g e6:Operand->ad}
theorem Hf{o:Option Operand}(h:∀x∈o.toArray,g x=e6 x):o.map g=o.map e6:=by
 cases o with
 |none=>rfl
 |some x=>simp[h x (by simp)]
theorem AQ(o:Oper)(H:ab)(h:∀x∈o.op.operands,g x=e6 x):c7 P o g H=c7 P o e6 H:=by
 obtain⟨dst,op,type,pos,after,guard⟩:=o
 have DT:∀ps:Array (Nat×Operand),(∀x∈ps.map (·.2),g x=e6 x)->(ps.toList.map λp=>(p.1,g p.2))=(ps.toList.map λp=>(p.1,e6 p.2)):=λps a0=>
  List.map_congr_left λp hm=>by rw[a0 p.2 (Array.mem_map.2 ⟨p,by simpa using hm,rfl⟩)]
 cases op<;>simp only[Op.operands] at h<;>unfold c7
 case build t ps=>simp only[DT ps λx aa=>h x (by simpa using aa)]
 case buildSlice t n ps=>simp only[DT ps λx aa=>h x (by simpa using aa)]
 case makeFunc fn first captured=>
  simp only[List.map_congr_left (l:=first.toList) λx aa=>h x (by simp at aa;simp[aa]),List.map_congr_left (l:=captured.toList) λx aa=>h x (by simp at aa;simp[aa])]
 case call c=>
  have aV:c.args.toList.map g=c.args.toList.map e6:=List.map_congr_left λx aa=>h x (by simp at aa;simp[Call.operands,aa])
  simp only[aV]
  cases ah:c.callee with
  |value f=>have hf:g f=e6 f:=h f (by simp[Call.operands,ah]);simp only[hf]
  |invoke r m=>have ao:g r=e6 r:=h r (by simp[Call.operands,ah]);simp only[ao]
  |builtin b=>rfl
 case defer c=>
  have aV:c.args.toList.map g=c.args.toList.map e6:=List.map_congr_left λx aa=>h x (by simp at aa;simp[Call.operands,aa])
  simp only[aV]
  cases ah:c.callee with
  |value f=>have hf:g f=e6 f:=h f (by simp[Call.operands,ah]);simp only[hf]
  |invoke r m=>rfl
  |builtin b=>rfl
 case makeMap t r=>cases r<;>simp_all
 case slice t x lo hi mx=>
  have aG:lo.map g=lo.map e6:=Hf λy aZ=>h y (by simp at aZ;simp[aZ])
  have aE:hi.map g=hi.map e6:=Hf λy aZ=>h y (by simp at aZ;simp[aZ])
  have bH:mx.map g=mx.map e6:=Hf λy aZ=>h y (by simp at aZ;simp[aZ])
  have eu:g x=e6 x:=h x (by simp)
  have eZ:∀o:Option Operand,(o.map λo=>kindName (g o))=(o.map g).map kindName:=λo=>by cases o<;>rfl
  have hd:∀o:Option Operand,(o.map λo=>kindName (e6 o))=(o.map e6).map kindName:=λo=>by cases o<;>rfl
  simp only[aG,aE,bH,eu,eZ,hd]
 all_goals (first|rfl|(simp_all;done))
theorem AR(o:Op)(b:Nat)(h:∀x∈o.operands,g x=e6 x):lN P o g b=lN P o e6 b:=by
 have DT:∀ps:Array (Nat×Operand),(∀x∈ps.map (·.2),g x=e6 x)->(ps.toList.map λp=>(p.1,g p.2))=(ps.toList.map λp=>(p.1,e6 p.2)):=λps a0=>
  List.map_congr_left λp hm=>by rw[a0 p.2 (Array.mem_map.2 ⟨p,by simpa using hm,rfl⟩)]
 cases o<;>simp only[Op.operands] at h<;>unfold lN
 case buildSlice t n ps=>simp only[DT ps λx aa=>h x (by simpa using aa)]
 case makeMap t r=>cases r<;>rfl
 all_goals (first|rfl|(simp_all;done))
theorem Wu{o:Oper}{H a6:ab}{v:ad}(ay:kindOf P o.op=.pure)(h:c7 P o g H=.val v a6):a6=H:=by
 have h4:∀{w:String} {x:Option ad},gL H w x=.val v a6->a6=H:=λ{w x} e=>by
  cases x with
  |none=>cases e
  |some y=>cases e;rfl
 obtain⟨dst,op,type,pos,after,guard⟩:=o
 cases op<;>simp only[kindOf] at ay<;>(try (cases ay;done))<;>unfold c7 at h<;>simp only at h
 case move=>cases h;rfl
 case assign=>cases h;rfl
 case pick=>
  split at h
  · cases h;rfl
  · cases h;rfl
  · cases h
 case build=>
  repeat' (first|contradiction|(cases h;rfl)|(cases h;done)|split at h)
 case load=>
  repeat' (first|contradiction|(cases h;rfl)|(cases h;done)|exact h4 h|split at h)
 case nilCheck=>repeat' (first|contradiction|(cases h;rfl)|(cases h;done)|exact h4 h|split at h)
 case binOp=>exact h4 h
 case unOp=>repeat' (first|contradiction|(cases h;rfl)|(cases h;done)|exact h4 h|split at h)
 case convert s d x=>
  have dr:∀e,P.underlying d≠some (.slice e):=λe he=>by rw[he] at ay;cases ay
  unfold hp at h
  repeat' (first|exact absurd (by assumption) (dr _)|(cases h;rfl)|(cases h;done)|split at h)
 case makeInterface=>repeat' (first|contradiction|(cases h;rfl)|(cases h;done)|exact h4 h|split at h)
 case makeFunc=>repeat' (first|contradiction|(cases h;rfl)|(cases h;done)|exact h4 h|split at h)
 case makeMap r=>cases r<;>cases ay
 case slice=>exact h4 h
 case fieldAddr=>repeat' (first|contradiction|(cases h;rfl)|(cases h;done)|exact h4 h|split at h)
 case field=>repeat' (first|contradiction|(cases h;rfl)|(cases h;done)|exact h4 h|split at h)
 case indexAddr=>repeat' (first|contradiction|(cases h;rfl)|(cases h;done)|exact h4 h|split at h)
 case index=>repeat' (first|contradiction|(cases h;rfl)|(cases h;done)|exact h4 h|split at h)
 case lookup=>exact h4 h
 case typeAssert=>repeat' (first|contradiction|(cases h;rfl)|(cases h;done)|exact h4 h|split at h)
 case extract=>repeat' (first|contradiction|(cases h;rfl)|(cases h;done)|exact h4 h|split at h)
 case call c=>
  cases ah:c.callee with
  |value f=>rw[ah] at ay;cases ay
  |invoke r m=>rw[ah] at ay;cases ay
  |builtin b=>
   rw[ah] at ay h
   simp only at h
   cases b<;>simp only at ay<;>(try (cases ay;done))<;>unfold jH at h<;>simp only at h
   all_goals repeat' (first|contradiction|(cases h;rfl)|(cases h;done)|exact h4 h|split at h)
end
end bg
namespace bg
open Go
def mS(ops:Array Oper)(S:List Nat)(j:Nat):Prop:=∀o,ops[j]? =some o->∀e∈o.after,Region.binds .any e=true->e.on∈S
def AS(ops:Array Oper)(S:List Nat):Prop:=∀j∈S,mS ops S j
def Sound(ops:Array Oper)(j m:Nat):Prop:=∀S,AS ops S->mS ops S j->∀b,Nat.testBit m b=true->b∈S
def AT(ops:Array Oper)(n:Nat)(hM:List Nat):Prop:=∀j,j<n->∃m,nth (n-1-j) hM=some m/\Sound ops j m
theorem Wv(a b:Nat)(h:Nat.testBit (1<<<a) b=true):b=a:=by
 rw[Nat.shiftLeft_eq,Nat.one_mul,Nat.testBit_two_pow] at h
 exact(of_decide_eq_true h).symm
theorem Nw{hM:List Nat}{n:Nat}:∀(l:List Edge) (s b:Nat),Nat.testBit (l.foldl (λs e=>match Region.binds .any e with
  |true=>s|||1<<<e.on|||(nth (n-1-e.on) hM).getD 0
  |false=>s) s) b=true->Nat.testBit s b=true\/∃e∈l,Region.binds .any e=true/\(b=e.on\/Nat.testBit ((nth (n-1-e.on) hM).getD 0) b=true)
 |[],s,b,h=>.inl h
 |e::l,s,b,h=>by
  rw[List.foldl_cons] at h
  rcases Nw l _ b h with h|⟨dc,I,ae⟩
  · cases ag:Region.binds .any e with
    |false=>rw[ag] at h;exact .inl h
    |true=>
     rw[ag] at h
     simp only[Nat.testBit_or,Bool.or_eq_true] at h
     rcases h with(h|h)|h
     · exact .inl h
     · exact .inr ⟨e,by simp,ag,.inl (Wv _ _ h)⟩
     · exact .inr ⟨e,by simp,ag,.inr h⟩
  · exact .inr ⟨dc,by simp[I],ae⟩
theorem Ww{ops:Array Oper}{hM:List Nat}{n:Nat}{o:Oper}(bc:ops[n]? =some o)(ag:qm o n=true)(hm:AT ops n hM):Sound ops n (z4 hM n o):=by
 intro S jK ao b h
 unfold z4 at h
 rw[<-Array.foldl_toList] at h
 rcases Nw _ _ _ h with h|⟨e,I,ae,ax⟩
 · simp at h
 · have he:e∈o.after:=by simpa using I
   have jg:=ao o bc e he ae
   rcases ax with rfl|ax
   · exact jg
   · have cB:e.on<n:=by
       unfold qm at ag
       rw[List.all_eq_true] at ag
       have:=ag e I
       simpa[ae] using this
     obtain⟨m,DU,AU⟩:=hm e.on cB
     rw[DU] at ax
     exact AU S jK (jK _ jg) b ax
theorem AT.cons{ops:Array Oper}{hM:List Nat}{n m:Nat}(h:AT ops n hM)(al:Sound ops n m):AT ops (n+1) (m::hM):=by
 intro j aO
 by_cases e:j=n
 · subst e;exact⟨m,by simp[nth],al⟩
 · obtain⟨lv,I,ae⟩:=h j (by omega)
   refine⟨lv,?_,ae⟩
   have:n+1-1-j=(n-1-j)+1:=by omega
   rw[this];exact I
theorem Nx:∀(l:List Oper) (n:Nat) (loc:List (Nat×Acc)) (k:Nat) (o:Oper),l[k]? =some o->kq (l.take (k+1)) n loc=ix o (n+k) (kq (l.take k) n loc)
 |[],n,loc,k,o,h=>by simp at h
 |x::l,n,loc,0,o,h=>by simp at h;subst h;simp[kq]
 |x::l,n,loc,k+1,o,h=>by
  have aw:l[k]? =some o:=by simpa using h
  have bl:=Nx l (n+1) (ix x n loc) k o aw
  simp only[List.take_succ_cons,kq]
  rw[bl]
  have:n+1+k=n+(k+1):=by omega
  rw[this]
theorem AV{ops:Array Oper}:∀(l:List Oper) (n:Nat) (loc:List (Nat×Acc)) (hM:List Nat),(∀k,l[k]? =ops[n+k]?)->(∀s∈f_ l n loc hM,qm s.o s.i=true)->AT ops n hM->∀(k:Nat) (o:Oper),l[k]? =some o->
  ∃s,(f_ l n loc hM)[k]? =some s/\s.i=n+k/\s.o=o/\s.loc=kq (l.take k) n loc/\Sound ops (n+k) s.fV
 |[],n,loc,hM,aA,he,hm,k,o,h=>by simp at h
 |x::l,n,loc,hM,aA,he,hm,k,o,h=>by
  simp only[f_] at he⊢
  have aa:ops[n]? =some x:=by have:=aA 0;simpa using this.symm
  have ag:qm x n=true:=he ⟨n,x,z4 hM n x,loc⟩ (by simp)
  have al:=Ww aa ag hm
  cases k with
  |zero=>
   simp at h;subst h
   exact⟨_,rfl,rfl,rfl,rfl,al⟩
  |succ k=>
   obtain⟨s,I,ae,ax,aN,bS⟩:=AV l (n+1) (ix x n loc) (z4 hM n x::hM) (λj=>by have:=aA (j+1);simp at this;rw[this];congr 1;omega) (λs al=>he s (by simp[al])) (hm.cons al) k o (by simpa using h)
   exact⟨s,by simpa using I,by omega,ax,by simpa[kq] using aN,by rw[show n+(k+1)=n+1+k by omega];exact bS⟩
theorem Hg:∀(l:List Oper) (n:Nat) (loc:List (Nat×Acc)) (hM:List Nat),(f_ l n loc hM).length=l.length
 |[],_,_,_=>rfl
 |x::l,n,loc,hM=>by simp[f_,Hg l]
theorem ya{ops:Array Oper}:∀{l:List DStep},sv ops l=true->∀s∈l,qm s.o s.i=true
 |[],_,s,h=>by cases h
 |x::l,ai,s,h=>by
  simp only[sv,Bool.and_eq_true] at ai
  rcases List.mem_cons.1 h with rfl|h
  · exact ai.1.1
  · exact ya ai.2 s h
theorem Ny{ops:Array Oper}{s:DStep}:∀{l:List DStep},Db ops s l=true->∀s'∈l,(∃t,s.o.dst=some t/\t∈nN ops s'.o)\/(∃t,s'.o.dst=some t/\t∈nN ops s.o)->Nat.testBit s'.fV s.i=true
 |[],_,s',h=>by cases h
 |x::l,ai,s',h=>by
  simp only[Db,Bool.and_eq_true] at ai
  rcases List.mem_cons.1 h with rfl|h
  · intro aH
    have I:=ai.1
    split at I
    · exact I
    · rename_i ah
      exfalso
      rw[Bool.or_eq_false_iff] at ah
      rcases aH with⟨t,e,hm⟩|⟨t,e,hm⟩
      · have:=ah.1;rw[e] at this;simp[hm] at this
      · have:=ah.2;rw[e] at this;simp[hm] at this
  · exact Ny ai.2 s' h
theorem Nz{ops:Array Oper}:∀{l:List DStep},sv ops l=true->∀(i j:Nat) (s s':DStep),i<j->l[i]? =some s->l[j]? =some s'->(∃t,s.o.dst=some t/\t∈nN ops s'.o)\/(∃t,s'.o.dst=some t/\t∈nN ops s.o)->Nat.testBit s'.fV s.i=true
 |[],_,i,j,s,s',_,h,_=>by simp at h
 |x::l,ai,i,j,s,s',uy,I,ae=>by
  simp only[sv,Bool.and_eq_true] at ai
  cases j with
  |zero=>omega
  |succ j=>
   have rK:l[j]? =some s':=by simpa using ae
   cases i with
   |zero=>
    simp at I;subst I
    exact Ny ai.1.2 s' (List.mem_of_getElem? rK)
   |succ i=>exact Nz ai.2 i j s s' (by omega) (by simpa using I) rK
structure v8 where
 env:List ad
 d:List cb
 q:bU
 h:ab
 bu:List (Nat×Nat×ab)
section
variable {P:Program} {need:Nat} {inR:Bool} {call:ff->List ad->ab->bE} {ops:Array Oper} {r:ba} {c2:Nat}
def n1(P:Program)(need:Nat)(r:ba)(s:DStep)(env:List ad):Operand->ad:=λx=>ep s.i env r (da P need s.loc x)
inductive v9(P:Program)(need:Nat)(inR:Bool)(call:ff->List ad->ab->bE)(ops:Array Oper)(r:ba)(c2:Nat)(s:DStep)(st:v8):v8->Prop where
 |yb (ay:kindOf P s.o.op=.alloc) (hw:fg (h1 P need ops r s.i st.env s)=some false):v9 P need inR call ops r c2 s st {st with env:=.aR []::st.env}
 |alloc {v:ad} {ob:dQ} (ay:kindOf P s.o.op=.alloc) (hw:fg (h1 P need ops r s.i st.env s)=some true) (aV:lN P s.o.op (n1 P need r s st.env) (c2+s.i)=some (v,ob)):
   v9 P need inR call ops r c2 s st {st with env:=v::st.env,h:=st.h.set (c2+s.i) (some ob)}
 |pure {v:ad} {d':List cb} {br:bU} {aw:ab} (ay:kindOf P s.o.op=.pure) (he:eI P inR call (h1 P need ops r s.i st.env s) s.o (n1 P need r s st.env) st.d st.q st.h=.ok v d' br aw):
   v9 P need inR call ops r c2 s st {st with env:=v::st.env}
 |e3 {v:ad} {d':List cb} {br:bU} {aw:ab} (ay:kindOf P s.o.op=.e3) (bc:∀e m h0 l,st.bu=(e,m,h0)::l->Nat.testBit s.fV e=true)
   (he:eI P inR call (h1 P need ops r s.i st.env s) s.o (n1 P need r s st.env) st.d st.q st.h=.ok v d' br aw):v9 P need inR call ops r c2 s st ⟨v::st.env,d',br,aw,(s.i,s.fV,st.h)::st.bu⟩
theorem Wx{s:DStep}{rest:List DStep}{st:v8}{x:Gj}(h:hq P need inR call ops r c2 (s::rest) st.env st.d st.q st.h st.bu=x)(hf:∀w,x≠ .fail w):
  (∃cg,v9 P need inR call ops r c2 s st cg/\hq P need inR call ops r c2 rest cg.env cg.d cg.q cg.h cg.bu=x)\/
  (kindOf P s.o.op=.e3/\(∀e m h0 l,st.bu=(e,m,h0)::l->Nat.testBit s.fV e=true)/\rest.all (λs'=>Nat.testBit s'.fV s.i)=true/\
   ∃v d' br aw,eI P inR call (h1 P need ops r s.i st.env s) s.o (n1 P need r s st.env) st.d st.q st.h=.cw v d' br aw/\x=.cw v st.env d' br aw ((s.i,s.fV,st.h)::st.bu)):=by
 simp only[hq] at h
 split at h
 · rename_i ay
   split at h
   · exact absurd h.symm (hf _)
   · rename_i hw;exact .inl ⟨_,.yb ay hw,h⟩
   · rename_i hw
     split at h
     · rename_i v ob aV;exact .inl ⟨_,.alloc ay hw aV,h⟩
     · exact absurd h.symm (hf _)
 · rename_i ay
   split at h
   · rename_i he;exact .inl ⟨_,.pure ay he,h⟩
   · exact absurd h.symm (hf _)
   · exact absurd h.symm (hf _)
 · rename_i ay
   split at h
   · exact absurd h.symm (hf _)
   · rename_i bc
     have jN:∀e m h0 l,st.bu=(e,m,h0)::l->Nat.testBit s.fV e=true:=λe m h0 l al=>by rw[al] at bc;exact bc
     split at h
     · rename_i he;exact .inl ⟨_,.e3 ay jN he,h⟩
     · rename_i he
       split at h
       · rename_i eL;exact .inr ⟨ay,jN,eL,_,_,_,_,he,h.symm⟩
       · exact absurd h.symm (hf _)
     · exact absurd h.symm (hf _)
theorem NA:∀(l:List DStep) (st:v8) (x:Gj),hq P need inR call ops r c2 l st.env st.d st.q st.h st.bu=x->(∀w,x≠ .fail w)->
  ∃(f:Nat->v8) (N:Nat),f 0=st/\N<=l.length/\(∀k s,k<N->l[k]? =some s->v9 P need inR call ops r c2 s (f k) (f (k+1)))/\
   ((N=l.length/\x=.ok (f N).env (f N).d (f N).q (f N).h (f N).bu)\/
    (∃s,l[N]? =some s/\kindOf P s.o.op=.e3/\(∀e m h0 l,(f N).bu=(e,m,h0)::l->Nat.testBit s.fV e=true)/\(∀k s',N<k->l[k]? =some s'->Nat.testBit s'.fV s.i=true)/\
     ∃v d' br aw,eI P inR call (h1 P need ops r s.i (f N).env s) s.o (n1 P need r s (f N).env) (f N).d (f N).q (f N).h=.cw v d' br aw/\x=.cw v (f N).env d' br aw ((s.i,s.fV,(f N).h)::(f N).bu)))
 |[],st,x,h,hf=>⟨λ_=>st,0,rfl,Nat.le_refl _,λk s ay=>by omega,.inl ⟨rfl,h.symm⟩⟩
 |s::l,st,x,h,hf=>by
  rcases Wx h hf with⟨cg,I,ae⟩|⟨I,ae,ax,aN⟩
  · obtain⟨f,N,ak,av,aD,a4⟩:=NA l cg x ae hf
    refine⟨λk=>match k with|0=>st|k+1=>f k,N+1,rfl,by simpa using av,λk s' ay al=>?_,?_⟩
    · cases k with
      |zero=>simp at al;subst al;simp only[Nat.zero_add,ak];exact I
      |succ k=>exact aD k s' (by omega) (by simpa using al)
    · rcases a4 with⟨aG,aE⟩|⟨s2,aG,aE,bH,eu,eZ⟩
      · exact .inl ⟨by simp[aG],aE⟩
      · refine .inr ⟨s2,by simpa using aG,aE,bH,λk s' ay al=>?_,eZ⟩
        cases k with
        |zero=>omega
        |succ k=>exact eu k s' (by omega) (by simpa using al)
  · refine⟨λ_=>st,0,rfl,by simp,λk s ay=>by omega,.inr ⟨s,rfl,I,ae,λk s' ay al=>?_,aN⟩⟩
    cases k with
    |zero=>omega
    |succ k=>
     rw[List.all_eq_true] at ax
     exact ax s' (List.mem_of_getElem? (by simpa using al))
mutual
theorem beq_eq:∀(a c:ad),ad.beq a c=true->a=c
 |.bool a,c,h=>by
  cases c<;>simp only[ad.beq] at h<;>first|(cases h;done)|(simp at h;subst h;rfl)
 |.int k n,c,h=>by
  cases c<;>simp only[ad.beq] at h<;>first|(cases h;done)|(simp[fc] at h;obtain⟨rfl,rfl⟩:=h;rfl)
 |.str s,c,h=>by
  cases c<;>simp only[ad.beq] at h<;>first|(cases h;done)|(rw[nP] at h;simp at h;subst h;rfl)
 |.aX,c,h=>by cases c<;>simp only[ad.beq] at h<;>first|(cases h;done)|rfl
 |.ptr x y,c,h=>by
  cases c<;>simp only[ad.beq] at h<;>first|(cases h;done)|(rw[Bool.and_eq_true,Nat.beq_eq,Nat.beq_eq] at h;obtain⟨rfl,rfl⟩:=h;rfl)
 |.aP,c,h=>by cases c<;>simp only[ad.beq] at h<;>first|(cases h;done)|rfl
 |.slice x y z cap,c,h=>by
  cases c<;>simp only[ad.beq] at h<;>(try (cases h;done))
  rename_i Hh Dj AW Wy
  simp only[Bool.and_eq_true,Nat.beq_eq] at h
  obtain⟨⟨⟨rfl,rfl⟩,rfl⟩,h⟩:=h
  cases cap<;>cases Wy<;>simp only[ct.beq] at h<;>first|(cases h;done)|(rw[Nat.beq_eq] at h;subst h;rfl)|rfl
 |.jw,c,h=>by cases c<;>simp only[ad.beq] at h<;>first|(cases h;done)|rfl
 |.map x,c,h=>by
  cases c<;>simp only[ad.beq] at h<;>first|(cases h;done)|(rw[Nat.beq_eq] at h;subst h;rfl)
 |.gW,c,h=>by cases c<;>simp only[ad.beq] at h<;>first|(cases h;done)|rfl
 |.fn x as bs,c,h=>by
  cases c<;>simp only[ad.beq] at h<;>(try (cases h;done))
  simp only[Bool.and_eq_true,Nat.beq_eq] at h
  obtain⟨⟨rfl,I⟩,ae⟩:=h
  rw[yc _ _ I,yc _ _ ae]
 |.eb x,c,h=>by
  cases c<;>simp only[ad.beq] at h<;>first|(cases h;done)|(rw[Nat.beq_eq] at h;subst h;rfl)
 |.fU,c,h=>by cases c<;>simp only[ad.beq] at h<;>first|(cases h;done)|rfl
 |.iface t v,c,h=>by
  cases c<;>simp only[ad.beq] at h<;>(try (cases h;done))
  simp only[Bool.and_eq_true,Nat.beq_eq] at h
  obtain⟨rfl,I⟩:=h
  rw[beq_eq _ _ I]
 |.agg cs,c,h=>by
  cases c<;>simp only[ad.beq] at h<;>(try (cases h;done))
  rw[yc _ _ h]
 |.aR cs,c,h=>by
  cases c<;>simp only[ad.beq] at h<;>(try (cases h;done))
  rw[yc _ _ h]
 |.bad,c,h=>by cases c<;>simp only[ad.beq] at h<;>cases h
theorem yc:∀(a c:List ad),ad.px a c=true->a=c
 |[],[],_=>rfl
 |[],_::_,h=>by simp[ad.px] at h
 |_::_,[],h=>by simp[ad.px] at h
 |x::a,y::c,h=>by
  simp only[ad.px,Bool.and_eq_true] at h
  rw[beq_eq _ _ h.1,yc _ _ h.2]
end
end
end bg
