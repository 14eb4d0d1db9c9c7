/-
  THE ABSTRACT EVALUATOR (code, functions, rounds, calls): a deterministic semantics of loaded code, and the proof that its runs are runs of the program in the model, whatever the tape draws. No condition.
-/
import Derived.Test.YtfooahfebojldaaGreatDoorAeb
import Derived.Defers
import Derived.Laws.Externs
import Derived.Orders
set_option linter.unusedVariables false
set_option linter.unusedSimpArgs false
namespace aw
open Go
def qg(P:Program)(need:Nat)(ops:Array Oper):List Oper->List (Nat×Acc)->Nat->List Step
 |[],_,_=>[]
 |o::rest,loc,m=>
  match aliasOf o with
  |some (t,x)=>qg P need ops rest ((t,cw P need loc x)::loc) m
  |none=>⟨iK P need ops loc o,o,loc,m⟩::qg P need ops rest (kt o m loc) (m+1)
def nQ(P:Program)(need:Nat)(ops:Array Oper):List Oper->List (Nat×Acc)->Nat->List (Nat×Acc)
 |[],loc,_=>loc
 |o::rest,loc,m=>
  match aliasOf o with
  |some (t,x)=>nQ P need ops rest ((t,cw P need loc x)::loc) m
  |none=>nQ P need ops rest (kt o m loc) (m+1)
theorem Ba(P:Program)(need:Nat)(ops:Array Oper):∀(l:List Oper) (loc:List (Nat×Acc)) (st:List Step) (m:Nat),tf P need ops l loc st m=⟨st.reverse++qg P need ops l loc m,nQ P need ops l loc m⟩
 |[],loc,st,m=>by simp[tf,qg,nQ]
 |o::rest,loc,st,m=>by
  unfold tf qg nQ
  cases aX:aliasOf o with
  |some p=>obtain⟨t,x⟩:=p;simp only[aX];exact Ba P need ops rest _ st m
  |none=>simp only[aX];rw[Ba P need ops rest];simp
section
variable {P:Program} {need:Nat}
theorem mS(t u:Nat)(a:Acc)(l:List (Nat×Acc)):hd t ((u,a)::l)=if t=u then some a else hd t l:=by
 rw[hd]
 by_cases h:t=u
 · subst h;simp
 · have:Nat.beq t u=false:=by
     cases af:Nat.beq t u with
     |false=>rfl
     |true=>exact absurd (Nat.eq_of_beq_eq_true af) h
   rw[this,if_neg h]
def Acc.below(m:Nat):Acc->Prop
 |.env j=>j<m
 |_=>True
theorem No{m:Nat}{env:List I}{r:aL}{v:I}{a:Acc}(h:a.below m):dk (m+1) (v::env) r a=dk m env r a:=by
 cases a with
 |env j=>
  simp only[Acc.below] at h
  have:m+1-1-j=(m-1-j)+1:=by omega
  simp only[dk,this,nth]
 |jS p=>rfl
 |val v=>rfl
theorem Np{m:Nat}{env:List I}{r:aL}{v:I}:dk (m+1) (v::env) r (.env m)=v:=by
 simp[dk,nth]
def Bb(m:Nat)(loc:List (Nat×Acc)):Prop:=∀t a,hd t loc=some a->a.below m
theorem yk{m:Nat}{loc:List (Nat×Acc)}(h:Bb m loc)(x:Operand):(cw P need loc x).below m:=by
 cases x with
 |tmp t=>
  simp only[cw]
  cases hf:hd t loc with
  |some a=>exact h t a hf
  |none=>simp only[];cases Nat.testBit need t<;>trivial
 |const v=>trivial
 |global g=>simp only[cw];cases Nat.blt g P.globals.size<;>trivial
 |func f=>trivial
theorem Acc.FV{m n:Nat}(h:m<=n){a:Acc}(aX:a.below m):a.below n:=by
 cases a with
 |env j=>exact Nat.lt_of_lt_of_le aX h
 |jS p=>trivial
 |val v=>trivial
structure h7(P:Program)(need:Nat)(μ:a8)(r:aL)(m:Nat)(env:List I)(loc:List (Nat×Acc))(bU:Array Value):Prop where
 tv:Bb m loc
 rel:∀t,a1 μ (dk m env r (cw P need loc (.tmp t))) (bU.getD t undef)
theorem h7.mono{μ aH:a8}{r:aL}{m:Nat}{env:List I}{loc:List (Nat×Acc)}{bU:Array Value}(hle:en μ aH)(h:h7 P need μ r m env loc bU):h7 P need aH r m env loc bU:=⟨h.tv,λt=>(h.rel t).mono hle⟩
theorem h7.eval{μ:a8}{r:aL}{m:Nat}{env:List I}{loc:List (Nat×Acc)}{a:Act}(h:h7 P need μ r m env loc a.tmps)(aj:gp P μ)(x:Operand):a1 μ (dk m env r (cw P need loc x)) (a.eval x):=by
 cases x with
 |tmp t=>exact h.rel t
 |const v=>exact iP μ v
 |global g=>
  simp only[cw,Act.eval]
  cases af:Nat.blt g P.globals.size with
  |false=>exact trivial
  |true=>
   obtain⟨i,aa,ad,ar⟩:=aj g (by simpa using af)
   obtain⟨h3,i0,yc⟩:=i
   simp only at ad ar
   subst ad;subst ar
   exact⟨_,aa,rfl⟩
 |func f=>exact⟨[],[],rfl,rfl,rfl⟩
theorem h7.init{μ:a8}{r:aL}{bU:Array Value}(h:hJ need μ r bU):h7 P need μ r 0 [] [] bU:=
 ⟨λt a h=>by simp[hd] at h,λt=>by
  simp only[cw,hd]
  cases af:Nat.testBit need t with
  |true=>exact h t af
  |false=>trivial⟩
theorem vJ{bU:Array Value}{d t:Nat}{u:Value}(az:d<bU.size):(bU.setIfInBounds d u).getD t undef=if t=d then u else bU.getD t undef:=by
 simp only[Array.getD_eq_getD_getElem?,Array.getElem?_setIfInBounds]
 by_cases h:d=t
 · subst h;simp[az]
 · rw[if_neg h,if_neg (λe=>h e.symm)]
theorem h7.alias{μ:a8}{r:aL}{m:Nat}{env:List I}{loc:List (Nat×Acc)}{a:Act}(h:h7 P need μ r m env loc a.tmps)(aj:gp P μ){t:Nat}(aQ:t<a.tmps.size)(x:Operand):
  h7 P need μ r m env ((t,cw P need loc x)::loc) (a.put (some t) (a.eval x)).tmps:=by
 refine⟨λu b hu=>?_,λu=>?_⟩
 · rw[mS] at hu
   split at hu
   · cases hu;exact yk h.tv x
   · exact h.tv u b hu
 · simp only[cw,mS,Act.put]
   rw[vJ aQ]
   by_cases e:u=t
   · simp only[e,if_true];exact h.eval aj x
   · simp only[e,if_false];exact h.rel u
theorem h7.step{μ:a8}{r:aL}{m:Nat}{env:List I}{loc:List (Nat×Acc)}{a:Act}(h:h7 P need μ r m env loc a.tmps){o:Oper}(aQ:∀t,o.dst=some t->t<a.tmps.size){v:I}{u:Value}(aB:a1 μ v u):
  h7 P need μ r (m+1) (v::env) (kt o m loc) (a.put o.dst u).tmps:=by
 have old:∀t,a1 μ (dk (m+1) (v::env) r (cw P need loc (.tmp t))) (a.tmps.getD t undef):=λt=>by
  rw[No (yk h.tv _)];exact h.rel t
 unfold kt
 cases az:o.dst with
 |none=>exact⟨λt b af=>Acc.FV (Nat.le_succ m) (h.tv t b af),old⟩
 |some d=>
  refine⟨λt b af=>?_,λt=>?_⟩
  · rw[mS] at af
    split at af
    · cases af;exact Nat.lt_succ_self m
    · exact Acc.FV (Nat.le_succ m) (h.tv t b af)
  · simp only[Act.put]
    rw[vJ (aQ d az)]
    by_cases e:t=d
    · simp only[cw,mS,e,if_true,Np];exact aB
    · have:=old t
      simp only[cw,mS,e,if_false] at this⊢
      exact this
theorem FW{ops:Array Oper}{bU:Array Value}{j t:Nat}(h:(ops[j]?).bind (·.dst)=some t):yielded ops bU j=match bU.getD t undef with
  |.bool b=>some b
  |_=>none:=by
 unfold yielded
 rw[h,Option.bind_some]
 rw[Array.getD_eq_getD_getElem?]
 cases ah:bU[t]? with
 |none=>rfl
 |some v=>simp only[Option.getD_some];cases v<;>rfl
theorem Nq{μ:a8}{ops:Array Oper}{loc:List (Nat×Acc)}{o:Oper}{acc:Acc->I}{bU:Array Value}(jZ:∀t,a1 μ (acc (cw P need loc (.tmp t))) (bU.getD t undef))(l5:∀v,acc (.val v)=v):
  ∀nP,dO (match iK P need ops loc o with|none=>none|some (a,b)=>some (acc a,b))=some nP->Region.wanted o (yielded ops bU)=nP:=by
 intro nP h
 unfold iK at h
 unfold Region.wanted
 cases aj:o.guard with
 |none=>rw[aj] at h;simp only[dO] at h;cases h;rfl
 |some p=>
  obtain⟨j,b⟩:=p
  rw[aj] at h
  simp only at h⊢
  cases aQ:(ops[j]?).bind (·.dst) with
  |none=>rw[aQ] at h;simp only[l5,dO] at h;cases h
  |some t=>
   rw[aQ] at h
   simp only at h
   have ai:=jZ t
   rw[FW aQ]
   generalize acc (cw P need loc (.tmp t))=v at h ai
   unfold dO at h
   split at h
   · rename_i he;cases he
   · rename_i he;cases he;cases h
     have vK:bU.getD t undef=_:=ai
     rw[vK];rfl
   · rename_i he;cases he;cases h
     obtain⟨l,an,lf⟩:=ai
     cases lf
     rw[an];rfl
   · cases h
def Bc:List Item->Prop
 |.call _ _ _ _::_=>False
 |_=>True
def nR(P:Program)(need b4:Nat)(μ:a8)(r:aL)(H:J)(w:World)(b:Frame)(k:List Item)(cs0:List Frame)(eD:Machine)(loc:List (Nat×Acc)):k7->Prop
 |.ok env bn q' aO=>∃aH w' cQ bH,Steps P eD (lone (b.atR cQ k) bH w')/\h7 P need aH r env.length env loc cQ.tmps/\cQ.tmps.size=b4/\bc aH aO w'/\bO μ H w aH aO w'/\fI aH bn cQ.defers/\g3 aH b.kind cs0 q' bH
 |.bK v bn q' aO=>∃aH w' cQ bH u b3,Steps P eD (lone {b.atR cQ b3 with mode:=.panicking [{v:=u,recovered:=false}]} bH w')/\Bc b3/\a1 aH v u/\
   (∀t,hd t loc=none->Nat.testBit need t=true->a1 aH (r.get (fV t)) (cQ.tmps.getD t undef))/\cQ.tmps.size=b4/\bc aH aO w'/\bO μ H w aH aO w'/\fI aH bn cQ.defers/\g3 aH b.kind cs0 q' bH
 |.fail _=>True
theorem nR.of_steps{b4:Nat}{μ fD:a8}{r:aL}{H H1:J}{w dp:World}{b:Frame}{k:List Item}{cs0:List Frame}{eD cm:Machine}{loc:List (Nat×Acc)}{x:k7}(ah:bc μ H w)(ky:bc fD H1 dp)(h:Steps P eD cm)(aX:bO μ H w fD H1 dp)
  (aa:nR P need b4 fD r H1 dp b k cs0 cm loc x):nR P need b4 μ r H w b k cs0 eD loc x:=by
 cases x with
 |ok env d q aO=>
  obtain⟨aH,w',cQ,bH,s1,s2,bI,cq,cN,dK⟩:=aa
  exact⟨aH,w',cQ,bH,h.trans s1,s2,bI,cq,bO.trans ah ky aX cN,dK⟩
 |bK v d q aO=>
  obtain⟨aH,w',cQ,bH,u,b3,s1,rH,s2,bI,cq,cN,dK,eW⟩:=aa
  exact⟨aH,w',cQ,bH,u,b3,h.trans s1,rH,s2,bI,cq,cN,bO.trans ah ky aX dK,eW⟩
 |fail s=>trivial
theorem Bd{ops:Array Oper}:∀(l:List Oper) (loc:List (Nat×Acc)) (m t:Nat),hd t (nQ P need ops l loc m)=none->hd t loc=none
 |[],loc,m,t,h=>h
 |o::rest,loc,m,t,h=>by
  unfold nQ at h
  cases aX:aliasOf o with
  |some p=>
   obtain⟨u,x⟩:=p
   rw[aX] at h
   have:=Bd rest _ m t h
   rw[mS] at this
   split at this
   · cases this
   · exact this
  |none=>
   rw[aX] at h
   have:=Bd rest _ _ t h
   unfold kt at this
   split at this
   · rw[mS] at this
     split at this
     · cases this
     · exact this
   · exact this
theorem Nr{o:Oper}{t:Nat}{x:Operand}(h:aliasOf o=some (t,x)):o.guard=none/\o.dst=some t/\∀b7,execOp b7 o=pure (.value (b7 x)):=by
 unfold aliasOf at h
 split at h
 · rename_i aa ad ar;cases h;exact⟨aa,ad,λb7=>by simp[execOp,ar]⟩
 · rename_i aa ad ar;cases h;exact⟨aa,ad,λb7=>by simp[execOp,ar]⟩
 · cases h
theorem yl(a:Act)(dst:Option Tmp)(u:Value):(a.put dst u).tmps.size=a.tmps.size:=by cases dst<;>simp[Act.put]
theorem Be{call:aP->List I->J->av}(ag:kH P call){b4:Nat}{ops:Array Oper}(nS:∀o∈ops.toList,∀t,o.dst=some t->t<b4){b:Frame}{inR:Bool}(cJ:inR=b.roundOf.isSome){r:aL}{k:List Item}{cs0:List Frame}:
  ∀(l:List Oper) (i0:Nat) (loc:List (Nat×Acc)) (m:Nat) (env:List I) (d:List bA) (q:bt) (μ:a8) (H:J) (w:World) (a:Act) (cs:List Frame),ops.toList.drop i0=l->env.length=m->
   h7 P need μ r m env loc a.tmps->a.tmps.size=b4->bc μ H w->gp P μ->fI μ d a.defers->g3 μ b.kind cs0 q cs->
   nR P need b4 μ r H w b k cs0 (lone (b.atR a (.inRegion ops (List.range' i0 l.length)::k)) cs w) (nQ P need ops l loc m) (iL P need inR call r (qg P need ops l loc m) env d q H)
 |[],i0,loc,m,env,d,q,μ,H,w,a,cs,an,hm,rI,br,ah,aj,az,bh=>by
  subst hm
  exact⟨μ,w,a,cs,.one stepR_region_end,rI,br,ah,bO.refl _ _ _,az,bh⟩
 |o::rest,i0,loc,m,env,d,q,μ,H,w,a,cs,an,hm,rI,br,ah,aj,az,bh=>by
  have a2:ops[i0]? =some o:=by
   have:=congrArg List.head? an
   simpa[List.head?_drop] using this
  have pY:ops.toList.drop (i0+1)=rest:=by
   have:=congrArg List.tail an
   simpa[List.tail_drop] using this
  have rJ:o∈ops.toList:=by
   rw[<-Array.getElem?_toList] at a2
   exact List.mem_of_getElem? a2
  have FX:∀t,o.dst=some t->t<a.tmps.size:=λt h=>by rw[br];exact nS o rJ t h
  rw[List.length_cons,List.range'_succ]
  unfold qg nQ
  cases aX:aliasOf o with
  |some p=>
   obtain⟨t,x⟩:=p
   simp only
   obtain⟨cY,dr,h2⟩:=Nr aX
   have hw:Region.wanted o (yielded ops a.tmps)=true:=by simp[Region.wanted,cY]
   have b5:=stepGR_op (P:=P) (b:=b) (a:=a) (k:=k) (cs:=cs) (w:=w) (rest:=List.range' (i0+1) rest.length) a2 hw
   have vG:o.semAt b.roundOf a.eval=execOp a.eval o:=by
    refine Oper.semAt_eq _ _ _ λc e=>?_
    have:=h2 a.eval
    unfold aliasOf at aX
    rw[e] at aX
    split at aX
    · rename_i h;cases h
    · rename_i h;cases h
    · cases aX
   rw[vG] at b5
   obtain⟨al,_⟩:=A6 b5
   have hs:=al (a.eval x) w (by rw[h2];rfl)
   have mR:(b.atR a (.inRegion ops (i0::List.range' (i0+1) rest.length)::k)).finish (a.eval x)=b.atR (a.put (some t) (a.eval x)) (.inRegion ops (List.range' (i0+1) rest.length)::k):=by
    rw[Frame.finish_atR,a2]
    simp only[Option.bind_some,dr]
   rw[mR] at hs
   have bg:=Be (k:=k) ag nS cJ rest (i0+1) ((t,cw P need loc x)::loc) m env d q μ H w (a.put (some t) (a.eval x)) cs pY hm (rI.alias aj (FX t dr) x) ((yl _ _ _).trans br) ah aj (by rw[put_defers];exact az) bh
   exact bg.of_steps ah ah hs (bO.refl _ _ _)
  |none=>
   simp only[iL]
   have fF:=FR (P:=P) ag ah aj (b:=b) (a:=a) (ops:=ops) (i:=i0) (rest:=List.range' (i0+1) rest.length) (k:=k) (cs0:=cs0) (cs:=cs) a2 (gd:=match iK P need ops loc o with|none=>none|some (x,c)=>some (dk m env r x,c))
    (Nq (acc:=dk m env r) rI.rel (λv=>rfl)) (g:=λx=>dk m env r (cw P need loc x)) (λx=>rI.eval aj x) az bh cJ
   generalize dm P inR call (match iK P need ops loc o with|none=>none|some (x,c)=>some (dk m env r x,c)) o (λx=>dk m env r (cw P need loc x)) d q H=res at fF⊢
   cases res with
   |ok v bn q' aO=>
    obtain⟨aH,w',u,rG,bH,s1,s2,bI,cq,cN,dK⟩:=fF
    have Ns:=(rI.mono cq.le).step (a:=a) (o:=o) FX s2
    have bg:=Be (k:=k) ag nS cJ rest (i0+1) (kt o m loc) (m+1) (v::env) bn q' aH aO w' {tmps:=(a.put o.dst u).tmps,defers:=rG} bH pY (by simp[hm]) Ns ((yl _ _ _).trans br) bI (aj.mono cq.le) cN dK
    exact bg.of_steps ah bI s1 cq
   |bK v bn q' aO=>
    obtain⟨aH,w',u,s1,s2,bI,cq,cN,dK⟩:=fF
    refine⟨aH,w',a,cs,u,_,s1,trivial,s2,λt aQ aG=>?_,br,bI,cq,cN,dK⟩
    have h0:=Bd (P:=P) (need:=need) (ops:=ops) rest _ _ t aQ
    have aa:hd t loc=none:=by
     unfold kt at h0
     split at h0
     · rw[mS] at h0
       split at h0
       · cases h0
       · exact h0
     · exact h0
    have:=(rI.mono cq.le).rel t
    simp only[cw,aa,aG,dk] at this
    exact this
   |fail s=>trivial
end
end aw
namespace aw
open Go
section
variable {P:Program} {need:Nat}
theorem FY(need m:Nat)(env:List I)(gE:aL):∀(loc:List (Nat×Acc)) (r:aL) (t:Nat),Nat.testBit need t=true->
  (oE need m env gE loc r).get (fV t)=match hd t loc with|some a=>dk m env gE a|none=>r.get (fV t)
 |[],r,t,aQ=>rfl
 |(u,a)::l,r,t,aQ=>by
  rw[mS]
  simp only[oE]
  by_cases e:t=u
  · subst e
    simp only[aQ,if_true,aL.bL]
  · have bg:=FY need m env gE l r t aQ
    cases hu:Nat.testBit need u with
    |true=>simp only[aL.bL,if_neg e,bg]
    |false=>simp only[if_neg e,bg]
theorem FZ:∀(loc:List (Nat×Acc)) (r:aL) (t:Nat),(tg loc r).get (fV t)=match hd t loc with|some a=>.bad|none=>r.get (fV t)
 |[],r,t=>rfl
 |(u,a)::l,r,t=>by
  rw[mS]
  simp only[tg,aL.bL]
  by_cases e:t=u
  · simp only[e,if_true]
  · simp only[if_neg e,FZ l r t]
theorem h7.outs{μ:a8}{r:aL}{m:Nat}{env:List I}{loc:List (Nat×Acc)}{bU:Array Value}(h:h7 P need μ r m env loc bU):hJ need μ (oE need m env r loc r) bU:=by
 intro t aQ
 rw[FY need m env r loc r t aQ]
 have:=h.rel t
 simp only[cw,aQ] at this
 cases hf:hd t loc with
 |some a=>rw[hf] at this;exact this
 |none=>rw[hf] at this;exact this
theorem rK{e:bu}{r:aL}{d:List bA}{q:bt}{h:J}{f:aL->List bA->bt->J->hZ}(he:e≠ .nrm):oG (.ok e r d q h) f=.ok e r d q h:=by
 cases e<;>first|rfl|exact absurd rfl he
def qh(P:Program)(μ:a8)(eD:Machine)(b:Frame)(k:List Item)(cs:List Frame)(a:Act)(w:World):bu->Prop
 |.nrm=>Steps P eD (lone (b.atR a k) cs w)
 |.exit id=>∃b3,exitTo id b3=exitTo id k/\Steps P eD (lone (b.atR a (.code (.exit id)::b3)) cs w)
 |.ret=>∃b3,Steps P eD (lone (b.atR a (.code .ret::b3)) cs w)
 |.goto _=>False
 |.bK v=>∃b3 u,(a1 μ v u/\Bc b3)/\Steps P eD (lone {b.atR a b3 with mode:=.panicking [{v:=u,recovered:=false}]} cs w)
theorem qh.of_steps{μ:a8}{eD cm:Machine}{b:Frame}{k:List Item}{cs:List Frame}{a:Act}{w:World}{e:bu}(h:Steps P eD cm)(ak:qh P μ cm b k cs a w e):qh P μ eD b k cs a w e:=by
 cases e with
 |nrm=>exact h.trans ak
 |exit id=>obtain⟨b3,aa,ad⟩:=ak;exact⟨b3,aa,h.trans ad⟩
 |ret=>obtain⟨b3,ad⟩:=ak;exact⟨b3,h.trans ad⟩
 |goto l=>exact ak
 |bK v=>obtain⟨b3,u,aa,ad⟩:=ak;exact⟨b3,u,aa,h.trans ad⟩
theorem qh.pass{μ:a8}{eD:Machine}{b:Frame}{x:Item}{k:List Item}{cs:List Frame}{a:Act}{w:World}{e:bu}(ab:∀id,x≠ .inBlock id)(he:e≠ .nrm)(h:qh P μ eD b (x::k) cs a w e):qh P μ eD b k cs a w e:=by
 cases e with
 |nrm=>exact absurd rfl he
 |exit id=>
  obtain⟨b3,aa,ad⟩:=h
  refine⟨b3,aa.trans ?_,ad⟩
  cases x<;>first|rfl|exact absurd rfl (ab _)
 |ret=>exact h
 |goto l=>exact h
 |bK v=>exact h
def l6(P:Program)(need b4:Nat)(μ:a8)(H:J)(w:World)(b:Frame)(k:List Item)(cs0:List Frame)(eD:Machine):hZ->Prop
 |.ok e r' bn q' aO=>∃aH w' cQ bH,qh P aH eD b k bH cQ w' e/\hJ need aH r' cQ.tmps/\cQ.tmps.size=b4/\bc aH aO w'/\bO μ H w aH aO w'/\fI aH bn cQ.defers/\g3 aH b.kind cs0 q' bH
 |.fail _=>True
theorem l6.of_steps{b4:Nat}{μ fD:a8}{H H1:J}{w dp:World}{b:Frame}{k:List Item}{cs0:List Frame}{eD cm:Machine}{x:hZ}(ah:bc μ H w)(ky:bc fD H1 dp)(h:Steps P eD cm)(aX:bO μ H w fD H1 dp)
  (aa:l6 P need b4 fD H1 dp b k cs0 cm x):l6 P need b4 μ H w b k cs0 eD x:=by
 cases x with
 |ok e r d q aO=>
  obtain⟨aH,w',cQ,bH,s1,s2,bI,cq,cN,dK⟩:=aa
  exact⟨aH,w',cQ,bH,s1.of_steps h,s2,bI,cq,bO.trans ah ky aX cN,dK⟩
 |fail s=>trivial
def mT(μ:a8)(b:Frame):Option Nat->Prop
 |none=>b.roundOf=none
 |some l=>∃i,μ l=some i/\b.roundOf=some i.a5
theorem mT.mono{μ aH:a8}(hle:en μ aH){b:Frame}{rd:Option Nat}(h:mT μ b rd):mT aH b rd:=by
 cases rd with
 |none=>exact h
 |some l=>obtain⟨i,aa,ad⟩:=h;exact⟨i,hle _ _ aa,ad⟩
theorem mT.isSome{μ:a8}{b:Frame}{rd:Option Nat}(h:mT μ b rd):rd.isSome=b.roundOf.isSome:=by
 cases rd with
 |none=>have:b.roundOf=none:=h;simp[this]
 |some l=>obtain⟨i,aa,ad⟩:=h;simp[ad]
def qi(P:Program)(need b4:Nat)(call:aP->List I->J->av):Prop:=
 ∀(ops:Array Oper) (id:Nat),(∀o∈ops.toList,∀t,o.dst=some t->t<b4)->oI ops (ev ops.toList 0 [] [])=true->
  ∀(b:Frame) (inR:Bool) (r:aL) (d:List bA) (q:bt) (H:J) (μ:a8) (w:World) (a:Act) (k:List Item) (cs0 cs:List Frame),inR=b.roundOf.isSome->hJ need μ r a.tmps->a.tmps.size=b4->bc μ H w->gp P μ->fI μ d a.defers->g3 μ b.kind cs0 q cs->
   nR P need b4 μ r H w b k cs0 (lone (b.atR a (.code (.region id ops true)::k)) cs w) (hr ops.toList 0 []) (ra P need inR call ops r d q H)
def F0(P:Program)(need b4:Nat)(call:aP->List I->J->av):Prop:=
 ∀(f:Operand) (ps:Array Nat) (as b6:Code),ht b4 (.rangeFunc f ps as b6)=true->∀(b:Frame) (rd:Option Nat) (r:aL) (d:List bA) (q:bt) (H:J) (μ:a8) (w:World) (a:Act) (k:List Item) (cs0 cs:List Frame),mT μ b rd->hJ need μ r a.tmps->a.tmps.size=b4->bc μ H w->gp P μ->fI μ d a.defers->g3 μ b.kind cs0 q cs->
  l6 P need b4 μ H w b k cs0 (lone (b.atR a (.code (.rangeFunc f ps as b6)::k)) cs w) (da P need rd call (.rangeFunc f ps as b6) r d q H)
theorem Nt{b:Frame}{a:Act}{c:Code}{k:List Item}{cs:List Frame}{w:World}:step P (lone (b.atR a (.inScope c::k)) cs w)=.next (lone (b.atR a k) cs w):=
 step_lone_go (by simp[stepG,stepG.exec,Frame.atR])
theorem F1{b:Frame}{a:Act}{c:Code}{k:List Item}{cs:List Frame}{w:World}:step P (lone (b.atR a (.code (.scope c)::k)) cs w)=.next (lone (b.atR a (.code c::.inScope c::k)) cs w):=
 step_lone_go (by simp[stepG,stepG.exec,Frame.atR])
theorem nR.code{b4:Nat}{μ:a8}{r:aL}{H:J}{w:World}{b:Frame}{k:List Item}{cs0:List Frame}{eD:Machine}{loc:List (Nat×Acc)}{x:k7}(h:nR P need b4 μ r H w b k cs0 eD loc x):
  l6 P need b4 μ H w b k cs0 eD (oF need r loc x):=by
 cases x with
 |ok env d q aO=>
  obtain⟨aH,w',cQ,bH,s1,s2,bI,cq,cN,dK⟩:=h
  exact⟨aH,w',cQ,bH,s1,s2.outs,bI,cq,cN,dK⟩
 |bK v d q aO=>
  obtain⟨aH,w',cQ,bH,u,b3,s1,rH,s2,bI,cq,cN,dK,eW⟩:=h
  refine⟨aH,w',cQ,bH,⟨b3,u,⟨s2,rH⟩,s1⟩,λt aQ=>?_,cq,cN,dK,eW⟩
  rw[FZ]
  cases hf:hd t loc with
  |some x=>trivial
  |none=>exact bI t hf aQ
 |fail s=>trivial
def F2(P:Program)(need b4:Nat)(call:aP->List I->J->av)(rd:Option Nat)(c:Code):Prop:=
 ∀(b:Frame) (r:aL) (d:List bA) (q:bt) (H:J) (μ:a8) (w:World) (a:Act) (k:List Item) (cs0 cs:List Frame),mT μ b rd->hJ need μ r a.tmps->a.tmps.size=b4->bc μ H w->gp P μ->fI μ d a.defers->g3 μ b.kind cs0 q cs->
  l6 P need b4 μ H w b k cs0 (lone (b.atR a (.code c::k)) cs w) (da P need rd call c r d q H)
theorem F3{b4:Nat}{call:aP->List I->J->av}{rd:Option Nat}{c:Code}(gG:F2 P need b4 call rd c)(b:Frame)(k:List Item)(cs0:List Frame):∀(n:Nat) (r:aL) (d:List bA) (q:bt) (H:J) (μ:a8) (w:World) (a:Act) (cs:List Frame),mT μ b rd->hJ need μ r a.tmps->a.tmps.size=b4->bc μ H w->gp P μ->fI μ d a.defers->g3 μ b.kind cs0 q cs->
  l6 P need b4 μ H w b k cs0 (lone (b.atR a (.code c::.inLoop c::k)) cs w) (nC (da P need rd call c) n r d q H)
 |0,r,d,q,H,μ,w,a,cs,cL,ai,br,ah,aj,az,bh=>trivial
 |n+1,r,d,q,H,μ,w,a,cs,cL,ai,br,ah,aj,az,bh=>by
  have aa:=gG b r d q H μ w a (.inLoop c::k) cs0 cs cL ai br ah aj az bh
  unfold nC
  cases ab:da P need rd call c r d q H with
  |fail s=>trivial
  |ok e r' bn q' aO=>
   rw[ab] at aa
   obtain⟨aH,w',cQ,bH,s1,s2,bI,cq,cN,dK,eW⟩:=aa
   by_cases he:e=.nrm
   · subst he
     have bg:=F3 gG b k cs0 n r' bn q' aO aH w' cQ bH (cL.mono cN.le) s2 bI cq (aj.mono cN.le) dK eW
     exact bg.of_steps ah cq (Steps.trans s1 (.one stepR_inLoop)) cN
   · rw[rK he]
     exact⟨aH,w',cQ,bH,s1.pass (λid h=>by cases h) he,s2,bI,cq,cN,dK,eW⟩
theorem nT{b4:Nat}{call:aP->List I->J->av}(ag:kH P call)(hdr:qi P need b4 call)(l3:F0 P need b4 call)(rd:Option Nat):∀(c:Code),ht b4 c=true->F2 P need b4 call rd c
 |.skip,_=>λb r d q H μ w a k cs0 cs cL ai br ah aj az bh=>⟨μ,w,a,cs,.one stepR_skip,ai,br,ah,bO.refl _ _ _,az,bh⟩
 |.label l,_=>λb r d q H μ w a k cs0 cs cL ai br ah aj az bh=>⟨μ,w,a,cs,.one stepR_label,ai,br,ah,bO.refl _ _ _,az,bh⟩
 |.exit id,_=>λb r d q H μ w a k cs0 cs cL ai br ah aj az bh=>⟨μ,w,a,cs,⟨k,rfl,Steps.refl _ _⟩,ai,br,ah,bO.refl _ _ _,az,bh⟩
 |.ret,_=>λb r d q H μ w a k cs0 cs cL ai br ah aj az bh=>⟨μ,w,a,cs,⟨k,Steps.refl _ _⟩,ai,br,ah,bO.refl _ _ _,az,bh⟩
 |.goto l,_=>λb r d q H μ w a k cs0 cs cL ai br ah aj az bh=>trivial
 |.refuse s,_=>λb r d q H μ w a k cs0 cs cL ai br ah aj az bh=>trivial
 |.region id ops draw,du=>λb r d q H μ w a k cs0 cs cL ai br ah aj az bh=>by
  simp only[ht,Bool.and_eq_true,List.all_eq_true] at du
  have nS:∀o∈ops.toList,∀t,o.dst=some t->t<b4:=λo a2 t aQ=>by
   have:=du.1 o a2
   rw[aQ] at this
   simpa using this
  cases draw with
  |false=>
   have h:=Be (P:=P) (need:=need) (k:=k) ag nS (b:=b) (inR:=rd.isSome) cL.isSome (r:=r) (cs0:=cs0) ops.toList 0 [] 0 [] d q μ H w a cs rfl rfl (h7.init ai) br ah aj az bh
   have an:List.range' 0 ops.toList.length=List.range ops.size:=by rw[List.range_eq_range'];simp
   rw[an] at h
   have ad:=nR.code h
   have nG:nB P need ops=⟨qg P need ops ops.toList [] 0,nQ P need ops ops.toList [] 0⟩:=by
    unfold nB;rw[Ba];simp
   simp only[da,nG]
   exact l6.of_steps ah ah (.one stepR_region) (bO.refl _ _ _) ad
  |true=>
   have F4:oI ops (ev ops.toList 0 [] [])=true:=by simpa using du.2
   have h:=hdr ops id nS F4 b rd.isSome r d q H μ w a k cs0 cs cL.isSome ai br ah aj az bh
   simp only[da]
   exact nR.code h
 |.seq x y,du=>λb r d q H μ w a k cs0 cs cL ai br ah aj az bh=>by
  simp only[ht,Bool.and_eq_true] at du
  have aa:=nT ag hdr l3 rd x du.1 b r d q H μ w a (.code y::k) cs0 cs cL ai br ah aj az bh
  simp only[da]
  cases ab:da P need rd call x r d q H with
  |fail s=>trivial
  |ok e r' bn q' aO=>
   rw[ab] at aa
   obtain⟨aH,w',cQ,bH,s1,s2,bI,cq,cN,dK,eW⟩:=aa
   by_cases he:e=.nrm
   · subst he
     have ad:=nT ag hdr l3 rd y du.2 b r' bn q' aO aH w' cQ k cs0 bH (cL.mono cN.le) s2 bI cq (aj.mono cN.le) dK eW
     exact ad.of_steps ah cq (Steps.head stepR_seq s1) cN
   · rw[rK he]
     exact⟨aH,w',cQ,bH,(s1.pass (λid h=>by cases h) he).of_steps (.one stepR_seq),s2,bI,cq,cN,dK,eW⟩
 |.cond c x y,du=>λb r d q H μ w a k cs0 cs cL ai br ah aj az bh=>by
  simp only[ht,Bool.and_eq_true] at du
  simp only[da]
  have fE:=(h7.init (P:=P) ai).eval (a:=a) aj c
  split
  · rename_i jX
    rw[jX] at fE
    have h:=nT ag hdr l3 rd x du.1 b r d q H μ w a k cs0 cs cL ai br ah aj az bh
    exact h.of_steps ah ah (.one (stepR_cond (t:=true) fE)) (bO.refl _ _ _)
  · rename_i jX
    rw[jX] at fE
    have h:=nT ag hdr l3 rd y du.2 b r d q H μ w a k cs0 cs cL ai br ah aj az bh
    exact h.of_steps ah ah (.one (stepR_cond (t:=false) fE)) (bO.refl _ _ _)
  · trivial
 |.block id c,du=>λb r d q H μ w a k cs0 cs cL ai br ah aj az bh=>by
  have aa:=nT ag hdr l3 rd c du b r d q H μ w a (.inBlock id::k) cs0 cs cL ai br ah aj az bh
  simp only[da]
  cases ab:da P need rd call c r d q H with
  |fail s=>trivial
  |ok e r' bn q' aO=>
   rw[ab] at aa
   obtain⟨aH,w',cQ,bH,s1,s2,bI,cq,cN,dK,eW⟩:=aa
   cases e with
   |nrm=>exact⟨aH,w',cQ,bH,Steps.head stepR_block (Steps.trans s1 (.one stepR_inBlock)),s2,bI,cq,cN,dK,eW⟩
   |exit i=>
    obtain⟨b3,aC,ax⟩:=s1
    by_cases ym:i=id
    · simp only[ym,if_true]
      subst ym
      have bp:exitTo i b3=some k:=by rw[aC];simp[exitTo]
      exact⟨aH,w',cQ,bH,Steps.head stepR_block (Steps.trans ax (.one (stepR_exit bp))),s2,bI,cq,cN,dK,eW⟩
    · simp only[if_neg ym]
      have:(id==i)=false:=by simp;exactλh=>ym h.symm
      exact⟨aH,w',cQ,bH,⟨b3,aC.trans (by simp[exitTo,this]),Steps.head stepR_block ax⟩,s2,bI,cq,cN,dK,eW⟩
   |ret=>obtain⟨b3,ax⟩:=s1;exact⟨aH,w',cQ,bH,⟨b3,Steps.head stepR_block ax⟩,s2,bI,cq,cN,dK,eW⟩
   |goto l=>exact s1.elim
   |bK v=>obtain⟨b3,u,aC,ax⟩:=s1;exact⟨aH,w',cQ,bH,⟨b3,u,aC,Steps.head stepR_block ax⟩,s2,bI,cq,cN,dK,eW⟩
 |.loop c,du=>λb r d q H μ w a k cs0 cs cL ai br ah aj az bh=>by
  have h:=F3 (nT ag hdr l3 rd c du) b k cs0 100000 r d q H μ w a cs cL ai br ah aj az bh
  simp only[da]
  exact h.of_steps ah ah (.one stepR_loop) (bO.refl _ _ _)
 |.scope c,du=>λb r d q H μ w a k cs0 cs cL ai br ah aj az bh=>by
  have aa:=nT ag hdr l3 rd c du b r d q H μ w a (.inScope c::k) cs0 cs cL ai br ah aj az bh
  simp only[da]
  cases ab:da P need rd call c r d q H with
  |fail s=>trivial
  |ok e r' bn q' aO=>
   rw[ab] at aa
   obtain⟨aH,w',cQ,bH,s1,s2,bI,cq,cN,dK,eW⟩:=aa
   by_cases he:e=.nrm
   · subst he
     exact⟨aH,w',cQ,bH,Steps.head F1 (Steps.trans s1 (.one Nt)),s2,bI,cq,cN,dK,eW⟩
   · exact⟨aH,w',cQ,bH,(s1.pass (λid h=>by cases h) he).of_steps (.one F1),s2,bI,cq,cN,dK,eW⟩
 |.rangeFunc f ps as b6,du=>λb r d q H μ w a k cs0 cs cL ai br ah aj az bh=>l3 f ps as b6 du b rd r d q H μ w a k cs0 cs cL ai br ah aj az bh
end
end aw
namespace aw
open Go
section
variable {P:Program} {need:Nat}
theorem Nu{w hQ:World}{cs:List Frame}{b:Frame}{a:Act}{l:Nat}{k:List Item}{s:Sem Next}{yn:Frame}
  (b5:(stepG P true {frame:=yn,callers:=cs,status:=.running,dying:=none} hQ).bare=(stepG.apply P true (b.atR a (.inRangeFunc l::k)) cs none s w).bare):
  (∀v w',s.run P w=.ok (.value v) w'->Steps P (lone yn cs hQ) (lone ((b.atR a (.inRangeFunc l::k)).finish v) cs w'))/\
  (∀f args w',s.run P w=.ok (.enter f args) w'->Steps P (lone yn cs hQ) (lone (Frame.enter P f args .normal) (b.atR a (.inRangeFunc l::k)::cs) w'))/\
  (∀h4 f tmps assign body w',s.run P w=.ok (.round h4 f tmps assign body) w'->Steps P (lone yn cs hQ) (lone (Frame.round h4 f tmps assign body .normal) (b.atR a (.inRangeFunc l::k)::cs) w')):=by
 refine⟨λv w' ai=>.one (step_lone_go ?_),λf args w' ai=>.one (step_lone_go ?_),λl f tmps assign body w' ai=>.one (step_lone_go ?_)⟩
 · rw[b5];simp[stepG.apply,ai]
 · rw[b5];simp[stepG.apply,ai,Frame.atR]
 · rw[b5];simp[stepG.apply,ai]
theorem Nv{b:Frame}{a:Act}{f:Operand}{ps:Array Nat}{as b6:Code}{k:List Item}{cs:List Frame}{w dp:World}{l:Nat}{mark:List Deferred}(he:(Instr.enterLoop b.fn a.tmps ps as b6 b.roundOf).run P w=.ok (l,mark) dp):
  (stepG P true {frame:=b.atR a (.code (.rangeFunc f ps as b6)::k),callers:=cs,status:=.running,dying:=none} w).bare=
   (stepG.apply P true (b.atR {tmps:=a.tmps,defers:=mark++a.defers} (.inRangeFunc l::k)) cs none (do let d<-Deferred.ofValue (a.eval f) #[.func (.yield l) #[] #[]];invoke d.target d.args) dp).bare:=by
 have F5:=Frame.eval_atR b {tmps:=a.tmps,defers:=mark++a.defers} (.inRangeFunc l::k)
 simp only[Frame.atR] at F5
 have Nw:({tmps:=a.tmps,defers:=mark++a.defers}:Act).eval=a.eval:=funext λx=>by cases x<;>rfl
 simp only[stepG,stepG.exec,Frame.atR,Sem.runT_eq,he,GStep.bare_after]
 have Nx:resolve a.eval {callee:=.value f,args:=#[.const (.func (.yield l) #[] #[])],argTypes:=#[]} 0=Deferred.ofValue (a.eval f) #[.func (.yield l) #[] #[]]:=by simp[resolve,Act.eval]
 rw[F5,Nw,Nx]
theorem Ny{b:Frame}{a:Act}{l:Nat}{k:List Item}{cs:List Frame}{w w':World}{l7:Option Code}(he:(Instr.endLoop l).run P w=.ok l7 w'):
  step P (lone (b.atR a (.endRangeFunc l::k)) cs w)=.next (lone (b.atR a ((l7.map Item.code).toList++k)) cs w'):=
 step_lone_go (by simp[stepG,stepG.exec,Frame.atR,Sem.runT_eq,he])
theorem Nz{b4:Nat}{b:Frame}{a:Act}{r:aL}{ps:Array Nat}{as b6:Code}(du:ht b4 as=true/\ht b4 b6=true/\∀t∈ps.toList,t<b4){μ:a8}{H:J}{w:World}{rd:Option Nat}(cL:mT μ b rd)(ai:hJ need μ r a.tmps)(br:a.tmps.size=b4)(ah:bc μ H w)
  {d:List bA}(az:fI μ d a.defers){l:Nat}{bn:List bA}{H1:J}
  (an:l=mE rd H.n)(he:u7 need rd r ps.toList as b6 d H=some (bn,H1)):
  ∃aH w' mark i,(Instr.enterLoop b.fn a.tmps ps as b6 b.roundOf).run P w=.ok (i.a5,mark) w'/\aH l=some i/\bc aH H1 w'/\bO μ H w aH H1 w'/\fI aH bn (mark++a.defers):=by
 subst br
 unfold mE at an
 unfold u7 at he
 cases rd with
 |none=>
  have af:b.roundOf=none:=cL
  cases he
  obtain⟨r1,r2⟩:=ah.alloc (.defrd (some [])) (.deferred (some [])) 0 ⟨[],World.heap_alloc_new _ _,rfl⟩
  have hu:fr μ H.n ⟨w.heap.size,0,0⟩ H.n=some ⟨w.heap.size,0,0⟩:=fs _ _ _
  have yo:=r1.mK ⟨(w.alloc (.deferred (some []))).heap.size,0,0⟩
  obtain⟨aR,a3⟩:=r1.alloc (.loop .ready none need r ps.toList as b6 H.n) (.loop {state:=.ready,pending:=none,fn:=b.fn,tmps:=a.tmps,params:=ps,assign:=as,body:=b6,defers:=w.heap.size}) 0
   ⟨a.tmps,⟨w.heap.size,0,0⟩,b.fn,yo _ _ hu,World.heap_alloc_new _ _,ai.mono (r2.le.trans yo),du.1,du.2.1,du.2.2⟩
  refine⟨_,_,[{target:=.collected w.heap.size,args:=#[]}],⟨(w.alloc (.deferred (some []))).heap.size,0,0⟩,?_,?_,aR,bO.trans ah r1 r2 a3,⟨_,_,rfl,.collected _ ⟨w.heap.size,0,0⟩ (yo _ _ hu),az.mono (r2.le.trans yo)⟩⟩
  · rw[af]
    simp only[Instr.enterLoop,Sem.run_bind,run_newObj,Result.andThen_ok,Sem.run_pure]
    rfl
  · rw[an];exact fs _ _ _
 |some mF=>
  obtain⟨j,aD,af⟩:=cL
  simp only at an he
  subst an
  cases aj:H.get mF with
  |none=>rw[aj] at he;cases he
  |some Bf=>
  rw[aj] at he
  cases Bf<;>try (cases he;done)
  case loop nU F6 Xe Xf F7 F8 F9 dD=>
   cases he
   obtain⟨bU,gF,fn,aC,ax,_⟩:=ah.rel _ _ j aj aD
   have hle:=ah.mK ⟨w.heap.size,0,0⟩
   obtain⟨aR,a3⟩:=ah.alloc (.loop .ready none need r ps.toList as b6 dD) (.loop {state:=.ready,pending:=none,fn:=b.fn,tmps:=a.tmps,params:=ps,assign:=as,body:=b6,defers:=gF.a5}) 0
    ⟨a.tmps,gF,b.fn,hle _ _ aC,World.heap_alloc_new _ _,ai.mono hle,du.1,du.2.1,du.2.2⟩
   refine⟨_,_,[],⟨w.heap.size,0,0⟩,?_,?_,aR,a3,az.mono hle⟩
   · rw[af]
     have nO:(Instr.getLoop j.a5).run P w=.ok {state:=nU,pending:=F6,fn:=fn,tmps:=bU,params:=⟨F7⟩,assign:=F8,body:=F9,defers:=gF.a5} w:=by
      have:(getObj j.a5).run P w=.ok (.loop {state:=nU,pending:=F6,fn:=fn,tmps:=bU,params:=⟨F7⟩,assign:=F8,body:=F9,defers:=gF.a5}) w:=by simp[getObj,Sem.run,ax]
      simp only[Instr.getLoop,Sem.run_bind,this];rfl
     simp only[Instr.enterLoop,Sem.run_bind,nO,Result.andThen_ok,Sem.run_pure,run_newObj]
     rfl
   · exact fs _ _ _
theorem NA{μ:a8}{H:J}{w:World}(ah:bc μ H w){l:Nat}{i:dL}(an:μ l=some i){st:LoopState}{fa:Option Code}{fX:Nat}{rg:aL}{ps:List Nat}{as b6:Code}{dD:Nat}(aj:H.get l=some (.loop st fa fX rg ps as b6 dD))(b5:st≠ .busy):
  ∃w',(Instr.endLoop i.a5).run P w=.ok fa w'/\bc μ (H.set l (some (.loop .exhausted fa fX rg ps as b6 dD))) w'/\bO μ H w μ (H.set l (some (.loop .exhausted fa fX rg ps as b6 dD))) w':=by
 obtain⟨bU,gF,fn,aC,ax,bp⟩:=ah.rel _ _ i aj an
 have cj:=(ah.lt _ _ an).2
 obtain⟨r1,r2⟩:=ah.update (w':={w with heap:=w.heap.setIfInBounds i.a5 (.loop {state:=.exhausted,pending:=fa,fn:=fn,tmps:=bU,params:=⟨ps⟩,assign:=as,body:=b6,defers:=gF.a5})}) (o':=.loop .exhausted fa fX rg ps as b6 dD) aj rfl an (by simp) (λr ai=>by simp[Array.getElem?_setIfInBounds];intro e;exact absurd e.symm ai) rfl rfl rfl
  ⟨bU,gF,fn,aC,by simp[cj],bp⟩
 refine⟨_,?_,r1,r2⟩
 have gi:(getObj i.a5).run P w=.ok (.loop {state:=st,pending:=fa,fn:=fn,tmps:=bU,params:=⟨ps⟩,assign:=as,body:=b6,defers:=gF.a5}) w:=by simp[getObj,Sem.run,ax]
 have eR:(setObj i.a5 (.loop {state:=.exhausted,pending:=fa,fn:=fn,tmps:=bU,params:=⟨ps⟩,assign:=as,body:=b6,defers:=gF.a5})).run P w=.ok () {w with heap:=w.heap.setIfInBounds i.a5 (.loop {state:=.exhausted,pending:=fa,fn:=fn,tmps:=bU,params:=⟨ps⟩,assign:=as,body:=b6,defers:=gF.a5})}:=by simp[setObj,Sem.run,ax]
 have af:(st==LoopState.busy)=false:=by cases st<;>first|rfl|exact absurd rfl b5
 simp only[Instr.endLoop,Instr.getLoop,Sem.run_bind,gi,Result.andThen_ok,Sem.run_pure,af,Bool.false_eq_true,if_false,eR]
theorem Bg{b4:Nat}{call:aP->List I->J->av}(ag:kH P call):F0 P need b4 call:=by
 intro f ps as b6 du b rd r d q H μ w a k cs0 cs cL ai br ah aj az bh
 simp only[ht,Bool.and_eq_true,List.all_eq_true] at du
 have NB:∀t∈ps.toList,t<b4:=λt aQ=>by simpa using du.1.1 t aQ
 have fE:=(h7.init (P:=P) ai).eval (a:=a) aj f
 simp only[da]
 cases b5:u7 need rd r ps.toList as b6 d H with
 |none=>trivial
 |some p=>
  obtain⟨bn,H1⟩:=p
  simp only
  obtain⟨fD,dp,mark,i,aa,ad,ar,aM,bS⟩:=Nz (P:=P) (b:=b) (a:=a) (ps:=ps) ⟨du.1.2,du.2,NB⟩ cL ai br ah az rfl b5
  have NC:=fE.mono aM.le
  have ND:=Nv (P:=P) (f:=f) (k:=k) (cs:=cs) aa
  obtain⟨al,au,a7⟩:=Nu ND
  have jX:=FL (P:=P) (w:=dp) ar NC (args:=[.bQ (mE rd H.n)]) (vs:=[.func (.yield i.a5) #[] #[]]) ⟨_,_,rfl,⟨i,ad,rfl⟩,rfl⟩
  have fin:∀(res:av),qf P (lone (b.atR a (.code (.rangeFunc f ps as b6)::k)) cs w) (b.atR {tmps:=a.tmps,defers:=mark++a.defers} (.inRangeFunc i.a5::k)) cs (Ends fD H1 dp res)->
    l6 P need b4 μ H w b k cs0 (lone (b.atR a (.code (.rangeFunc f ps as b6)::k)) cs w) (jV (mE rd H.n) r bn q res):=by
   intro res an
   obtain⟨e,vL,e5,iv⟩:=an
   cases res with
   |fail s=>trivial
   |bK v cz=>
    obtain⟨aH,u,rfl,aR,a3,ck⟩:=e5
    exact⟨aH,vL,{tmps:=a.tmps,defers:=mark++a.defers},cs,⟨.inRangeFunc i.a5::k,u,⟨aR,trivial⟩,iv⟩,ai.mono (aM.le.trans ck.le),br,a3,bO.trans ah ar aM ck,bS.mono ck.le,bh.mono (aM.le.trans ck.le)⟩
   |ret v cz=>
    obtain⟨aH,u,rfl,aR,a3,ck⟩:=e5
    have mR:(b.atR {tmps:=a.tmps,defers:=mark++a.defers} (.inRangeFunc i.a5::k)).finish u=b.atR {tmps:=a.tmps,defers:=mark++a.defers} (.endRangeFunc i.a5::k):=rfl
    simp only[mR] at iv
    unfold jV
    simp only
    cases nV:cz.get (mE rd H.n) with
    |none=>trivial
    |some Bf=>
     cases Bf<;>try trivial
     case loop st fa fX rg NF xN xO dD=>
      simp only
      by_cases af:st=.busy
      · subst af;trivial
      · obtain⟨F_,aC,ax,bp⟩:=NA (P:=P) a3 (ck.le _ _ ad) nV af
        have iS:=Steps.trans iv (.one (Ny (b:=b) (a:={tmps:=a.tmps,defers:=mark++a.defers}) (k:=k) (cs:=cs) aC))
        have hle:=aM.le.trans (ck.le.trans bp.le)
        have mU:=bO.trans ah a3 (bO.trans ah ar aM ck) bp
        have done:∀(e:bu),qh P aH (lone (b.atR a (.code (.rangeFunc f ps as b6)::k)) cs w) b k cs {tmps:=a.tmps,defers:=mark++a.defers} F_ e->
          l6 P need b4 μ H w b k cs0 (lone (b.atR a (.code (.rangeFunc f ps as b6)::k)) cs w) (.ok e r bn q (cz.set (mE rd H.n) (some (.loop .exhausted fa fX rg NF xN xO dD)))):=λe he=>
         ⟨aH,F_,{tmps:=a.tmps,defers:=mark++a.defers},cs,he,ai.mono hle,br,ax,mU,bS.mono (ck.le.trans bp.le),bh.mono hle⟩
        have Xg:∀X:hZ,(match st with|.busy=>hZ.fail "rangeFunc: busy" |_=>X)=X:=λX=>by cases st<;>first|rfl|exact absurd rfl af
        cases st<;>first
         |exact absurd rfl af
         |(cases fa with
          |none=>exact done .nrm iS
          |some c=>
           cases c<;>first
            |trivial
            |exact done .ret ⟨k,iS⟩
            |exact done (.exit _) ⟨k,rfl,iS⟩)
  cases Ga:q_ (dk 0 [] r (cw P need [] f)) [.bQ (mE rd H.n)] H1 with
  |call g args bl=>
   rw[Ga] at jX
   obtain⟨rfl,vs,aC,ax⟩:=jX
   simp only
   cases bJ:(call (.fn g) args bl).j5 with
   |false=>obtain⟨s,hs⟩:=yi bJ;rw[hs];trivial
   |true=>
    apply fin
    rcases ag.fn g args bl bJ fD dp vs ar (aj.mono aM.le) ax with⟨v,w',aR,a3⟩|⟨aR,a3⟩
    · rw[<-aC] at aR
      exact⟨_,_,a3,al _ _ aR⟩
    · rw[<-aC] at aR
      exact(FP (A8 bJ) a3 _ _).of_steps (au _ _ _ aR)
  |bQ bT args bl=>
   rw[Ga] at jX
   obtain⟨rfl,dJ,vs,lf,aC,ax⟩:=jX
   simp only
   cases bJ:(call (.bQ bT) args bl).j5 with
   |false=>obtain⟨s,hs⟩:=yi bJ;rw[hs];trivial
   |true=>
    apply fin
    obtain⟨Xh,tmps,xN,xO,aR,a3⟩:=ag.bQ bT args bl bJ fD dp dJ vs ar (aj.mono aM.le) lf ax
    rw[<-aC] at aR
    exact(a3 _ _).of_steps (a7 _ _ _ _ _ _ aR)
  |val v bl=>trivial
  |bK v bl=>trivial
  |iI x=>trivial
  |q8=>trivial
  |fail s=>trivial
end
end aw
namespace aw
open Go
section
variable {P:Program}
theorem Bh:∀(l:List I) (i:Nat) (r:aL) (t:Nat),(mG i l r).get (fV t)=if i<=t/\t<i+l.length then(l[t-i]?).getD .bad else r.get (fV t)
 |[],i,r,t=>by
  simp only[mG,List.length_nil]
  rw[if_neg (by omega)]
 |v::l,i,r,t=>by
  simp only[mG,Bh l (i+1),aL.bL,List.length_cons]
  by_cases h:i+1<=t/\t<i+1+l.length
  · rw[if_pos h,if_pos (by omega)]
    have:t-i=(t-(i+1))+1:=by omega
    rw[this];simp
  · rw[if_neg h]
    by_cases e:t=i
    · subst e;rw[if_pos rfl,if_pos (by omega)];simp
    · rw[if_neg e,if_neg (by omega)]
theorem NG{need:Nat}{μ:a8}{args:List I}{vs:List Value}(h:bN μ args vs)(n:Nat):hJ need μ (mG 0 args .leaf) (⟨vs⟩++Array.replicate n undef):=by
 intro t _
 rw[Bh]
 have an:=h.length
 by_cases aQ:t<args.length
 · rw[if_pos (by omega)]
   simp only[Nat.sub_zero]
   obtain⟨v,aB,ai⟩:=h.get (List.getElem?_eq_getElem aQ)
   rw[List.getElem?_eq_getElem aQ]
   rw[Array.getD_eq_getD_getElem?,Array.getElem?_append_left (by simp;omega)]
   simp only[List.getElem?_toArray,aB,Option.getD_some]
   exact ai
 · rw[if_neg (by omega),aL.lS];trivial
theorem NH{need:Nat}{μ:a8}{H:J}{w:World}(ah:bc μ H w){r:aL}{bU:Array Value}(ai:hJ need μ r bU){x:ResultVar}{v:I}(h:pO P need r H x=some v):
  ∃u,((match x with|.tmp t=>pure (bU.getD t undef)|.cell a t=>do loadVar t (<-asAddr (bU.getD a undef)):Sem Value)).run P w=.ok u w/\a1 μ v u:=by
 unfold pO at h
 cases x with
 |tmp t=>
  simp only at h
  split at h
  · rename_i af;cases h;exact⟨_,rfl,ai t af⟩
  · cases h
 |cell t ty=>
  simp only at h
  split at h
  · rename_i af
    have aa:=ai t af
    split at h
    · rename_i b off n a6 aX aG
      rw[a6] at aa
      obtain⟨i,ae,aB⟩:=aa
      split at h
      · rename_i cs an
        cases h
        obtain⟨us,aR,a3⟩:=pV (P:=P) ah ae an
        refine⟨.agg ⟨us⟩,?_,us,rfl,a3⟩
        simp[aB,asAddr,loadVar,tn aX,run_sizeOf aG,aR]
      · cases h
    · rename_i b off a6 aX
      rw[a6] at aa
      obtain⟨i,ae,aB⟩:=aa
      obtain⟨u,aR,a3⟩:=Az (P:=P) ah ae h
      refine⟨u,?_,a3⟩
      simp only[aB,asAddr,loadVar,Sem.run_bind,Sem.run_pure,Result.andThen_ok,tn aX,Bool.false_eq_true,if_false,aR]
    · cases h
  · cases h
theorem Bi{need:Nat}{μ:a8}{H:J}{w:World}(ah:bc μ H w){r:aL}{bU:Array Value}(ai:hJ need μ r bU):∀(l:List ResultVar) (vs:List I),lR (pO P need r H) l=some vs->
  ∃us:List Value,(l.mapM (λx=>(match x with|.tmp t=>pure (bU.getD t undef)|.cell a t=>do loadVar t (<-asAddr (bU.getD a undef)):Sem Value))).run P w=.ok us w/\bN μ vs us
 |[],vs,h=>by cases h;exact⟨[],rfl,rfl⟩
 |x::l,vs,h=>by
  simp only[lR] at h
  split at h
  · rename_i v tw aa ad
    cases h
    obtain⟨u,aR,a3⟩:=NH ah ai aa
    obtain⟨us,ck,mP⟩:=Bi ah ai l tw ad
    refine⟨u::us,?_,⟨_,_,rfl,a3,mP⟩⟩
    rw[List.mapM_cons]
    simp only[Sem.run_bind]
    rw[aR]
    simp only[Result.andThen_ok,Sem.run_bind,ck,Sem.run_pure]
  · cases h
theorem Gb{need:Nat}{μ:a8}{H:J}{w:World}(ah:bc μ H w){fn:Func}{r:aL}{bU:Array Value}(ai:hJ need μ r bU){v:I}(h:oH P need fn r H=some v):
  ∃u,(results fn bU).run P w=.ok u w/\a1 μ v u:=by
 unfold oH at h
 have hR:∀us:List Value,(fn.results.toList.mapM (λx=>(match x with|.tmp t=>pure (bU.getD t undef)|.cell a t=>do loadVar t (<-asAddr (bU.getD a undef)):Sem Value))).run P w=.ok us w->
   (results fn bU).run P w=.ok (if h:(⟨us⟩:Array Value).size=1 then(⟨us⟩:Array Value)[0] else .tuple ⟨us⟩) w:=by
  intro us kB
  have hm:(fn.results.mapM (λx=>(match x with|.tmp t=>pure (bU.getD t undef)|.cell a t=>do loadVar t (<-asAddr (bU.getD a undef)):Sem Value))).run P w=.ok ⟨us⟩ w:=by
   rw[Array.mapM_eq_mapM_toList]
   simp only[map_eq_pure_bind,Sem.run_bind]
   rw[kB];rfl
  unfold results
  simp only[Sem.run_bind]
  refine Eq.trans (congrArg (λq=>Result.andThen q _) hm) ?_
  rfl
 split at h
 · rename_i v' aX
   cases h
   obtain⟨us,aR,a3⟩:=Bi ah ai _ _ aX
   obtain⟨u,p2,rfl,ck,mP⟩:=a3
   cases mP
   exact⟨_,hR _ aR,ck⟩
 · rename_i vs df aX
   cases h
   obtain⟨us,aR,a3⟩:=Bi ah ai _ _ aX
   refine⟨_,hR _ aR,?_⟩
   have:¬((⟨us⟩:Array Value).size=1):=by
    intro e
    have an:=a3.length
    have cx:us.length=1:=e
    rw[cx] at an
    obtain⟨x,ab⟩:=List.length_eq_one_iff.1 an
    exact df x ab
   rw[dif_neg this]
   exact⟨us,rfl,a3⟩
 · cases h
theorem Gc{call:aP->List I->J->av}(ag:kH P call)(hdr:∀need b4,qi P need b4 call){f:FuncId}{fn:Func}(hf:P.funcs[f]? =some fn){kind:CallKind}{c:Code}(af:fn.body=some c)(du:ht fn.ntmps c=true)
  {args:List I}{vs:List Value}{q:bt}{H:J}{μ:a8}{w:World}{cs0 cs:List Frame}(aB:bN μ args vs)(ah:bc μ H w)(aj:gp P μ)(bh:g3 μ kind cs0 q cs):
  l6 P (dx fn) fn.ntmps μ H w {(default:Frame) with fn:=f,kind:=kind} [] cs0 (lone (Frame.enter P f ⟨vs⟩ kind) cs w) (k8 P call fn args q H):=by
 unfold k8
 rw[af]
 simp only
 cases hle:Nat.ble args.length fn.ntmps with
 |false=>trivial
 |true=>
  have AP:args.length<=fn.ntmps:=by simpa using hle
  have hlen:=aB.length
  simp only
  have NI:Frame.enter P f ⟨vs⟩ kind=({(default:Frame) with fn:=f,kind:=kind}:Frame).atR {tmps:=⟨vs⟩++Array.replicate (fn.ntmps-vs.length) undef,defers:=[]} [.code c]:=by
   simp[Frame.enter,Frame.atR,hf,af]
   rfl
  rw[NI]
  exact nT ag (hdr _ _) (Bg ag) none c du {(default:Frame) with fn:=f,kind:=kind} (mG 0 args .leaf) [] q H μ w {tmps:=⟨vs⟩++Array.replicate (fn.ntmps-vs.length) undef,defers:=[]} [] cs0 cs rfl (NG aB _) (by simp;omega) ah aj rfl bh
def vM(P:Program):Prop:=∀(g:FuncId) (fH:Func) (gc:Code),P.funcs[g]? =some fH->fH.body=some gc->ht fH.ntmps gc=true/\(fH.name== "runtime.NumGoroutine")=false
theorem Bj{f:FuncId}{fn:Func}{c:Code}(hf:P.funcs[f]? =some fn)(af:fn.body=some c)(aG:(fn.name== "runtime.NumGoroutine")=false)(args:Array Value)(w:World):(callFunc f args).run P w=.ok (.enter f args) w:=by
 have tx:¬fn.name= "runtime.NumGoroutine" :=by simpa using aG
 simp[callFunc,hf,tx,af]
def l8(μ:a8):Option I->FrameMode->Prop
 |none,m=>m=.returning
 |some v,m=>∃u,m=.panicking [{v:=u,recovered:=false}]/\a1 μ v u
theorem l8.mono{μ aH:a8}(hle:en μ aH){dP:Option I}{m:FrameMode}(h:l8 μ dP m):l8 aH dP m:=by
 cases dP with
 |none=>exact h
 |some v=>obtain⟨u,aa,ad⟩:=h;exact⟨u,aa,ad.mono hle⟩
theorem l8.run{μ:a8}{dP:Option I}{m:FrameMode}(h:l8 μ dP m):m≠ .run:=by
 cases dP with
 |none=>intro e;cases h.symm.trans e
 |some v=>obtain⟨u,aa,_⟩:=h;intro e;cases aa.symm.trans e
theorem l8.q{μ:a8}{dP:Option I}{c:Frame}{cs:List Frame}(h:l8 μ dP c.mode):g3 μ .deferred (c::cs) (ti dP) (c::cs):=by
 cases dP with
 |none=>
  refine⟨rfl,λcg aq=>?_⟩
  have ak:c.mode=.returning:=h
  simp only[tryRecover,aq,ak]
 |some v=>obtain⟨u,aa,ad⟩:=h;exact⟨rfl,rfl,c,cs,u,rfl,aa,ad⟩
theorem NJ{μ:a8}{H:J}{w:World}(ah:bc μ H w){r:Nat}{i:dL}(ae:μ r=some i){cs:List bA}(aj:H.get r=some (.defrd (some cs))):
  ∃w' l,(Instr.takeDeferred i.a5).run P w=.ok l w'/\fI μ cs l/\bc μ (H.set r (some (.defrd none))) w'/\bO μ H w μ (H.set r (some (.defrd none))) w':=by
 obtain⟨l,aC,ax⟩:=ah.rel _ _ i aj ae
 have cj:=(ah.lt _ _ ae).2
 obtain⟨r1,r2⟩:=ah.update (w':={w with heap:=w.heap.setIfInBounds i.a5 (.deferred none)}) (o':=.defrd none) aj rfl ae (by simp) (λr ai=>by simp[Array.getElem?_setIfInBounds];intro e;exact absurd e.symm ai) rfl rfl rfl
  (show({w with heap:=w.heap.setIfInBounds i.a5 (.deferred none)}:World).heap[i.a5]? =some (.deferred none) by simp[cj])
 refine⟨_,l,?_,ax,r1,r2⟩
 have gi:(getObj i.a5).run P w=.ok (.deferred (some l)) w:=by simp[getObj,Sem.run,aC]
 have eR:(setObj i.a5 (.deferred none)).run P w=.ok () {w with heap:=w.heap.setIfInBounds i.a5 (.deferred none)}:=by simp[setObj,Sem.run,aC]
 simp only[Instr.takeDeferred,Sem.run_bind,gi,Result.andThen_ok,eR,Sem.run_pure]
end
end aw
namespace aw
open Go
section
variable {P:Program}
theorem step_take{cg:Frame}{cs:List Frame}{w w':World}{b:Nat}{args:Array Value}{aS calls:List Deferred}(hm:cg.mode≠ .run)(az:cg.defers={target:=.collected b,args:=args}::aS)(aQ:(Instr.takeDeferred b).run P w=.ok calls w'):
  step P (lone cg cs w)=.next (lone {cg with defers:=calls++aS} cs w'):=by
 refine step_lone_go ?_
 cases Bk:cg.mode with
 |run=>exact absurd Bk hm
 |returning=>simp[stepG,unwind,Bk,az,Sem.runT_eq,aQ]
 |panicking chain=>simp[stepG,unwind,Bk,az,Sem.runT_eq,aQ]
theorem Ends.trans{μ fD:a8}{H H1:J}{w dp:World}{x:av}{e:Ending}{w':World}(ah:bc μ H w)(ky:bc fD H1 dp)(aX:bO μ H w fD H1 dp)(h:Ends fD H1 dp x e w'):Ends μ H w x e w':=by
 cases x with
 |ret v aO=>obtain⟨aH,u,aa,ad,ar,aM⟩:=h;exact⟨aH,u,aa,ad,ar,bO.trans ah ky aX aM⟩
 |bK v aO=>obtain⟨aH,u,aa,ad,ar,aM⟩:=h;exact⟨aH,u,aa,ad,ar,bO.trans ah ky aX aM⟩
 |fail s=>trivial
theorem Bl{call:aP->List I->J->av}(ag:kH P call)(hdr:∀need b4,qi P need b4 call)(eO:vM P){need:Nat}{fn:Func}{r:aL}:
  ∀(k:Nat) (dP:Option I) (aS:List bA) (H:J) (μ:a8) (w:World) (cg:Frame) (cs:List Frame),(iO P call need fn r k dP aS H).j5=true->bc μ H w->gp P μ->hJ need μ r cg.tmps->P.funcs[cg.fn]? =some fn->cg.kind=.normal->
   fI μ aS cg.defers->l8 μ dP cg.mode->∃e w' Bm,Ends μ H w (iO P call need fn r k dP aS H) e w'/\Steps P (lone cg cs w) (lone Bm cs w')/\Bm.fn=cg.fn/\Bm.leaving P w' e
 |0,dP,aS,H,μ,w,cg,cs,bJ,ah,aj,ai,hf,aq,az,a6=>by cases bJ
 |k+1,dP,[],H,μ,w,cg,cs,bJ,ah,aj,ai,hf,aq,az,a6=>by
  have oS:cg.defers=[]:=az
  cases dP with
  |none=>
   simp only[iO] at bJ⊢
   cases hR:oH P need fn r H with
   |none=>rw[hR] at bJ;cases bJ
   |some v=>
    obtain⟨u,aR,a3⟩:=Gb (P:=P) ah ai hR
    exact⟨.returned u,w,cg,⟨μ,u,rfl,a3,ah,bO.refl _ _ _⟩,Steps.refl _ _,rfl,a6,oS,aq,fn,hf,aR⟩
  |some v=>
   obtain⟨u,aa,ad⟩:=a6
   exact⟨.panicked _,w,cg,⟨μ,u,rfl,ad,ah,bO.refl _ _ _⟩,Steps.refl _ _,rfl,aa,oS,fn,hf⟩
 |k+1,dP,.collected b::aS,H,μ,w,cg,cs,bJ,ah,aj,ai,hf,aq,az,a6=>by
  obtain⟨oR,dl,vB,aa,ad⟩:=az
  cases aa with
  |collected _ i ae=>
  simp only[iO] at bJ⊢
  cases Bn:H.get b with
  |none=>rw[Bn] at bJ;cases bJ
  |some o=>
   rw[Bn] at bJ
   cases o<;>try (cases bJ;done)
   case defrd calls=>
    cases calls with
    |none=>cases bJ
    |some NK=>
     simp only at bJ⊢
     obtain⟨w',l,aC,ax,bp,ds⟩:=NJ (P:=P) ah ae Bn
     have hs:=step_take (cs:=cs) a6.run vB aC
     obtain⟨e,cC,lg,r1,r2,eU,hN⟩:=Bl ag hdr eO k dP (NK++aS) _ μ w' {cg with defers:=l++dl} cs bJ bp aj ai hf aq (ax.append ad) a6
     refine⟨e,cC,lg,?_,Steps.head hs r2,eU,hN⟩
     exact Ends.trans ah bp ds r1
 |k+1,dP,.call g args::aS,H,μ,w,cg,cs,bJ,ah,aj,ai,hf,aq,az,a6=>by
  obtain⟨oR,dl,vB,aa,ad⟩:=az
  cases aa with
  |call _ _ cap vs Bo=>
  simp only[iO] at bJ⊢
  cases qj:P.funcs[g]? with
  |none=>rw[qj] at bJ;cases bJ
  |some fH=>
   rw[qj] at bJ
   simp only at bJ⊢
   cases yp:fH.body with
   |none=>
    have:k8 P call fH args (ti dP) H=.fail "no body" :=by simp[k8,yp]
    rw[this] at bJ;cases bJ
   |some gc=>
    obtain⟨vN,yq⟩:=eO g fH gc qj yp
    have bh:g3 μ .deferred ({cg with defers:=dl}::cs) (ti dP) ({cg with defers:=dl}::cs):=l8.q (c:={cg with defers:=dl}) a6
    have af:=Gc (P:=P) ag hdr qj (kind:=.deferred) yp vN (args:=args) (vs:=vs++cap) (q:=ti dP) Bo ah aj bh
    have hinv:(invoke (.fn (.func g) ⟨cap⟩) ⟨vs⟩).run P w=.ok (.enter g ⟨vs++cap⟩) w:=by
     have:=Bj (P:=P) qj yp yq (⟨vs⟩++⟨cap⟩) w
     simpa[invoke] using this
    have NL:=step_defer (P:=P) (cs:=cs) a6.run vB (d:={target:=.fn (.func g) ⟨cap⟩,args:=⟨vs⟩}) rfl hinv
    cases ab:k8 P call fH args (ti dP) H with
    |fail s=>rw[ab] at bJ;cases bJ
    |ok e r' bn q' aO=>
     rw[ab] at bJ af
     obtain⟨aH,w',cQ,bH,s1,s2,bI,cq,cN,dK,eW⟩:=af
     simp only[Ex] at bJ⊢
     cases hR:oH P (dx fH) fH r' aO with
     |none=>rw[hR] at bJ;cases e<;>cases bn<;>cases bJ
     |some Xi=>
      rw[hR] at bJ
      obtain⟨u,aR,a3⟩:=Gb (P:=P) cq s2 hR
      have main:∀(he:e=.nrm\/e=.ret) (oS:bn=[]) (fZ:(iO P call need fn r k (u9 q' dP) aS aO).j5=true),
        ∃ax cC lg,Ends μ H w (iO P call need fn r k (u9 q' dP) aS aO) ax cC/\Steps P (lone cg cs w) (lone lg cs cC)/\lg.fn=cg.fn/\lg.leaving P cC ax:=by
       intro he oS fZ
       subst oS
       have vO:cQ.defers=[]:=dK
       have Bp:∃todo,Steps P (lone (Frame.enter P g ⟨vs++cap⟩ .deferred) ({cg with defers:=dl}::cs) w) (lone {({(default:Frame) with fn:=g,kind:=.deferred}:Frame).atR cQ todo with mode:=.returning} bH w'):=by
        rcases he with rfl|rfl
        · exact⟨_,Steps.trans s1 (.one (stepR_end rfl))⟩
        · obtain⟨b3,vP⟩:=s1
          exact⟨_,Steps.trans vP (.one (stepR_ret rfl))⟩
       obtain⟨todo,Bp⟩:=Bp
       have gi:({({(default:Frame) with fn:=g,kind:=.deferred}:Frame).atR cQ todo with mode:=.returning}:Frame).going P w' (.returned u):=⟨rfl,vO,fH,qj,aR⟩
       have caller:∃m,bH={({cg with defers:=dl}:Frame) with mode:=m}::cs/\l8 aH (u9 q' dP) (settle m):=by
        have bZ:l8 aH dP (settle cg.mode):=by
         have qk:=a6.mono cN.le
         cases dP with
         |none=>have:cg.mode=.returning:=qk;rw[this];rfl
         |some v=>obtain⟨u,aa,ad⟩:=qk;rw[aa];exact⟨u,rfl,ad⟩
        cases q' with
        |none=>exact⟨cg.mode,eW.1,bZ⟩
        |act v=>exact⟨cg.mode,eW.1,bZ⟩
        |done v=>
         obtain⟨_,c,rest,u,aC,ax,bp,ds⟩:=eW
         cases aC
         exact⟨_,ds,rfl⟩
       obtain⟨m,rfl,NM⟩:=caller
       have ar:=step_going_returned (P:=P) (c:={({cg with defers:=dl}:Frame) with mode:=m}) (cs:=cs) rfl gi
       obtain⟨ax,cC,lg,r1,r2,eU,hN⟩:=Bl ag hdr eO k (u9 q' dP) aS aO aH w' {cg with defers:=dl,mode:=settle m} cs fZ cq (aj.mono cN.le) (ai.mono cN.le) hf aq (ad.mono cN.le) NM
       exact⟨ax,cC,lg,Ends.trans ah cq cN r1,Steps.head NL (Steps.trans Bp (Steps.head ar r2)),eU,hN⟩
      cases bn with
      |cons x xs=>cases e<;>cases bJ
      |nil=>
       cases e with
       |nrm=>exact main (.inl rfl) rfl bJ
       |ret=>exact main (.inr rfl) rfl bJ
       |exit id=>cases bJ
       |goto l=>cases bJ
       |bK v=>cases bJ
theorem NN{P:Program}{m yr:Machine}{e:Ending}(h:Steps P m yr)(he:e≠ .outgrown):Comes P m yr e:=by
 cases e with
 |outgrown=>exact absurd rfl he
 |_=>exact h
theorem NO{call:aP->List I->J->av}(ag:kH P call)(hdr:∀need b4,qi P need b4 call)(eO:vM P){f:FuncId}{fn:Func}{c:Code}(hf:P.funcs[f]? =some fn)(af:fn.body=some c)
  {args:List I}{vs:List Value}{H:J}{μ:a8}{w:World}(aB:bN μ args vs)(ah:bc μ H w)(aj:gp P μ)(bJ:(k9 P call fn (k8 P call fn args .none H)).j5=true):
  Calls P f ⟨vs⟩ w (Ends μ H w (k9 P call fn (k8 P call fn args .none H))):=by
 intro cs
 obtain⟨vN,yq⟩:=eO f fn c hf af
 have bh:g3 μ .normal cs .none cs:=⟨rfl,λcg aq=>by simp[tryRecover,aq]⟩
 have hx:=Gc (P:=P) ag hdr hf (kind:=.normal) af vN aB ah aj bh
 generalize ab:k8 P call fn args .none H=x at bJ hx⊢
 cases x with
 |fail s=>cases bJ
 |ok e r d q aO=>
  obtain⟨aH,w',cQ,bH,s1,s2,bI,cq,cN,dK,eW⟩:=hx
  have gG:bH=cs:=by
   cases q with
   |none=>exact eW.1
   |act v=>exact eW.1
   |done v=>exact absurd eW.1 (by intro h;cases h)
  subst gG
  have main:∀(dP:Option I) (cg:Frame),cg.fn=f->cg.tmps=cQ.tmps->cg.defers=cQ.defers->cg.kind=.normal->l8 aH dP cg.mode->Steps P (lone (Frame.enter P f ⟨vs⟩ .normal) bH w) (lone cg bH w')->
    (iO P call (dx fn) fn r 100 dP d aO).j5=true->∃e cC lg,Ends μ H w (iO P call (dx fn) fn r 100 dP d aO) e cC/\Comes P (lone (Frame.enter P f ⟨vs⟩ .normal) bH w) (lone lg bH cC) e/\lg.fn=f/\lg.leaving P cC e:=by
   intro dP cg aa ad ar aM bS cK fZ
   subst aa
   obtain⟨ax,cC,lg,r1,r2,eU,hN⟩:=Bl ag hdr eO 100 dP d aO aH w' cg bH fZ cq (aj.mono cN.le) (by rw[ad];exact s2) hf aM (by rw[ar];exact dK) bS
   have Gd:=Ends.trans ah cq cN r1
   exact⟨ax,cC,lg,Gd,NN (cK.trans r2) (λe=>A8 fZ _ (e▸Gd)),eU,hN⟩
  cases e with
  |nrm=>exact main none {({(default:Frame) with fn:=f,kind:=.normal}:Frame).atR cQ [] with mode:=.returning} rfl rfl rfl rfl rfl (Steps.trans s1 (.one (stepR_end rfl))) bJ
  |ret=>obtain⟨b3,vP⟩:=s1;exact main none {({(default:Frame) with fn:=f,kind:=.normal}:Frame).atR cQ (.code .ret::b3) with mode:=.returning} rfl rfl rfl rfl rfl (Steps.trans vP (.one (stepR_ret rfl))) bJ
  |bK v=>obtain⟨b3,u,aa,ad⟩:=s1;exact main (some v) _ rfl rfl rfl rfl ⟨u,rfl,aa.1⟩ ad bJ
  |exit id=>cases bJ
  |goto l=>cases bJ
end
end aw
namespace aw
open Go
section
variable {P:Program}
theorem Ge{need:Nat}{μ:a8}:∀(ps:List Nat) (args:List I) (vs:List Value) (r gE:aL) (bU:Array Value),(∀t∈ps,t<bU.size)->hJ need μ r bU->bN μ args vs->rb ps args r=some gE->
  hJ need μ gE ((ps.zip vs).foldl (λbU (p:Nat×Value)=>bU.setIfInBounds p.1 p.2) bU)/\((ps.zip vs).foldl (λbU (p:Nat×Value)=>bU.setIfInBounds p.1 p.2) bU).size=bU.size/\ps.length=vs.length
 |[],[],vs,r,gE,bU,a6,ai,aB,h=>by cases aB;cases h;exact⟨ai,rfl,rfl⟩
 |t::ts,v::args,vs,r,gE,bU,a6,ai,aB,h=>by
  obtain⟨u,us,rfl,aa,ad⟩:=aB
  simp only[rb] at h
  have rA:hJ need μ (r.set (fV t) v) (bU.setIfInBounds t u):=λs hs=>by
   rw[aL.bL,vJ (a6 t (by simp))]
   by_cases e:s=t
   · rw[if_pos e,if_pos e];exact aa
   · rw[if_neg e,if_neg e];exact ai s hs
  obtain⟨aR,a3,ck⟩:=Ge ts args us _ gE (bU.setIfInBounds t u) (λs hs=>by simp;exact a6 s (by simp[hs])) rA ad h
  exact⟨aR,by rw[List.zip_cons_cons,List.foldl_cons];rw[a3];simp,by simp[ck]⟩
 |[],_::_,vs,r,gE,bU,a6,ai,aB,h=>by cases h
 |_::_,[],vs,r,gE,bU,a6,ai,aB,h=>by cases h
theorem Bq{μ:a8}{H:J}{w:World}(ah:bc μ H w){l:Nat}{i:dL}(an:μ l=some i){st:LoopState}{fa:Option Code}{fX:Nat}{rg:aL}{ps:List Nat}{as b6:Code}{dD:Nat}(aj:H.get l=some (.loop st fa fX rg ps as b6 dD)):
  ∃bU gF fn,μ dD=some gF/\(Instr.getLoop i.a5).run P w=.ok {state:=st,pending:=fa,fn:=fn,tmps:=bU,params:=⟨ps⟩,assign:=as,body:=b6,defers:=gF.a5} w/\hJ fX μ rg bU/\ht bU.size as=true/\ht bU.size b6=true/\(∀t∈ps,t<bU.size)/\
   ∀bX tz,∃w',(setObj i.a5 (.loop {state:=bX,pending:=tz,fn:=fn,tmps:=bU,params:=⟨ps⟩,assign:=as,body:=b6,defers:=gF.a5})).run P w=.ok () w'/\
    bc μ (H.set l (some (.loop bX tz fX rg ps as b6 dD))) w'/\bO μ H w μ (H.set l (some (.loop bX tz fX rg ps as b6 dD))) w':=by
 obtain⟨bU,gF,fn,aC,ax,bp,ds,hh,hv⟩:=ah.rel _ _ i aj an
 have cj:=(ah.lt _ _ an).2
 have gi:(getObj i.a5).run P w=.ok (.loop {state:=st,pending:=fa,fn:=fn,tmps:=bU,params:=⟨ps⟩,assign:=as,body:=b6,defers:=gF.a5}) w:=by simp[getObj,Sem.run,ax]
 refine⟨bU,gF,fn,aC,?_,bp,ds,hh,hv,λbX tz=>?_⟩
 · simp only[Instr.getLoop,Sem.run_bind,gi,Result.andThen_ok,Sem.run_pure]
 · obtain⟨r1,r2⟩:=ah.update (w':={w with heap:=w.heap.setIfInBounds i.a5 (.loop {state:=bX,pending:=tz,fn:=fn,tmps:=bU,params:=⟨ps⟩,assign:=as,body:=b6,defers:=gF.a5})}) (o':=.loop bX tz fX rg ps as b6 dD) aj rfl an (by simp) (λr ai=>by simp[Array.getElem?_setIfInBounds];intro e;exact absurd e.symm ai) rfl rfl rfl
     ⟨bU,gF,fn,aC,by simp[cj],bp,ds,hh,hv⟩
   exact⟨_,by simp[setObj,Sem.run,ax],r1,r2⟩
theorem NP{b:Frame}{a:Act}{b3:List Item}{c:Frame}{cs:List Frame}{w:World}{chain:List PanicEntry}(az:a.defers=[])(aG:Bc b3):
  step P (lone {b.atR a b3 with mode:=.panicking chain} (c::cs) w)=.next (lone (c.raise chain) cs w):=by
 have NQ:({b.atR a b3 with mode:=.panicking chain}:Frame).catches P=false:=by
  unfold Frame.catches
  cases hf:P.funcs[b.fn]? with
  |some fn=>simp[Frame.atR,hf]
  |none=>
   cases b3 with
   |nil=>simp[Frame.atR,hf]
   |cons x t=>cases x<;>first|exact aG.elim|simp[Frame.atR,hf]
 refine step_lone_go ?_
 have Gf:=NQ
 simp only[Frame.atR,az] at Gf⊢
 simp[stepG,unwind,Gf]
theorem NR{μ:a8}{H:J}{w:World}{l:Nat}{i:dL}(an:μ l=some i){b:Frame}(af:b.roundOf=some i.a5)(aq:b.kind=.normal){need b4:Nat}{c:Frame}{cs:List Frame}{eD:Machine}{x:hZ}(ab:l6 P need b4 μ H w b [] (c::cs) eD x)(Xj:∀cg:Frame,cg.kind=b.kind->tryRecover cg (c::cs)=none)(bJ:(tj l x).j5=true)(ah:bc μ H w):
  qf P eD c cs (Ends μ H w (tj l x)):=by
 cases x with
 |fail s=>cases bJ
 |ok e r d q aO=>
  obtain⟨aH,w',cQ,bH,s1,s2,bI,cq,cN,dK,eW⟩:=ab
  have gG:bH=c::cs:=by
   cases q with
   |none=>exact eW.1
   |act v=>exact eW.1
   |done v=>exact absurd (aq.symm.trans eW.1) (by intro h;cases h)
  subst gG
  cases d with
  |cons y ys=>cases bJ
  |nil=>
   have vO:cQ.defers=[]:=dK
   simp only[tj] at bJ⊢
   cases aj:aO.get l with
   |none=>rw[aj] at bJ;cases bJ
   |some o=>
    rw[aj] at bJ
    cases o<;>try (cases bJ;done)
    case loop st fa fX rg ps as b6 dD=>
     cases st<;>try (cases bJ;done)
     simp only at bJ⊢
     obtain⟨bU,gF,fn,al,au,_,_,_,_,a7⟩:=Bq (P:=P) cq (cN.le _ _ an) aj
     have fin:∀l7:Option Code,∃cC,(Instr.endRound i.a5 l7).run P w'=.ok (.bool l7.isNone) cC/\bc aH (aO.set l (some (.loop (if l7.isNone then .ready else .done) l7 fX rg ps as b6 dD))) cC/\bO aH aO w' aH (aO.set l (some (.loop (if l7.isNone then .ready else .done) l7 fX rg ps as b6 dD))) cC:=λl7=>by
      obtain⟨cC,aR,a3,ck⟩:=a7 (if l7.isNone then .ready else .done) l7
      refine⟨cC,?_,a3,ck⟩
      simp only[Instr.endRound,Sem.run_bind,au,Result.andThen_ok,aR,Sem.run_pure]
     cases e with
     |nrm=>
      obtain⟨cC,aR,a3,ck⟩:=fin none
      exact⟨.returned (.bool true),cC,⟨aH,_,rfl,rfl,a3,bO.trans ah cq cN ck⟩,Steps.trans s1 (.one (stepR_round_end af aq aR))⟩
     |ret=>
      obtain⟨b3,s1⟩:=s1
      obtain⟨cC,aR,a3,ck⟩:=fin (some .ret)
      exact⟨.returned (.bool false),cC,⟨aH,_,rfl,rfl,a3,bO.trans ah cq cN ck⟩,Steps.trans s1 (.one (stepR_round_ret af aq aR))⟩
     |exit id=>
      obtain⟨b3,vP,s1⟩:=s1
      obtain⟨cC,aR,a3,ck⟩:=fin (some (.exit id))
      exact⟨.returned (.bool false),cC,⟨aH,_,rfl,rfl,a3,bO.trans ah cq cN ck⟩,Steps.trans s1 (.one (stepR_round_exit af aq (vP.trans rfl) aR))⟩
     |bK v=>
      obtain⟨b3,u,⟨aa,ad⟩,s1⟩:=s1
      exact⟨.panicked _,w',⟨aH,u,rfl,aa,cq,cN⟩,Steps.trans s1 (.one (NP vO ad))⟩
     |goto t=>cases bJ
theorem NS{call:aP->List I->J->av}(ag:kH P call)(hdr:∀need b4,qi P need b4 call){l:Nat}{args:List I}{H:J}{μ:a8}{w:World}{i:dL}{vs:List Value}(bJ:(nD P call l args H).j5=true)(ah:bc μ H w)(nO:gp P μ)(an:μ l=some i)(aB:bN μ args vs):
  FO P i.a5 vs w (Ends μ H w (nD P call l args H)):=by
 unfold nD at bJ⊢
 cases aj:H.get l with
 |none=>rw[aj] at bJ;cases bJ
 |some o=>
  rw[aj] at bJ
  cases o<;>try (cases bJ;done)
  case loop st fa fX rg ps as b6 dD=>
   cases st<;>try (cases bJ;done)
   simp only at bJ⊢
   cases aT:rb ps args rg with
   |none=>rw[aT] at bJ;cases bJ
   |some gE=>
    rw[aT] at bJ
    simp only at bJ⊢
    obtain⟨bU,gF,fn,al,au,a7,b8,db,e7,hj⟩:=Bq (P:=P) ah an aj
    obtain⟨c7,fu,kF⟩:=Ge ps args vs rg gE bU e7 a7 aB aT
    obtain⟨tA,Gg⟩:∃tA,(ps.zip vs).foldl (λbU (p:Nat×Value)=>bU.setIfInBounds p.1 p.2) bU=tA:=⟨_,rfl⟩
    rw[Gg] at c7 fu
    refine⟨fn,tA,as,b6,?_,λc cs=>?_⟩
    · simp only[Instr.yield,Sem.run_bind,au,Result.andThen_ok]
      rw[if_neg (by simp;omega)]
      simp only[Sem.run_bind,Sem.run_pure,Result.andThen_ok]
      rw[<-Gg]
      simp
    · have NT:Frame.round i.a5 fn tA as b6 .normal=({(default:Frame) with fn:=fn,kind:=.normal,roundOf:=some i.a5}:Frame).atR {tmps:=tA,defers:=[]} [.code as,.beginRound,.code b6]:=rfl
      rw[NT]
      have bh:g3 μ .normal (c::cs) .none (c::cs):=⟨rfl,λcg aq=>by simp[tryRecover,aq]⟩
      have cL:mT μ ({(default:Frame) with fn:=fn,kind:=.normal,roundOf:=some i.a5}:Frame) (some l):=⟨i,an,rfl⟩
      have aa:=nT ag (hdr fX bU.size) (Bg ag) (some l) as b8 {(default:Frame) with fn:=fn,kind:=.normal,roundOf:=some i.a5} gE [] .none H μ w {tmps:=tA,defers:=[]} [.beginRound,.code b6] (c::cs) (c::cs) cL c7 fu ah nO rfl bh
      generalize da P fX (some l) call as gE [] .none H=x at aa bJ⊢
      cases x with
      |fail s=>cases bJ
      |ok e r1 d1 aR H1=>
       cases e<;>try (cases bJ;done)
       case nrm=>
        cases d1<;>try (cases bJ;done)
        case nil=>
         obtain⟨fD,dp,cY,iw,s1,s2,bI,cq,cN,dK,eW⟩:=aa
         have gG:iw=c::cs:=by
          cases aR with
          |none=>exact eW.1
          |act v=>exact eW.1
          |done v=>exact absurd eW.1 (by intro h;cases h)
         subst gG
         simp only[xM] at bJ⊢
         cases fG:H1.get l with
         |none=>rw[fG] at bJ;cases bJ
         |some c0=>
          rw[fG] at bJ
          cases c0<;>try (cases bJ;done)
          case loop oT NU Xk Xl Xm Xn Xo Xp=>
           cases oT<;>try (cases bJ;done)
           simp only at bJ⊢
           obtain⟨Xq,Xr,Xs,bG,bF,eH,nW,vQ,vR,Br⟩:=Bq (P:=P) cq (cN.le _ _ an) fG
           obtain⟨cC,a4,a_,cO⟩:=Br .busy NU
           have vH:(Instr.beginRound i.a5).run P dp=.ok () cC:=by
            simp only[Instr.beginRound,Sem.run_bind,bF,Result.andThen_ok,a4,Sem.run_pure]
           have b5:=stepR_beginRound (P:=P) (b:={(default:Frame) with fn:=fn,kind:=.normal,roundOf:=some i.a5}) (a:=cY) (k:=[.code b6]) (cs:=c::cs) rfl vH
           have oU:g3 fD .normal (c::cs) .none (c::cs):=⟨rfl,λcg aq=>by simp[tryRecover,aq]⟩
           have NV:mT fD ({(default:Frame) with fn:=fn,kind:=.normal,roundOf:=some i.a5}:Frame) (some l):=⟨i,cN.le _ _ an,rfl⟩
           have vO:fI fD [] cY.defers:=dK
           have ad:=nT ag (hdr fX bU.size) (Bg ag) (some l) b6 db {(default:Frame) with fn:=fn,kind:=.normal,roundOf:=some i.a5} r1 [] .none _ fD cC cY [] (c::cs) (c::cs) NV s2 bI a_ (nO.mono cN.le) vO oU
           have ar:=ad.of_steps ah a_ (Steps.trans s1 (.one b5)) (bO.trans ah cq cN cO)
           exact NR an rfl rfl ar (λcg aq=>by simp[tryRecover,aq]) bJ ah
end
end aw
namespace aw
open Go
section
variable {P:Program}
def ql:List String:=["internal/abi.NoEscape","internal/bytealg.MakeNoZero","internal/bytealg.IndexByteString","maps.clone"]
def yu(P:Program):Prop:=∀(g:FuncId) (fH:Func),P.funcs[g]? =some fH->fH.body=none->fH.name∈ql->Extern.findNext fH=none
theorem Gh:∀(n t:Nat) (acc:Array Value),(Extern.BytealgMakeNoZero.digits n t acc).size=acc.size+n
 |0,t,acc=>rfl
 |n+1,t,acc=>by rw[Extern.BytealgMakeNoZero.digits,Gh n];simp;omega
theorem NW{fn:Func}(aG:fn.name= "internal/abi.NoEscape"):Extern.find fn=some Extern.AbiNoEscape.same:=by
 have aa:Extern.allGenericRows.lookup "internal/abi.NoEscape" =none:=by rfl
 have ad:Extern.allTypedRows.lookup "internal/abi.NoEscape" =none:=by rfl
 have ar:Extern.allRows.lookup "internal/abi.NoEscape" =some Extern.AbiNoEscape.same:=by rfl
 simp[Extern.find,aG,aa,ad,ar]
theorem NX{fn:Func}(aG:fn.name= "internal/bytealg.MakeNoZero"):Extern.find fn=some (Extern.BytealgMakeNoZero.makeNoZero fn.params fn.resultTypes):=by
 have aa:Extern.allGenericRows.lookup "internal/bytealg.MakeNoZero" =none:=by rfl
 have ad:Extern.allTypedRows.lookup "internal/bytealg.MakeNoZero" =some Extern.BytealgMakeNoZero.makeNoZero:=by rfl
 simp[Extern.find,aG,aa,ad]
theorem NY{fn:Func}(aG:fn.name= "internal/bytealg.IndexByteString"):Extern.find fn=some Extern.BytealgIndexByte.indexByte:=by
 have aa:Extern.allGenericRows.lookup "internal/bytealg.IndexByteString" =none:=by rfl
 have ad:Extern.allTypedRows.lookup "internal/bytealg.IndexByteString" =none:=by rfl
 have ar:Extern.allRows.lookup "internal/bytealg.IndexByteString" =some Extern.BytealgIndexByte.indexByte:=by rfl
 simp[Extern.find,aG,aa,ad,ar]
theorem NZ{fn:Func}(aG:fn.name= "maps.clone"):Extern.find fn=some Extern.MapsClone.clone:=by
 have aa:Extern.allGenericRows.lookup "maps.clone" =none:=by rfl
 have ad:Extern.allTypedRows.lookup "maps.clone" =none:=by rfl
 have ar:Extern.allRows.lookup "maps.clone" =some Extern.MapsClone.clone:=by rfl
 simp[Extern.find,aG,aa,ad,ar]
theorem Gi(c:Nat):∀(l:List UInt8) (i:Nat),mH c l i=match l.findIdx? (λb=>Nat.beq b.toNat c) with
  |some j=>((i+j:Nat):Int)
  |none=>-1
 |[],i=>rfl
 |b::l,i=>by
  rw[mH,List.findIdx?_cons]
  cases Nat.beq b.toNat c with
  |true=>simp
  |false=>
   simp only[Gi c l (i+1)]
   cases l.findIdx? (λb=>Nat.beq b.toNat c) with
   |none=>rfl
   |some j=>
    simp only[Option.map_some]
    have:((i+(j+1):Nat):Int)=((i+1+j:Nat):Int):=by congr 1;omega
    exact this.symm
theorem N0(b:ByteArray)(p:UInt8->Bool):(List.range b.size).find? (λi=>p b[i]!)=b.data.toList.findIdx? p:=by
 have br:b.data.toList.length=b.size:=Array.length_toList
 have eV:∀(i:Nat) (ae:i<b.data.toList.length),b[i]! =b.data.toList[i]:=λi ae=>by
  have dY:i<b.size:=by omega
  rw[getElem!_pos b i dY];rfl
 cases hf:b.data.toList.findIdx? p with
 |none=>
  rw[List.find?_eq_none]
  intro i ae
  have dY:i<b.data.toList.length:=by rw[br];simpa using ae
  rw[eV i dY]
  have:=List.findIdx?_eq_none_iff.1 hf _ (List.getElem_mem dY)
  rw[this];exact Bool.false_ne_true
 |some j=>
  obtain⟨aD,a6,cj⟩:=List.findIdx?_eq_some_iff_getElem.1 hf
  rw[List.find?_range_eq_some]
  refine⟨?_,by simp;omega,λi ae=>?_⟩
  · rw[eV j aD];exact a6
  · rw[eV i (by omega)]
    have:=cj i ae
    simpa using this
theorem N1{α:Type}(n:Int)(f:Int->α)(g:Array Value->α):Extern.BytealgMakeNoZero.makeNoZero.match_3 (λ_=>α) #[.int .i64 n] f g=f n:=rfl
theorem N2{α:Type}(t:TypeId)(r:Nat)(f:TypeId->Nat->α)(e:TypeId->α)(g:Array Value->α):Extern.MapsClone.clone.match_2 (λ_=>α) #[.iface t (.map (some r))] f e g=f t r:=rfl
theorem N3{α:Type}(b c:Value)(f:Value->Value->α)(g:Array Value->α):Extern.BytealgIndexByte.indexByte.match_2 (λ_=>α) #[b,c] f g=f b c:=rfl
theorem N4{f:FuncId}{fn:Func}(hf:P.funcs[f]? =some fn)(af:fn.body=none)(qm:yu P){args:List I}{H aO:J}{v:I}(h:th P fn fn.name args H=some (v,aO))
  {μ:a8}{w:World}{vs:List Value}(ah:bc μ H w)(aB:bN μ args vs):
  ∃u w',(callFunc f ⟨vs⟩).run P w=.ok (.value u) w'/\Ends μ H w (.ret v aO) (.returned u) w':=by
 have call:∀e:Array Value->Sem Value,fn.name∈ql->Extern.find fn=some e->(callFunc f ⟨vs⟩).run P w=(do let v<-e ⟨vs⟩;pure (.value v):Sem Next).run P w:=by
  intro e hm he
  have aG:=qm f fn hf af hm
  have vS:(fn.name== "runtime.NumGoroutine")=false:=by
   simp only[ql,List.mem_cons,List.mem_nil_iff,or_false] at hm
   rcases hm with h|h|h|h<;>rw[h]<;>decide
  rw[run_callFunc_extern hf vS (by rw[af];rfl) aG he];simp only[Sem.run_bind];rfl
 unfold th at h
 split at h
 · rename_i n
   split at h
   · rename_i mV
     split at h
     · rename_i t aQ
       split at h
       · rename_i e hu
         split at h
         · rename_i hle
           cases h
           have AP:n<=1099511627776:=by simpa using hle
           obtain⟨u,us,rfl,aa,ad⟩:=aB
           cases aa;cases ad
           have br:∀(t:TypeId),(Question.appendCap n 0 t).forced=false:=λ_=>rfl
           obtain⟨cap,nJ,Gj⟩:∃cap,(Question.appendCap n 0 e).cut (w.tape w.drawn (Question.appendCap n 0 e))=cap/\n<=cap:=⟨_,rfl,by simp[Question.cut]⟩
           obtain⟨Gk,l9⟩:∃x,(Question.extern "internal/bytealg.MakeNoZero.bytes" 0).cut (w.drew.tape w.drew.drawn (Question.extern "internal/bytealg.MakeNoZero.bytes" 0))=x:=⟨_,rfl⟩
           have az:=Gh cap Gk #[]
           have Gl:=ah.drew.drew
           obtain⟨r1,r2⟩:=Gl.alloc (.cells (List.replicate n .bad) e .aN 0 0) (.cells (Extern.BytealgMakeNoZero.digits cap Gk #[]) e) cap
            ⟨_,0,0,World.heap_alloc_new _ _,λj v aD=>by
              have rh:j<n:=by
               rcases Nat.lt_or_ge j n with h|h
               · exact h
               · rw[List.getElem?_eq_none (by simpa using h)] at aD;cases aD
              rw[List.getElem?_replicate,if_pos rh] at aD
              cases aD
              refine⟨_,Array.getElem?_eq_getElem (by rw[Nat.zero_add,az];simp;omega),trivial⟩,by rw[az];simp,by simpa using Gj,λj _ _ h=>by omega⟩
           refine⟨_,_,?_,fr μ H.n ⟨w.drew.drew.heap.size,0,cap⟩,_,rfl,⟨_,fs _ _ _,cap,rfl,Gj,by simp⟩,r1,bO.trans ah ah.drew bO.drew (bO.trans ah.drew Gl bO.drew r2)⟩
           rw[call _ (by rw[mV];simp[ql]) (NX mV)]
           have N5:¬((Int.ofNat n<0||Int.ofNat n>2^48)=true):=by
            have ad:(2:Int)^48=281474976710656:=by rfl
            have ar:Int.ofNat n=(n:Int):=rfl
            rw[ad,ar];simp only[Bool.or_eq_true,decide_eq_true_eq];omega
           have N6:(Question.extern "internal/bytealg.MakeNoZero.bytes" 0).forced=false:=rfl
           have yv:(Int.ofNat n).toNat=n:=rfl
           delta Extern.BytealgMakeNoZero.makeNoZero
           rw[N1]
           simp only[Sem.run_bind,aQ,Sem.run_pure,bx hu,Result.andThen_ok]
           rw[if_neg N5]
           simp only[Sem.run_bind,run_choose,yv,br,N6,Bool.false_eq_true,if_false,World.drew_eq,nJ,Result.andThen_ok,run_askRoom,l9,Sem.run_pure]
           rfl
         · cases h
       · cases h
     · cases h
   · cases h
 · rename_i x _
   obtain⟨u,us,rfl,aa,ad⟩:=aB
   cases ad
   split at h
   · rename_i mV
     cases h
     refine⟨u,w,?_,μ,u,rfl,aa,ah,bO.refl _ _ _⟩
     rw[call _ (by rw[mV];simp[ql]) (NW mV)]
     rfl
   · split at h
     · rename_i mV
       split at h
       · rename_i t r
         split at h
         · rename_i es c aj
           cases h
           obtain⟨y,rfl,i,ae,rfl⟩:=aa
           obtain⟨ents,aC,ax⟩:=ah.rel _ _ i aj ae
           have hle:=ah.mK ⟨w.heap.size,0,0⟩
           obtain⟨r1,r2⟩:=ah.alloc (.map es c) (.map ⟨ents⟩ c) 0 ⟨ents,World.heap_alloc_new _ _,ax.mono hle⟩
           refine⟨_,_,?_,fr μ H.n ⟨w.heap.size,0,0⟩,.iface _ (.map (some w.heap.size)),rfl,⟨.map (some w.heap.size),rfl,⟨w.heap.size,0,0⟩,fs _ _ _,rfl⟩,r1,r2⟩
           rw[call _ (by rw[mV];simp[ql]) (NZ mV)]
           have gi:(getObj i.a5).run P w=.ok (.map ⟨ents⟩ c) w:=by simp[getObj,Sem.run,aC]
           simp only[Sem.run_bind]
           rw[show(⟨[Value.iface _ (Value.map (some i.a5))]⟩:Array Value)=#[.iface _ (.map (some i.a5))] from rfl]
           delta Extern.MapsClone.clone
           rw[N2]
           simp only[Sem.run_bind,gi,Result.andThen_ok,run_newObj,Sem.run_pure]
           rfl
         · cases h
       · cases h
     · cases h
 · rename_i s c
   split at h
   · rename_i mV
     split at h
     · rename_i ag
       cases h
       have nE:c<256:=by simpa using ag
       obtain⟨u,us,rfl,aa,ad⟩:=aB
       obtain⟨nM,Xt,rfl,ar,aM⟩:=ad
       cases ar;cases aM
       obtain⟨t,rfl,rfl⟩:=aa
       refine⟨_,w,?_,μ,_,rfl,rfl,ah,bO.refl _ _ _⟩
       rw[call _ (by rw[mV];simp[ql]) (NY mV)]
       have l9:(Int.ofNat c).toNat.toUInt8=UInt8.ofNat c:=rfl
       have heq:∀b:UInt8,(b==UInt8.ofNat c)=Nat.beq b.toNat c:=λb=>by
        rw[Bool.eq_iff_iff,beq_iff_eq,Nat.beq_eq,<-UInt8.toNat_inj]
        simp[Nat.mod_eq_of_lt nE]
       delta Extern.BytealgIndexByte.indexByte
       rw[N3]
       simp only[Sem.run_bind,Extern.Bytes.bytesOf,Extern.Bytes.asByte,Sem.run_pure,Result.andThen_ok,l9,heq]
       have hf:=N0 t (λb=>Nat.beq b.toNat c)
       rw[hf,Gi]
       cases t.data.toList.findIdx? (λb=>Nat.beq b.toNat c) with
       |none=>rfl
       |some j=>
        simp only[Nat.zero_add]
        rfl
     · cases h
   · cases h
 · cases h
def kI(P:Program)(intr:Nat->List I->J->Option (I×J)):Prop:=
 ∀f args H v aO,intr f args H=some (v,aO)->∀μ w (vs:List Value),bc μ H w->gp P μ->bN μ args vs->tu P f vs w (Ends μ H w (.ret v aO))
theorem N7{call:aP->List I->J->av}(ag:kH P call)(hdr:∀need b4,qi P need b4 call)(eO:vM P)(qm:yu P){f:Nat}{args:List I}{H:J}(bJ:(pP P call f args H).j5=true)
  {μ:a8}{w:World}{vs:List Value}(ah:bc μ H w)(aj:gp P μ)(aB:bN μ args vs):tu P f vs w (Ends μ H w (pP P call f args H)):=by
 unfold pP at bJ⊢
 cases hf:P.funcs[f]? with
 |none=>rw[hf] at bJ;cases bJ
 |some fn=>
  rw[hf] at bJ
  simp only at bJ⊢
  cases af:fn.body with
  |none=>
   rw[af] at bJ
   simp only at bJ⊢
   cases ab:th P fn fn.name args H with
   |none=>rw[ab] at bJ;cases bJ
   |some p=>
    obtain⟨v,aO⟩:=p
    obtain⟨u,w',aa,ad⟩:=N4 hf af qm ab ah aB
    exact .inl ⟨u,w',aa,ad⟩
  |some c=>
   rw[af] at bJ
   simp only at bJ⊢
   obtain⟨vN,yq⟩:=eO f fn c hf af
   exact .inr ⟨Bj hf af yq _ _,NO ag hdr eO hf af aB ah aj bJ⟩
theorem Gm{intr:Nat->List I->J->Option (I×J)}(ae:kI P intr)(hdr:∀call,kH P call->∀need b4,qi P need b4 call)(eO:vM P)(qm:yu P):∀n,kH P (e4 P intr n)
 |0=>⟨λf args H aj=>(by cases aj),λl args H aj=>(by cases aj)⟩
 |n+1=>by
  have bg:=Gm ae hdr eO qm n
  refine⟨λf args H bJ μ w vs ah aj aB=>?_,λl args H bJ μ w i vs ah aj an aB=>?_⟩
  · simp only[e4] at bJ⊢
    cases ab:intr f args H with
    |some p=>
     obtain⟨v,aO⟩:=p
     exact ae f args H v aO ab μ w vs ah aj aB
    |none=>
     rw[ab] at bJ
     exact N7 bg (hdr _ bg) eO qm bJ ah aj aB
  · simp only[e4] at bJ⊢
    exact NS bg (hdr _ bg) bJ ah aj an aB
end
end aw
namespace aw
open Go
def rL(ops:Array Oper)(S:List Nat):List Nat->Prop
 |[]=>∀i,i<ops.size->i∈S
 |i::rest=>i<ops.size/\i∉S/\(∀o,ops[i]? =some o->∀e∈o.after,Region.binds .any e=true->e.on∈S)/\rL ops (i::S) rest
theorem filter_lt{p q:Nat->Bool}(Bs:∀x,q x=true->p x=true):∀(l:List Nat) {i:Nat},i∈l->p i=true->q i=false->(l.filter q).length<(l.filter p).length
 |[],i,h,_,_=>by cases h
 |a::l,i,h,a6,bh=>by
  have hle:∀l:List Nat,(l.filter q).length<=(l.filter p).length:=λl=>by
   induction l with
   |nil=>simp
   |cons b l bg=>
    simp only[List.filter_cons]
    cases af:q b with
    |true=>simp[Bs b af];exact bg
    |false=>cases p b<;>simp<;>omega
  rcases List.mem_cons.1 h with rfl|h
  · have:=hle l
    simp only[List.filter_cons,a6,bh,if_true,Bool.false_eq_true,if_false,List.length_cons];omega
  · have bg:=filter_lt Bs l h a6 bh
    simp only[List.filter_cons]
    cases af:q a with
    |true=>simp[Bs a af];exact bg
    |false=>cases p a<;>simp<;>omega
theorem N8{ops:Array Oper}(qn:∀o i,ops[i]? =some o->mI o i=true){listed:Array Bool}(br:listed.size=ops.size)(ai:Region.ready .any ops listed=[]):∀i,i<ops.size->listed.getD i true=true:=by
 intro i
 induction i using Nat.strongRecOn with
 |ind i bg=>
  intro ae
  cases an:listed.getD i true with
  |true=>rfl
  |false=>
   have a2:ops[i]? =some ops[i]:=Array.getElem?_eq_getElem ae
   have:i∈Region.ready .any ops listed:=mem_ready.2 ⟨an,ops[i],a2,λe he af=>by
    have:=qn _ _ a2
    unfold mI at this
    rw[List.all_eq_true] at this
    have ad:=this e (by simpa using he)
    simp only[af,Bool.not_true,Bool.false_or,Nat.blt_eq] at ad
    have ar:=bg e.on ad (by omega)
    have cj:e.on<listed.size:=by omega
    simp[cj] at ar⊢
    exact ar⟩
   rw[ai] at this;cases this
theorem Gn{ops:Array Oper}(qn:∀o i,ops[i]? =some o->mI o i=true):∀(fuel t:Nat) (listed:Array Bool) (S:List Nat),listed.size=ops.size->(∀i,i<ops.size->(listed.getD i true=true<->i∈S))->
  ((List.range ops.size).filter λi=>!listed.getD i true).length<=fuel->rL ops S (Region.linearise.go .any ops fuel t listed [])
 |0,t,listed,S,br,iv,hf=>by
  simp only[Region.linearise.go,List.reverse_nil,rL]
  intro i ae
  rw[<-iv i ae]
  have h0:((List.range ops.size).filter λi=>!listed.getD i true)=[]:=List.length_eq_zero_iff.1 (Nat.le_zero.1 hf)
  rw[List.filter_eq_nil_iff] at h0
  have:=h0 i (List.mem_range.2 ae)
  simpa using this
 |fuel+1,t,listed,S,br,iv,hf=>by
  simp only[Region.linearise.go]
  change rL ops S (match(Region.ready .any ops listed)[t %(Region.ready .any ops listed).length]? with
   |some i=>Region.linearise.go .any ops fuel (t/(Region.ready .any ops listed).length) (listed.setIfInBounds i true) [i]
   |none=>[].reverse)
  cases ae:(Region.ready .any ops listed)[t %(Region.ready .any ops listed).length]? with
  |none=>
   have rM:Region.ready .any ops listed=[]:=by
    cases ai:Region.ready .any ops listed with
    |nil=>rfl
    |cons x xs=>
     rw[ai] at ae
     have cj:t %(x::xs).length<(x::xs).length:=Nat.mod_lt _ (by simp)
     rw[List.getElem?_eq_getElem cj] at ae;cases ae
   simp only[List.reverse_nil,rL]
   exactλi h=>(iv i h).1 (N8 qn br rM i h)
  |some i=>
   simp only[]
   rw[linearise_go_acc,List.reverse_singleton,List.singleton_append]
   obtain⟨aa,o,ad,ar⟩:=mem_ready.1 (List.mem_of_getElem? ae)
   have cj:i<ops.size:=(Array.getElem?_eq_some_iff.1 ad).1
   have AH:i<listed.size:=by omega
   have rA:∀j d,(listed.setIfInBounds i true).getD j d=if j=i then true else listed.getD j d:=λj d=>by
    simp only[Array.getD_eq_getD_getElem?,Array.getElem?_setIfInBounds]
    by_cases e:i=j
    · subst e;simp[AH]
    · rw[if_neg e,if_neg (λh=>e h.symm)]
   refine⟨cj,λh=>?_,λo' g4 e he af=>?_,Gn qn fuel _ _ _ (by simpa using br) (λj aD=>?_) ?_⟩
   · have:=(iv i cj).2 h
     rw[aa] at this;cases this
   · rw[ad] at g4;cases g4
     have aM:=ar e he af
     have yw:e.on<listed.size:=by
      rcases Nat.lt_or_ge e.on listed.size with h|h
      · exact h
      · simp[Array.getElem?_eq_none h] at aM
     rw[<-iv e.on (by omega)]
     simp[yw] at aM⊢
     exact aM
   · rw[rA,List.mem_cons]
     by_cases e:j=i
     · simp[e]
     · rw[if_neg e,iv j aD];simp[e]
   · have Xu:((List.range ops.size).filter λj=>!(listed.setIfInBounds i true).getD j true).length<((List.range ops.size).filter λj=>!listed.getD j true).length:=
       filter_lt (λx ab=>by
        rw[rA] at ab
        by_cases e:x=i
        · rw[if_pos e] at ab;cases ab
        · rw[if_neg e] at ab;exact ab) _ (List.mem_range.2 cj) (by rw[aa];rfl) (by rw[rA,if_pos rfl];rfl)
     omega
theorem N9{ops:Array Oper}(qn:∀o i,ops[i]? =some o->mI o i=true)(t:Nat):rL ops [] (Region.schedule true ops t):=by
 simp only[Region.schedule,Bool.true_or,if_true,Region.linearise]
 refine Gn qn ops.size t _ [] (by simp) (λi ae=>by simp[ae]) ?_
 refine Nat.le_trans (List.length_filter_le _ _) (by simp)
section
variable {P:Program} {g f_:Operand->I}
theorem Bt{o:Option Operand}(h:∀x∈o.toArray,g x=f_ x):o.map g=o.map f_:=by
 cases o with
 |none=>rfl
 |some x=>simp[h x (by simp)]
theorem vT(o:Oper)(H:J)(h:∀x∈o.op.operands,g x=f_ x):ch P o g H=ch P o f_ H:=by
 obtain⟨dst,op,type,pos,after,guard⟩:=o
 have yx:∀ps:Array (Nat×Operand),(∀x∈ps.map (·.2),g x=f_ x)->(ps.toList.map λp=>(p.1,g p.2))=(ps.toList.map λp=>(p.1,f_ p.2)):=λps a6=>
  List.map_congr_left λp hm=>by rw[a6 p.2 (Array.mem_map.2 ⟨p,by simpa using hm,rfl⟩)]
 cases op<;>simp only[Op.operands] at h<;>unfold ch
 case build t ps=>simp only[yx ps λx ab=>h x (by simpa using ab)]
 case buildSlice t n ps=>simp only[yx ps λx ab=>h x (by simpa using ab)]
 case makeFunc fn first captured=>
  simp only[List.map_congr_left (l:=first.toList) λx ab=>h x (by simp at ab;simp[ab]),List.map_congr_left (l:=captured.toList) λx ab=>h x (by simp at ab;simp[ab])]
 case call c=>
  have aX:c.args.toList.map g=c.args.toList.map f_:=List.map_congr_left λx ab=>h x (by simp at ab;simp[Call.operands,ab])
  simp only[aX]
  cases ag:c.callee with
  |value f=>have hf:g f=f_ f:=h f (by simp[Call.operands,ag]);simp only[hf]
  |invoke r m=>have ai:g r=f_ r:=h r (by simp[Call.operands,ag]);simp only[ai]
  |builtin b=>rfl
 case defer c=>
  have aX:c.args.toList.map g=c.args.toList.map f_:=List.map_congr_left λx ab=>h x (by simp at ab;simp[Call.operands,ab])
  simp only[aX]
  cases ag:c.callee with
  |value f=>have hf:g f=f_ f:=h f (by simp[Call.operands,ag]);simp only[hf]
  |invoke r m=>rfl
  |builtin b=>rfl
 case makeMap t r=>cases r<;>simp_all
 case slice t x a9 ae mx=>
  have aC:a9.map g=a9.map f_:=Bt λy aU=>h y (by simp at aU;simp[aU])
  have ax:ae.map g=ae.map f_:=Bt λy aU=>h y (by simp at aU;simp[aU])
  have bp:mx.map g=mx.map f_:=Bt λy aU=>h y (by simp at aU;simp[aU])
  have ds:g x=f_ x:=h x (by simp)
  have hh:∀o:Option Operand,(o.map λo=>kindName (g o))=(o.map g).map kindName:=λo=>by cases o<;>rfl
  have hv:∀o:Option Operand,(o.map λo=>kindName (f_ o))=(o.map f_).map kindName:=λo=>by cases o<;>rfl
  simp only[aC,ax,bp,ds,hh,hv]
 all_goals (first|rfl|(simp_all;done))
theorem vU(o:Op)(b:Nat)(h:∀x∈o.operands,g x=f_ x):iN P o g b=iN P o f_ b:=by
 have yx:∀ps:Array (Nat×Operand),(∀x∈ps.map (·.2),g x=f_ x)->(ps.toList.map λp=>(p.1,g p.2))=(ps.toList.map λp=>(p.1,f_ p.2)):=λps a6=>
  List.map_congr_left λp hm=>by rw[a6 p.2 (Array.mem_map.2 ⟨p,by simpa using hm,rfl⟩)]
 cases o<;>simp only[Op.operands] at h<;>unfold iN
 case buildSlice t n ps=>simp only[yx ps λx ab=>h x (by simpa using ab)]
 case makeMap t r=>cases r<;>rfl
 all_goals (first|rfl|(simp_all;done))
theorem N_{o:Oper}{H aO:J}{v:I}(aq:kindOf P o.op=.pure)(h:ch P o g H=.val v aO):aO=H:=by
 have fN:∀{w:String} {x:Option I},e3 H w x=.val v aO->aO=H:=λ{w x} e=>by
  cases x with
  |none=>cases e
  |some y=>cases e;rfl
 obtain⟨dst,op,type,pos,after,guard⟩:=o
 cases op<;>simp only[kindOf] at aq<;>(try (cases aq;done))<;>unfold ch at h<;>simp only at h
 case move=>cases h;rfl
 case assign=>cases h;rfl
 case pick=>
  split at h
  · cases h;rfl
  · cases h;rfl
  · cases h
 case build=>
  repeat' (first|contradiction|(cases h;rfl)|(cases h;done)|split at h)
 case load=>
  repeat' (first|contradiction|(cases h;rfl)|(cases h;done)|exact fN h|split at h)
 case nilCheck=>repeat' (first|contradiction|(cases h;rfl)|(cases h;done)|exact fN h|split at h)
 case binOp=>exact fN h
 case unOp=>repeat' (first|contradiction|(cases h;rfl)|(cases h;done)|exact fN h|split at h)
 case convert s d x=>
  have df:∀e,P.underlying d≠some (.slice e):=λe he=>by rw[he] at aq;cases aq
  unfold fp at h
  repeat' (first|exact absurd (by assumption) (df _)|(cases h;rfl)|(cases h;done)|split at h)
 case makeInterface=>repeat' (first|contradiction|(cases h;rfl)|(cases h;done)|exact fN h|split at h)
 case makeFunc=>repeat' (first|contradiction|(cases h;rfl)|(cases h;done)|exact fN h|split at h)
 case makeMap r=>cases r<;>cases aq
 case slice=>exact fN h
 case fieldAddr=>repeat' (first|contradiction|(cases h;rfl)|(cases h;done)|exact fN h|split at h)
 case field=>repeat' (first|contradiction|(cases h;rfl)|(cases h;done)|exact fN h|split at h)
 case indexAddr=>repeat' (first|contradiction|(cases h;rfl)|(cases h;done)|exact fN h|split at h)
 case index=>repeat' (first|contradiction|(cases h;rfl)|(cases h;done)|exact fN h|split at h)
 case lookup=>exact fN h
 case typeAssert=>repeat' (first|contradiction|(cases h;rfl)|(cases h;done)|exact fN h|split at h)
 case extract=>repeat' (first|contradiction|(cases h;rfl)|(cases h;done)|exact fN h|split at h)
 case call c=>
  cases ag:c.callee with
  |value f=>rw[ag] at aq;cases aq
  |invoke r m=>rw[ag] at aq;cases aq
  |builtin b=>
   rw[ag] at aq h
   simp only at h
   cases b<;>simp only at aq<;>(try (cases aq;done))<;>unfold hg at h<;>simp only at h
   all_goals repeat' (first|contradiction|(cases h;rfl)|(cases h;done)|exact fN h|split at h)
end
end aw
namespace aw
open Go
def jE(ops:Array Oper)(S:List Nat)(j:Nat):Prop:=∀o,ops[j]? =some o->∀e∈o.after,Region.binds .any e=true->e.on∈S
def yy(ops:Array Oper)(S:List Nat):Prop:=∀j∈S,jE ops S j
def Sound(ops:Array Oper)(j m:Nat):Prop:=∀S,yy ops S->jE ops S j->∀b,Nat.testBit m b=true->b∈S
def vV(ops:Array Oper)(n:Nat)(fC:List Nat):Prop:=∀j,j<n->∃m,nth (n-1-j) fC=some m/\Sound ops j m
theorem Oa(a b:Nat)(h:Nat.testBit (1<<<a) b=true):b=a:=by
 rw[Nat.shiftLeft_eq,Nat.one_mul,Nat.testBit_two_pow] at h
 exact(of_decide_eq_true h).symm
theorem Gp{fC:List Nat}{n:Nat}:∀(l:List Edge) (s b:Nat),Nat.testBit (l.foldl (λs e=>match Region.binds .any e with
  |true=>s|||1<<<e.on|||(nth (n-1-e.on) fC).getD 0
  |false=>s) s) b=true->Nat.testBit s b=true\/∃e∈l,Region.binds .any e=true/\(b=e.on\/Nat.testBit ((nth (n-1-e.on) fC).getD 0) b=true)
 |[],s,b,h=>.inl h
 |e::l,s,b,h=>by
  rw[List.foldl_cons] at h
  rcases Gp l _ b h with h|⟨cx,aa,ad⟩
  · cases af:Region.binds .any e with
    |false=>rw[af] at h;exact .inl h
    |true=>
     rw[af] at h
     simp only[Nat.testBit_or,Bool.or_eq_true] at h
     rcases h with(h|h)|h
     · exact .inl h
     · exact .inr ⟨e,by simp,af,.inl (Oa _ _ h)⟩
     · exact .inr ⟨e,by simp,af,.inr h⟩
  · exact .inr ⟨cx,by simp[aa],ad⟩
theorem Ob{ops:Array Oper}{fC:List Nat}{n:Nat}{o:Oper}(a2:ops[n]? =some o)(af:mI o n=true)(hm:vV ops n fC):Sound ops n (u6 fC n o):=by
 intro S iv ai b h
 unfold u6 at h
 rw[<-Array.foldl_toList] at h
 rcases Gp _ _ _ h with h|⟨e,aa,ad,ar⟩
 · simp at h
 · have he:e∈o.after:=by simpa using aa
   have yw:=ai o a2 e he ad
   rcases ar with rfl|ar
   · exact yw
   · have cj:e.on<n:=by
       unfold mI at af
       rw[List.all_eq_true] at af
       have:=af e aa
       simpa[ad] using this
     obtain⟨m,Oc,Od⟩:=hm e.on cj
     rw[Oc] at ar
     exact Od S iv (iv _ yw) b ar
theorem vV.cons{ops:Array Oper}{fC:List Nat}{n m:Nat}(h:vV ops n fC)(hs:Sound ops n m):vV ops (n+1) (m::fC):=by
 intro j aD
 by_cases e:j=n
 · subst e;exact⟨m,by simp[nth],hs⟩
 · obtain⟨yr,aa,ad⟩:=h j (by omega)
   refine⟨yr,?_,ad⟩
   have:n+1-1-j=(n-1-j)+1:=by omega
   rw[this];exact aa
theorem Gq:∀(l:List Oper) (n:Nat) (loc:List (Nat×Acc)) (k:Nat) (o:Oper),l[k]? =some o->hr (l.take (k+1)) n loc=kt o (n+k) (hr (l.take k) n loc)
 |[],n,loc,k,o,h=>by simp at h
 |x::l,n,loc,0,o,h=>by simp at h;subst h;simp[hr]
 |x::l,n,loc,k+1,o,h=>by
  have ak:l[k]? =some o:=by simpa using h
  have bg:=Gq l (n+1) (kt x n loc) k o ak
  simp only[List.take_succ_cons,hr]
  rw[bg]
  have:n+1+k=n+(k+1):=by omega
  rw[this]
theorem vW{ops:Array Oper}:∀(l:List Oper) (n:Nat) (loc:List (Nat×Acc)) (fC:List Nat),(∀k,l[k]? =ops[n+k]?)->(∀s∈ev l n loc fC,mI s.o s.i=true)->vV ops n fC->∀(k:Nat) (o:Oper),l[k]? =some o->
  ∃s,(ev l n loc fC)[k]? =some s/\s.i=n+k/\s.o=o/\s.loc=hr (l.take k) n loc/\Sound ops (n+k) s.ek
 |[],n,loc,fC,an,he,hm,k,o,h=>by simp at h
 |x::l,n,loc,fC,an,he,hm,k,o,h=>by
  simp only[ev] at he⊢
  have ab:ops[n]? =some x:=by have:=an 0;simpa using this.symm
  have af:mI x n=true:=he ⟨n,x,u6 fC n x,loc⟩ (by simp)
  have hs:=Ob ab af hm
  cases k with
  |zero=>
   simp at h;subst h
   exact⟨_,rfl,rfl,rfl,rfl,hs⟩
  |succ k=>
   obtain⟨s,aa,ad,ar,aM,bS⟩:=vW l (n+1) (kt x n loc) (u6 fC n x::fC) (λj=>by have:=an (j+1);simp at this;rw[this];congr 1;omega) (λs hs=>he s (by simp[hs])) (hm.cons hs) k o (by simpa using h)
   exact⟨s,by simpa using aa,by omega,ar,by simpa[hr] using aM,by rw[show n+(k+1)=n+1+k by omega];exact bS⟩
theorem Bu:∀(l:List Oper) (n:Nat) (loc:List (Nat×Acc)) (fC:List Nat),(ev l n loc fC).length=l.length
 |[],_,_,_=>rfl
 |x::l,n,loc,fC=>by simp[ev,Bu l]
theorem tB{ops:Array Oper}:∀{l:List DStep},oI ops l=true->∀s∈l,mI s.o s.i=true
 |[],_,s,h=>by cases h
 |x::l,az,s,h=>by
  simp only[oI,Bool.and_eq_true] at az
  rcases List.mem_cons.1 h with rfl|h
  · exact az.1.1
  · exact tB az.2 s h
theorem Gr{ops:Array Oper}{s:DStep}:∀{l:List DStep},xP ops s l=true->∀bo∈l,(∃t,s.o.dst=some t/\t∈kx ops bo.o)\/(∃t,bo.o.dst=some t/\t∈kx ops s.o)->Nat.testBit bo.ek s.i=true
 |[],_,bo,h=>by cases h
 |x::l,az,bo,h=>by
  simp only[xP,Bool.and_eq_true] at az
  rcases List.mem_cons.1 h with rfl|h
  · intro aG
    have aa:=az.1
    split at aa
    · exact aa
    · rename_i ag
      exfalso
      rw[Bool.or_eq_false_iff] at ag
      rcases aG with⟨t,e,hm⟩|⟨t,e,hm⟩
      · have:=ag.1;rw[e] at this;simp[hm] at this
      · have:=ag.2;rw[e] at this;simp[hm] at this
  · exact Gr az.2 bo h
theorem Gs{ops:Array Oper}:∀{l:List DStep},oI ops l=true->∀(i j:Nat) (s bo:DStep),i<j->l[i]? =some s->l[j]? =some bo->(∃t,s.o.dst=some t/\t∈kx ops bo.o)\/(∃t,bo.o.dst=some t/\t∈kx ops s.o)->Nat.testBit bo.ek s.i=true
 |[],_,i,j,s,bo,_,h,_=>by simp at h
 |x::l,az,i,j,s,bo,qo,aa,ad=>by
  simp only[oI,Bool.and_eq_true] at az
  cases j with
  |zero=>omega
  |succ j=>
   have nX:l[j]? =some bo:=by simpa using ad
   cases i with
   |zero=>
    simp at aa;subst aa
    exact Gr az.1.2 bo (List.mem_of_getElem? nX)
   |succ i=>exact Gs az.2 i j s bo (by omega) (by simpa using aa) nX
structure rN where
 env:List I
 d:List bA
 q:bt
 h:J
 aY:List (Nat×Nat×J)
section
variable {P:Program} {need:Nat} {inR:Bool} {call:aP->List I->J->av} {ops:Array Oper} {r:aL} {cp:Nat}
def kJ(P:Program)(need:Nat)(r:aL)(s:DStep)(env:List I):Operand->I:=λx=>dk s.i env r (cw P need s.loc x)
inductive rO(P:Program)(need:Nat)(inR:Bool)(call:aP->List I->J->av)(ops:Array Oper)(r:aL)(cp:Nat)(s:DStep)(st:rN):rN->Prop where
 |tC (aq:kindOf P s.o.op=.alloc) (hw:dO (fL P need ops r s.i st.env s)=some false):rO P need inR call ops r cp s st {st with env:=.aK []::st.env}
 |alloc {v:I} {ob:ca} (aq:kindOf P s.o.op=.alloc) (hw:dO (fL P need ops r s.i st.env s)=some true) (aX:iN P s.o.op (kJ P need r s st.env) (cp+s.i)=some (v,ob)):
   rO P need inR call ops r cp s st {st with env:=v::st.env,h:=st.h.set (cp+s.i) (some ob)}
 |pure {v:I} {bn:List bA} {q':bt} {ak:J} (aq:kindOf P s.o.op=.pure) (he:dm P inR call (fL P need ops r s.i st.env s) s.o (kJ P need r s st.env) st.d st.q st.h=.ok v bn q' ak):
   rO P need inR call ops r cp s st {st with env:=v::st.env}
 |dI {v:I} {bn:List bA} {q':bt} {ak:J} (aq:kindOf P s.o.op=.dI) (a2:∀e m h0 l,st.aY=(e,m,h0)::l->Nat.testBit s.ek e=true)
   (he:dm P inR call (fL P need ops r s.i st.env s) s.o (kJ P need r s st.env) st.d st.q st.h=.ok v bn q' ak):rO P need inR call ops r cp s st ⟨v::st.env,bn,q',ak,(s.i,s.ek,st.h)::st.aY⟩
theorem Oe{s:DStep}{rest:List DStep}{st:rN}{x:At}(h:fq P need inR call ops r cp (s::rest) st.env st.d st.q st.h st.aY=x)(hf:∀w,x≠ .fail w):
  (∃bX,rO P need inR call ops r cp s st bX/\fq P need inR call ops r cp rest bX.env bX.d bX.q bX.h bX.aY=x)\/
  (kindOf P s.o.op=.dI/\(∀e m h0 l,st.aY=(e,m,h0)::l->Nat.testBit s.ek e=true)/\rest.all (λbo=>Nat.testBit bo.ek s.i)=true/\
   ∃v bn q' ak,dm P inR call (fL P need ops r s.i st.env s) s.o (kJ P need r s st.env) st.d st.q st.h=.bK v bn q' ak/\x=.bK v st.env bn q' ak ((s.i,s.ek,st.h)::st.aY)):=by
 simp only[fq] at h
 split at h
 · rename_i aq
   split at h
   · exact absurd h.symm (hf _)
   · rename_i hw;exact .inl ⟨_,.tC aq hw,h⟩
   · rename_i hw
     split at h
     · rename_i v ob aX;exact .inl ⟨_,.alloc aq hw aX,h⟩
     · exact absurd h.symm (hf _)
 · rename_i aq
   split at h
   · rename_i he;exact .inl ⟨_,.pure aq he,h⟩
   · exact absurd h.symm (hf _)
   · exact absurd h.symm (hf _)
 · rename_i aq
   split at h
   · exact absurd h.symm (hf _)
   · rename_i a2
     have g4:∀e m h0 l,st.aY=(e,m,h0)::l->Nat.testBit s.ek e=true:=λe m h0 l hs=>by rw[hs] at a2;exact a2
     split at h
     · rename_i he;exact .inl ⟨_,.dI aq g4 he,h⟩
     · rename_i he
       split at h
       · rename_i eO;exact .inr ⟨aq,g4,eO,_,_,_,_,he,h.symm⟩
       · exact absurd h.symm (hf _)
     · exact absurd h.symm (hf _)
theorem Gt:∀(l:List DStep) (st:rN) (x:At),fq P need inR call ops r cp l st.env st.d st.q st.h st.aY=x->(∀w,x≠ .fail w)->
  ∃(f:Nat->rN) (N:Nat),f 0=st/\N<=l.length/\(∀k s,k<N->l[k]? =some s->rO P need inR call ops r cp s (f k) (f (k+1)))/\
   ((N=l.length/\x=.ok (f N).env (f N).d (f N).q (f N).h (f N).aY)\/
    (∃s,l[N]? =some s/\kindOf P s.o.op=.dI/\(∀e m h0 l,(f N).aY=(e,m,h0)::l->Nat.testBit s.ek e=true)/\(∀k bo,N<k->l[k]? =some bo->Nat.testBit bo.ek s.i=true)/\
     ∃v bn q' ak,dm P inR call (fL P need ops r s.i (f N).env s) s.o (kJ P need r s (f N).env) (f N).d (f N).q (f N).h=.bK v bn q' ak/\x=.bK v (f N).env bn q' ak ((s.i,s.ek,(f N).h)::(f N).aY)))
 |[],st,x,h,hf=>⟨λ_=>st,0,rfl,Nat.le_refl _,λk s aq=>by omega,.inl ⟨rfl,h.symm⟩⟩
 |s::l,st,x,h,hf=>by
  rcases Oe h hf with⟨bX,aa,ad⟩|⟨aa,ad,ar,aM⟩
  · obtain⟨f,N,al,au,a7,b8⟩:=Gt l bX x ad hf
    refine⟨λk=>match k with|0=>st|k+1=>f k,N+1,rfl,by simpa using au,λk bo aq hs=>?_,?_⟩
    · cases k with
      |zero=>simp at hs;subst hs;simp only[Nat.zero_add,al];exact aa
      |succ k=>exact a7 k bo (by omega) (by simpa using hs)
    · rcases b8 with⟨aC,ax⟩|⟨s2,aC,ax,bp,ds,hh⟩
      · exact .inl ⟨by simp[aC],ax⟩
      · refine .inr ⟨s2,by simpa using aC,ax,bp,λk bo aq hs=>?_,hh⟩
        cases k with
        |zero=>omega
        |succ k=>exact ds k bo (by omega) (by simpa using hs)
  · refine⟨λ_=>st,0,rfl,by simp,λk s aq=>by omega,.inr ⟨s,rfl,aa,ad,λk bo aq hs=>?_,aM⟩⟩
    cases k with
    |zero=>omega
    |succ k=>
     rw[List.all_eq_true] at ar
     exact ar bo (List.mem_of_getElem? (by simpa using hs))
mutual
theorem beq_eq:∀(a c:I),I.beq a c=true->a=c
 |.bool a,c,h=>by
  cases c<;>simp only[I.beq] at h<;>first|(cases h;done)|(simp at h;subst h;rfl)
 |.int k n,c,h=>by
  cases c<;>simp only[I.beq] at h<;>first|(cases h;done)|(simp[cU] at h;obtain⟨rfl,rfl⟩:=h;rfl)
 |.str s,c,h=>by
  cases c<;>simp only[I.beq] at h<;>first|(cases h;done)|(rw[mN] at h;simp at h;subst h;rfl)
 |.bd,c,h=>by cases c<;>simp only[I.beq] at h<;>first|(cases h;done)|rfl
 |.ptr x y,c,h=>by
  cases c<;>simp only[I.beq] at h<;>first|(cases h;done)|(rw[Bool.and_eq_true,Nat.beq_eq,Nat.beq_eq] at h;obtain⟨rfl,rfl⟩:=h;rfl)
 |.a0,c,h=>by cases c<;>simp only[I.beq] at h<;>first|(cases h;done)|rfl
 |.slice x y z cap,c,h=>by
  cases c<;>simp only[I.beq] at h<;>(try (cases h;done))
  rename_i c5 Lr Xv Bv
  simp only[Bool.and_eq_true,Nat.beq_eq] at h
  obtain⟨⟨⟨rfl,rfl⟩,rfl⟩,h⟩:=h
  cases cap<;>cases Bv<;>simp only[cf.beq] at h<;>first|(cases h;done)|(rw[Nat.beq_eq] at h;subst h;rfl)|rfl
 |.gm,c,h=>by cases c<;>simp only[I.beq] at h<;>first|(cases h;done)|rfl
 |.map x,c,h=>by
  cases c<;>simp only[I.beq] at h<;>first|(cases h;done)|(rw[Nat.beq_eq] at h;subst h;rfl)
 |.eN,c,h=>by cases c<;>simp only[I.beq] at h<;>first|(cases h;done)|rfl
 |.fn x as bs,c,h=>by
  cases c<;>simp only[I.beq] at h<;>(try (cases h;done))
  simp only[Bool.and_eq_true,Nat.beq_eq] at h
  obtain⟨⟨rfl,aa⟩,ad⟩:=h
  rw[oV _ _ aa,oV _ _ ad]
 |.bQ x,c,h=>by
  cases c<;>simp only[I.beq] at h<;>first|(cases h;done)|(rw[Nat.beq_eq] at h;subst h;rfl)
 |.dW,c,h=>by cases c<;>simp only[I.beq] at h<;>first|(cases h;done)|rfl
 |.iface t v,c,h=>by
  cases c<;>simp only[I.beq] at h<;>(try (cases h;done))
  simp only[Bool.and_eq_true,Nat.beq_eq] at h
  obtain⟨rfl,aa⟩:=h
  rw[beq_eq _ _ aa]
 |.agg cs,c,h=>by
  cases c<;>simp only[I.beq] at h<;>(try (cases h;done))
  rw[oV _ _ h]
 |.aK cs,c,h=>by
  cases c<;>simp only[I.beq] at h<;>(try (cases h;done))
  rw[oV _ _ h]
 |.bad,c,h=>by cases c<;>simp only[I.beq] at h<;>cases h
theorem oV:∀(a c:List I),I.iM a c=true->a=c
 |[],[],_=>rfl
 |[],_::_,h=>by simp[I.iM] at h
 |_::_,[],h=>by simp[I.iM] at h
 |x::a,y::c,h=>by
  simp only[I.iM,Bool.and_eq_true] at h
  rw[beq_eq _ _ h.1,oV _ _ h.2]
end
end
end aw
