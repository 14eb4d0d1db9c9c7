/-
  THE ABSTRACT EVALUATOR (code, functions, rounds, calls): a deterministic semantics of loaded code, and the proof that its runs are runs of the program in the model, whatever the tape draws. No condition.
-/
import Derived.Test.YtlelojncabdnoaaDoorAeb
import Derived.Defers
import Derived.Laws.Externs
import Derived.Orders
set_option linter.unusedVariables false
set_option linter.unusedSimpArgs false
namespace aU
open Go
def iK(P:Program)(need:Nat)(ops:Array Oper):List Oper->List (Nat×Acc)->Nat->List Step
 |[],_,_=>[]
 |o::rest,loc,m=>
  match aliasOf o with
  |some (t,x)=>iK P need ops rest ((t,bM P need loc x)::loc) m
  |none=>⟨hg P need ops loc o,o,loc,m⟩::iK P need ops rest (fB o m loc) (m+1)
def hW(P:Program)(need:Nat)(ops:Array Oper):List Oper->List (Nat×Acc)->Nat->List (Nat×Acc)
 |[],loc,_=>loc
 |o::rest,loc,m=>
  match aliasOf o with
  |some (t,x)=>hW P need ops rest ((t,bM P need loc x)::loc) m
  |none=>hW P need ops rest (fB o m loc) (m+1)
theorem xo(P:Program)(need:Nat)(ops:Array Oper):∀(l:List Oper) (loc:List (Nat×Acc)) (st:List Step) (m:Nat),r4 P need ops l loc st m=⟨st.reverse++iK P need ops l loc m,hW P need ops l loc m⟩
 |[],loc,st,m=>by simp[r4,iK,hW]
 |o::rest,loc,st,m=>by
  unfold r4 iK hW
  cases aH:aliasOf o with
  |some p=>obtain⟨t,x⟩:=p;simp only[aH];exact xo P need ops rest _ st m
  |none=>simp only[aH];rw[xo P need ops rest];simp
section
variable {P:Program} {need:Nat}
theorem mz(t u:Nat)(a:Acc)(l:List (Nat×Acc)):gx t ((u,a)::l)=if t=u then some a else gx t l:=by
 rw[gx]
 by_cases h:t=u
 · subst h;simp
 · have:Nat.beq t u=false:=by
     cases ad:Nat.beq t u with
     |false=>rfl
     |true=>exact absurd (Nat.eq_of_beq_eq_true ad) h
   rw[this,if_neg h]
def Acc.below(m:Nat):Acc->Prop
 |.env j=>j<m
 |_=>True
theorem Lh{m:Nat}{env:List I}{r:aC}{v:I}{a:Acc}(h:a.below m):b9 (m+1) (v::env) r a=b9 m env r a:=by
 cases a with
 |env j=>
  simp only[Acc.below] at h
  have:m+1-1-j=(m-1-j)+1:=by omega
  simp only[b9,this,nth]
 |iF p=>rfl
 |val v=>rfl
theorem Li{m:Nat}{env:List I}{r:aC}{v:I}:b9 (m+1) (v::env) r (.env m)=v:=by
 simp[b9,nth]
def z8(m:Nat)(loc:List (Nat×Acc)):Prop:=∀t a,gx t loc=some a->a.below m
theorem sk{m:Nat}{loc:List (Nat×Acc)}(h:z8 m loc)(x:Operand):(bM P need loc x).below m:=by
 cases x with
 |tmp t=>
  simp only[bM]
  cases hf:gx t loc with
  |some a=>exact h t a hf
  |none=>simp only[];cases Nat.testBit need t<;>trivial
 |const v=>trivial
 |global g=>simp only[bM];cases Nat.blt g P.globals.size<;>trivial
 |func f=>trivial
theorem Acc.Eh{m n:Nat}(h:m<=n){a:Acc}(aH:a.below m):a.below n:=by
 cases a with
 |env j=>exact Nat.lt_of_lt_of_le aH h
 |iF p=>trivial
 |val v=>trivial
structure gL(P:Program)(need:Nat)(μ:aW)(r:aC)(m:Nat)(env:List I)(loc:List (Nat×Acc))(bC:Array Value):Prop where
 sl:z8 m loc
 rel:∀t,aS μ (b9 m env r (bM P need loc (.tmp t))) (bC.getD t undef)
theorem gL.mono{μ az:aW}{r:aC}{m:Nat}{env:List I}{loc:List (Nat×Acc)}{bC:Array Value}(hle:dm μ az)(h:gL P need μ r m env loc bC):gL P need az r m env loc bC:=⟨h.sl,λt=>(h.rel t).mono hle⟩
theorem gL.eval{μ:aW}{r:aC}{m:Nat}{env:List I}{loc:List (Nat×Acc)}{a:Act}(h:gL P need μ r m env loc a.tmps)(aj:fi P μ)(x:Operand):aS μ (b9 m env r (bM P need loc x)) (a.eval x):=by
 cases x with
 |tmp t=>exact h.rel t
 |const v=>exact iG μ v
 |global g=>
  simp only[bM,Act.eval]
  cases ad:Nat.blt g P.globals.size with
  |false=>exact trivial
  |true=>
   obtain⟨i,h1,aa,ao⟩:=aj g (by simpa using ad)
   obtain⟨fR,i0,uv⟩:=i
   simp only at aa ao
   subst aa;subst ao
   exact⟨_,h1,rfl⟩
 |func f=>exact⟨[],[],rfl,rfl,rfl⟩
theorem gL.init{μ:aW}{r:aC}{bC:Array Value}(h:gY need μ r bC):gL P need μ r 0 [] [] bC:=
 ⟨λt a h=>by simp[gx] at h,λt=>by
  simp only[bM,gx]
  cases ad:Nat.testBit need t with
  |true=>exact h t ad
  |false=>trivial⟩
theorem uD{bC:Array Value}{d t:Nat}{u:Value}(al:d<bC.size):(bC.setIfInBounds d u).getD t undef=if t=d then u else bC.getD t undef:=by
 simp only[Array.getD_eq_getD_getElem?,Array.getElem?_setIfInBounds]
 by_cases h:d=t
 · subst h;simp[al]
 · rw[if_neg h,if_neg (λe=>h e.symm)]
theorem gL.alias{μ:aW}{r:aC}{m:Nat}{env:List I}{loc:List (Nat×Acc)}{a:Act}(h:gL P need μ r m env loc a.tmps)(aj:fi P μ){t:Nat}(bd:t<a.tmps.size)(x:Operand):
  gL P need μ r m env ((t,bM P need loc x)::loc) (a.put (some t) (a.eval x)).tmps:=by
 refine⟨λu b hu=>?_,λu=>?_⟩
 · rw[mz] at hu
   split at hu
   · cases hu;exact sk h.sl x
   · exact h.sl u b hu
 · simp only[bM,mz,Act.put]
   rw[uD bd]
   by_cases e:u=t
   · simp only[e,if_true];exact h.eval aj x
   · simp only[e,if_false];exact h.rel u
theorem gL.step{μ:aW}{r:aC}{m:Nat}{env:List I}{loc:List (Nat×Acc)}{a:Act}(h:gL P need μ r m env loc a.tmps){o:Oper}(bd:∀t,o.dst=some t->t<a.tmps.size){v:I}{u:Value}(aI:aS μ v u):
  gL P need μ r (m+1) (v::env) (fB o m loc) (a.put o.dst u).tmps:=by
 have old:∀t,aS μ (b9 (m+1) (v::env) r (bM P need loc (.tmp t))) (a.tmps.getD t undef):=λt=>by
  rw[Lh (sk h.sl _)];exact h.rel t
 unfold fB
 cases al:o.dst with
 |none=>exact⟨λt b ad=>Acc.Eh (Nat.le_succ m) (h.sl t b ad),old⟩
 |some d=>
  refine⟨λt b ad=>?_,λt=>?_⟩
  · rw[mz] at ad
    split at ad
    · cases ad;exact Nat.lt_succ_self m
    · exact Acc.Eh (Nat.le_succ m) (h.sl t b ad)
  · simp only[Act.put]
    rw[uD (bd d al)]
    by_cases e:t=d
    · simp only[bM,mz,e,if_true,Li];exact aI
    · have:=old t
      simp only[bM,mz,e,if_false] at this⊢
      exact this
theorem Ei{ops:Array Oper}{bC:Array Value}{j t:Nat}(h:(ops[j]?).bind (·.dst)=some t):yielded ops bC j=match bC.getD t undef with
  |.bool b=>some b
  |_=>none:=by
 unfold yielded
 rw[h,Option.bind_some]
 rw[Array.getD_eq_getD_getElem?]
 cases af:bC[t]? with
 |none=>rfl
 |some v=>simp only[Option.getD_some];cases v<;>rfl
theorem Ej{μ:aW}{ops:Array Oper}{loc:List (Nat×Acc)}{o:Oper}{acc:Acc->I}{bC:Array Value}(jN:∀t,aS μ (acc (bM P need loc (.tmp t))) (bC.getD t undef))(kV:∀v,acc (.val v)=v):
  ∀kS,c8 (match hg P need ops loc o with|none=>none|some (a,b)=>some (acc a,b))=some kS->Region.wanted o (yielded ops bC)=kS:=by
 intro kS h
 unfold hg at h
 unfold Region.wanted
 cases aj:o.guard with
 |none=>rw[aj] at h;simp only[c8] at h;cases h;rfl
 |some p=>
  obtain⟨j,b⟩:=p
  rw[aj] at h
  simp only at h⊢
  cases bd:(ops[j]?).bind (·.dst) with
  |none=>rw[bd] at h;simp only[kV,c8] at h;cases h
  |some t=>
   rw[bd] at h
   simp only at h
   have ah:=jN t
   rw[Ei bd]
   generalize acc (bM P need loc (.tmp t))=v at h ah
   unfold c8 at h
   split at h
   · rename_i he;cases he
   · rename_i he;cases he;cases h
     have uE:bC.getD t undef=_:=ah
     rw[uE];rfl
   · rename_i he;cases he;cases h
     obtain⟨l,aq,kk⟩:=ah
     cases kk
     rw[aq];rfl
   · cases h
def z_:List Item->Prop
 |.call _ _ _ _::_=>False
 |_=>True
def kW(P:Program)(need bk:Nat)(μ:aW)(r:aC)(H:J)(w:World)(b:Frame)(k:List Item)(cs0:List Frame)(m0:Machine)(loc:List (Nat×Acc)):kL->Prop
 |.ok env d' aR ax=>∃az w' b1 bq,Steps P m0 (lone (b.atR b1 k) bq w')/\gL P need az r env.length env loc b1.tmps/\b1.tmps.size=bk/\a8 az ax w'/\bE μ H w az ax w'/\eb az d' b1.defers/\fE az b.kind cs0 aR bq
 |.bm v d' aR ax=>∃az w' b1 bq u cz,Steps P m0 (lone {b.atR b1 cz with mode:=.panicking [{v:=u,recovered:=false}]} bq w')/\z_ cz/\aS az v u/\
   (∀t,gx t loc=none->Nat.testBit need t=true->aS az (r.get (e2 t)) (b1.tmps.getD t undef))/\b1.tmps.size=bk/\a8 az ax w'/\bE μ H w az ax w'/\eb az d' b1.defers/\fE az b.kind cs0 aR bq
 |.fail _=>True
theorem kW.of_steps{bk:Nat}{μ dv:aW}{r:aC}{H H1:J}{w cK:World}{b:Frame}{k:List Item}{cs0:List Frame}{m0 m1:Machine}{loc:List (Nat×Acc)}{x:kL}(af:a8 μ H w)(ga:a8 dv H1 cK)(h:Steps P m0 m1)(aH:bE μ H w dv H1 cK)
  (h1:kW P need bk dv r H1 cK b k cs0 m1 loc x):kW P need bk μ r H w b k cs0 m0 loc x:=by
 cases x with
 |ok env d q ax=>
  obtain⟨az,w',b1,bq,s1,s2,bw,bG,bP,cn⟩:=h1
  exact⟨az,w',b1,bq,h.trans s1,s2,bw,bG,bE.trans af ga aH bP,cn⟩
 |bm v d q ax=>
  obtain⟨az,w',b1,bq,u,cz,s1,bb,s2,bw,bG,bP,cn,cP⟩:=h1
  exact⟨az,w',b1,bq,u,cz,h.trans s1,bb,s2,bw,bG,bP,bE.trans af ga aH cn,cP⟩
 |fail s=>trivial
theorem Aa{ops:Array Oper}:∀(l:List Oper) (loc:List (Nat×Acc)) (m t:Nat),gx t (hW P need ops l loc m)=none->gx t loc=none
 |[],loc,m,t,h=>h
 |o::rest,loc,m,t,h=>by
  unfold hW at h
  cases aH:aliasOf o with
  |some p=>
   obtain⟨u,x⟩:=p
   rw[aH] at h
   have:=Aa rest _ m t h
   rw[mz] at this
   split at this
   · cases this
   · exact this
  |none=>
   rw[aH] at h
   have:=Aa rest _ _ t h
   unfold fB at this
   split at this
   · rw[mz] at this
     split at this
     · cases this
     · exact this
   · exact this
theorem Ek{o:Oper}{t:Nat}{x:Operand}(h:aliasOf o=some (t,x)):o.guard=none/\o.dst=some t/\∀ρ,execOp ρ o=pure (.value (ρ x)):=by
 unfold aliasOf at h
 split at h
 · rename_i h1 aa ao;cases h;exact⟨h1,aa,λρ=>by simp[execOp,ao]⟩
 · rename_i h1 aa ao;cases h;exact⟨h1,aa,λρ=>by simp[execOp,ao]⟩
 · cases h
theorem qx(a:Act)(dst:Option Tmp)(u:Value):(a.put dst u).tmps.size=a.tmps.size:=by cases dst<;>simp[Act.put]
theorem xp{call:cM->List I->J->bL}(ab:ie P call){bk:Nat}{ops:Array Oper}(g_:∀o∈ops.toList,∀t,o.dst=some t->t<bk){b:Frame}{inR:Bool}(dU:inR=b.roundOf.isSome){r:aC}{k:List Item}{cs0:List Frame}:
  ∀(l:List Oper) (i0:Nat) (loc:List (Nat×Acc)) (m:Nat) (env:List I) (d:List bo) (q:aJ) (μ:aW) (H:J) (w:World) (a:Act) (cs:List Frame),ops.toList.drop i0=l->env.length=m->
   gL P need μ r m env loc a.tmps->a.tmps.size=bk->a8 μ H w->fi P μ->eb μ d a.defers->fE μ b.kind cs0 q cs->
   kW P need bk μ r H w b k cs0 (lone (b.atR a (.inRegion ops (List.range' i0 l.length)::k)) cs w) (hW P need ops l loc m) (gH P need inR call r (iK P need ops l loc m) env d q H)
 |[],i0,loc,m,env,d,q,μ,H,w,a,cs,aq,hm,km,bg,af,aj,al,bj=>by
  subst hm
  exact⟨μ,w,a,cs,.one stepR_region_end,km,bg,af,bE.refl _ _ _,al,bj⟩
 |o::rest,i0,loc,m,env,d,q,μ,H,w,a,cs,aq,hm,km,bg,af,aj,al,bj=>by
  have aN:ops[i0]? =some o:=by
   have:=congrArg List.head? aq
   simpa[List.head?_drop] using this
  have jm:ops.toList.drop (i0+1)=rest:=by
   have:=congrArg List.tail aq
   simpa[List.tail_drop] using this
  have mA:o∈ops.toList:=by
   rw[<-Array.getElem?_toList] at aN
   exact List.mem_of_getElem? aN
  have qy:∀t,o.dst=some t->t<a.tmps.size:=λt h=>by rw[bg];exact g_ o mA t h
  rw[List.length_cons,List.range'_succ]
  unfold iK hW
  cases aH:aliasOf o with
  |some p=>
   obtain⟨t,x⟩:=p
   simp only
   obtain⟨bl,a2,a3⟩:=Ek aH
   have hw:Region.wanted o (yielded ops a.tmps)=true:=by simp[Region.wanted,bl]
   have b0:=stepGR_op (P:=P) (b:=b) (a:=a) (k:=k) (cs:=cs) (w:=w) (rest:=List.range' (i0+1) rest.length) aN hw
   have kT:o.semAt b.roundOf a.eval=execOp a.eval o:=by
    refine Oper.semAt_eq _ _ _ λc e=>?_
    have:=a3 a.eval
    unfold aliasOf at aH
    rw[e] at aH
    split at aH
    · rename_i h;cases h
    · rename_i h;cases h
    · cases aH
   rw[kT] at b0
   obtain⟨g1,_⟩:=qv b0
   have ae:=g1 (a.eval x) w (by rw[a3];rfl)
   have hn:(b.atR a (.inRegion ops (i0::List.range' (i0+1) rest.length)::k)).finish (a.eval x)=b.atR (a.put (some t) (a.eval x)) (.inRegion ops (List.range' (i0+1) rest.length)::k):=by
    rw[Frame.finish_atR,aN]
    simp only[Option.bind_some,a2]
   rw[hn] at ae
   have a7:=xp (k:=k) ab g_ dU rest (i0+1) ((t,bM P need loc x)::loc) m env d q μ H w (a.put (some t) (a.eval x)) cs jm hm (km.alias aj (qy t a2) x) ((qx _ _ _).trans bg) af aj (by rw[put_defers];exact al) bj
   exact a7.of_steps af af ae (bE.refl _ _ _)
  |none=>
   simp only[gH]
   have et:=Ee (P:=P) ab af aj (b:=b) (a:=a) (ops:=ops) (i:=i0) (rest:=List.range' (i0+1) rest.length) (k:=k) (cs0:=cs0) (cs:=cs) aN (gd:=match hg P need ops loc o with|none=>none|some (x,c)=>some (b9 m env r x,c))
    (Ej (acc:=b9 m env r) km.rel (λv=>rfl)) (g:=λx=>b9 m env r (bM P need loc x)) (λx=>km.eval aj x) al bj dU
   generalize c5 P inR call (match hg P need ops loc o with|none=>none|some (x,c)=>some (b9 m env r x,c)) o (λx=>b9 m env r (bM P need loc x)) d q H=res at et⊢
   cases res with
   |ok v d' aR ax=>
    obtain⟨az,w',u,ig,bq,s1,s2,bw,bG,bP,cn⟩:=et
    have uF:=(km.mono bG.le).step (a:=a) (o:=o) qy s2
    have a7:=xp (k:=k) ab g_ dU rest (i0+1) (fB o m loc) (m+1) (v::env) d' aR az ax w' {tmps:=(a.put o.dst u).tmps,defers:=ig} bq jm (by simp[hm]) uF ((qx _ _ _).trans bg) bw (aj.mono bG.le) bP cn
    exact a7.of_steps af bw s1 bG
   |bm v d' aR ax=>
    obtain⟨az,w',u,s1,s2,bw,bG,bP,cn⟩:=et
    refine⟨az,w',a,cs,u,_,s1,trivial,s2,λt bd aB=>?_,bg,bw,bG,bP,cn⟩
    have ay:=Aa (P:=P) (need:=need) (ops:=ops) rest _ _ t bd
    have h1:gx t loc=none:=by
     unfold fB at ay
     split at ay
     · rw[mz] at ay
       split at ay
       · cases ay
       · exact ay
     · exact ay
    have:=(km.mono bG.le).rel t
    simp only[bM,h1,aB,b9] at this
    exact this
   |fail s=>trivial
end
end aU
namespace aU
open Go
section
variable {P:Program} {need:Nat}
theorem El(need m:Nat)(env:List I)(ff:aC):∀(loc:List (Nat×Acc)) (r:aC) (t:Nat),Nat.testBit need t=true->
  (mc need m env ff loc r).get (e2 t)=match gx t loc with|some a=>b9 m env ff a|none=>r.get (e2 t)
 |[],r,t,bd=>rfl
 |(u,a)::l,r,t,bd=>by
  rw[mz]
  simp only[mc]
  by_cases e:t=u
  · subst e
    simp only[bd,if_true,aC.cv]
  · have a7:=El need m env ff l r t bd
    cases hu:Nat.testBit need u with
    |true=>simp only[aC.cv,if_neg e,a7]
    |false=>simp only[if_neg e,a7]
theorem Em:∀(loc:List (Nat×Acc)) (r:aC) (t:Nat),(r5 loc r).get (e2 t)=match gx t loc with|some a=>.bad|none=>r.get (e2 t)
 |[],r,t=>rfl
 |(u,a)::l,r,t=>by
  rw[mz]
  simp only[r5,aC.cv]
  by_cases e:t=u
  · simp only[e,if_true]
  · simp only[if_neg e,Em l r t]
theorem gL.outs{μ:aW}{r:aC}{m:Nat}{env:List I}{loc:List (Nat×Acc)}{bC:Array Value}(h:gL P need μ r m env loc bC):gY need μ (mc need m env r loc r) bC:=by
 intro t bd
 rw[El need m env r loc r t bd]
 have:=h.rel t
 simp only[bM,bd] at this
 cases hf:gx t loc with
 |some a=>rw[hf] at this;exact this
 |none=>rw[hf] at this;exact this
theorem qz{e:bh}{r:aC}{d:List bo}{q:aJ}{h:J}{f:aC->List bo->aJ->J->hP}(he:e≠ .nrm):nO (.ok e r d q h) f=.ok e r d q h:=by
 cases e<;>first|rfl|exact absurd rfl he
def o8(P:Program)(μ:aW)(m0:Machine)(b:Frame)(k:List Item)(cs:List Frame)(a:Act)(w:World):bh->Prop
 |.nrm=>Steps P m0 (lone (b.atR a k) cs w)
 |.exit id=>∃cz,exitTo id cz=exitTo id k/\Steps P m0 (lone (b.atR a (.code (.exit id)::cz)) cs w)
 |.ret=>∃cz,Steps P m0 (lone (b.atR a (.code .ret::cz)) cs w)
 |.goto _=>False
 |.bm v=>∃cz u,(aS μ v u/\z_ cz)/\Steps P m0 (lone {b.atR a cz with mode:=.panicking [{v:=u,recovered:=false}]} cs w)
theorem o8.of_steps{μ:aW}{m0 m1:Machine}{b:Frame}{k:List Item}{cs:List Frame}{a:Act}{w:World}{e:bh}(h:Steps P m0 m1)(ai:o8 P μ m1 b k cs a w e):o8 P μ m0 b k cs a w e:=by
 cases e with
 |nrm=>exact h.trans ai
 |exit id=>obtain⟨cz,h1,aa⟩:=ai;exact⟨cz,h1,h.trans aa⟩
 |ret=>obtain⟨cz,aa⟩:=ai;exact⟨cz,h.trans aa⟩
 |goto l=>exact ai
 |bm v=>obtain⟨cz,u,h1,aa⟩:=ai;exact⟨cz,u,h1,h.trans aa⟩
theorem o8.pass{μ:aW}{m0:Machine}{b:Frame}{x:Item}{k:List Item}{cs:List Frame}{a:Act}{w:World}{e:bh}(U:∀id,x≠ .inBlock id)(he:e≠ .nrm)(h:o8 P μ m0 b (x::k) cs a w e):o8 P μ m0 b k cs a w e:=by
 cases e with
 |nrm=>exact absurd rfl he
 |exit id=>
  obtain⟨cz,h1,aa⟩:=h
  refine⟨cz,h1.trans ?_,aa⟩
  cases x<;>first|rfl|exact absurd rfl (U _)
 |ret=>exact h
 |goto l=>exact h
 |bm v=>exact h
def jb(P:Program)(need bk:Nat)(μ:aW)(H:J)(w:World)(b:Frame)(k:List Item)(cs0:List Frame)(m0:Machine):hP->Prop
 |.ok e r' d' aR ax=>∃az w' b1 bq,o8 P az m0 b k bq b1 w' e/\gY need az r' b1.tmps/\b1.tmps.size=bk/\a8 az ax w'/\bE μ H w az ax w'/\eb az d' b1.defers/\fE az b.kind cs0 aR bq
 |.fail _=>True
theorem jb.of_steps{bk:Nat}{μ dv:aW}{H H1:J}{w cK:World}{b:Frame}{k:List Item}{cs0:List Frame}{m0 m1:Machine}{x:hP}(af:a8 μ H w)(ga:a8 dv H1 cK)(h:Steps P m0 m1)(aH:bE μ H w dv H1 cK)
  (h1:jb P need bk dv H1 cK b k cs0 m1 x):jb P need bk μ H w b k cs0 m0 x:=by
 cases x with
 |ok e r d q ax=>
  obtain⟨az,w',b1,bq,s1,s2,bw,bG,bP,cn⟩:=h1
  exact⟨az,w',b1,bq,s1.of_steps h,s2,bw,bG,bE.trans af ga aH bP,cn⟩
 |fail s=>trivial
def kX(μ:aW)(b:Frame):Option Nat->Prop
 |none=>b.roundOf=none
 |some l=>∃i,μ l=some i/\b.roundOf=some i.aT
theorem kX.mono{μ az:aW}(hle:dm μ az){b:Frame}{rd:Option Nat}(h:kX μ b rd):kX az b rd:=by
 cases rd with
 |none=>exact h
 |some l=>obtain⟨i,h1,aa⟩:=h;exact⟨i,hle _ _ h1,aa⟩
theorem kX.isSome{μ:aW}{b:Frame}{rd:Option Nat}(h:kX μ b rd):rd.isSome=b.roundOf.isSome:=by
 cases rd with
 |none=>have:b.roundOf=none:=h;simp[this]
 |some l=>obtain⟨i,h1,aa⟩:=h;simp[aa]
def jq(P:Program)(need bk:Nat)(call:cM->List I->J->bL):Prop:=
 ∀(ops:Array Oper) (id:Nat),(∀o∈ops.toList,∀t,o.dst=some t->t<bk)->nP ops (dR ops.toList 0 [] [])=true->
  ∀(b:Frame) (inR:Bool) (r:aC) (d:List bo) (q:aJ) (H:J) (μ:aW) (w:World) (a:Act) (k:List Item) (cs0 cs:List Frame),inR=b.roundOf.isSome->gY need μ r a.tmps->a.tmps.size=bk->a8 μ H w->fi P μ->eb μ d a.defers->fE μ b.kind cs0 q cs->
   kW P need bk μ r H w b k cs0 (lone (b.atR a (.code (.region id ops true)::k)) cs w) (hh ops.toList 0 []) (p9 P need inR call ops r d q H)
def En(P:Program)(need bk:Nat)(call:cM->List I->J->bL):Prop:=
 ∀(f:Operand) (ps:Array Nat) (as bS:Code),fg bk (.rangeFunc f ps as bS)=true->∀(b:Frame) (rd:Option Nat) (r:aC) (d:List bo) (q:aJ) (H:J) (μ:aW) (w:World) (a:Act) (k:List Item) (cs0 cs:List Frame),kX μ b rd->gY need μ r a.tmps->a.tmps.size=bk->a8 μ H w->fi P μ->eb μ d a.defers->fE μ b.kind cs0 q cs->
  jb P need bk μ H w b k cs0 (lone (b.atR a (.code (.rangeFunc f ps as bS)::k)) cs w) (cQ P need rd call (.rangeFunc f ps as bS) r d q H)
theorem Lj{b:Frame}{a:Act}{c:Code}{k:List Item}{cs:List Frame}{w:World}:step P (lone (b.atR a (.inScope c::k)) cs w)=.next (lone (b.atR a k) cs w):=
 step_lone_go (by simp[stepG,stepG.exec,Frame.atR])
theorem Eo{b:Frame}{a:Act}{c:Code}{k:List Item}{cs:List Frame}{w:World}:step P (lone (b.atR a (.code (.scope c)::k)) cs w)=.next (lone (b.atR a (.code c::.inScope c::k)) cs w):=
 step_lone_go (by simp[stepG,stepG.exec,Frame.atR])
theorem kW.code{bk:Nat}{μ:aW}{r:aC}{H:J}{w:World}{b:Frame}{k:List Item}{cs0:List Frame}{m0:Machine}{loc:List (Nat×Acc)}{x:kL}(h:kW P need bk μ r H w b k cs0 m0 loc x):
  jb P need bk μ H w b k cs0 m0 (kN need r loc x):=by
 cases x with
 |ok env d q ax=>
  obtain⟨az,w',b1,bq,s1,s2,bw,bG,bP,cn⟩:=h
  exact⟨az,w',b1,bq,s1,s2.outs,bw,bG,bP,cn⟩
 |bm v d q ax=>
  obtain⟨az,w',b1,bq,u,cz,s1,bb,s2,bw,bG,bP,cn,cP⟩:=h
  refine⟨az,w',b1,bq,⟨cz,u,⟨s2,bb⟩,s1⟩,λt bd=>?_,bG,bP,cn,cP⟩
  rw[Em]
  cases hf:gx t loc with
  |some x=>trivial
  |none=>exact bw t hf bd
 |fail s=>trivial
def Ep(P:Program)(need bk:Nat)(call:cM->List I->J->bL)(rd:Option Nat)(c:Code):Prop:=
 ∀(b:Frame) (r:aC) (d:List bo) (q:aJ) (H:J) (μ:aW) (w:World) (a:Act) (k:List Item) (cs0 cs:List Frame),kX μ b rd->gY need μ r a.tmps->a.tmps.size=bk->a8 μ H w->fi P μ->eb μ d a.defers->fE μ b.kind cs0 q cs->
  jb P need bk μ H w b k cs0 (lone (b.atR a (.code c::k)) cs w) (cQ P need rd call c r d q H)
theorem Er{bk:Nat}{call:cM->List I->J->bL}{rd:Option Nat}{c:Code}(fr:Ep P need bk call rd c)(b:Frame)(k:List Item)(cs0:List Frame):∀(n:Nat) (r:aC) (d:List bo) (q:aJ) (H:J) (μ:aW) (w:World) (a:Act) (cs:List Frame),kX μ b rd->gY need μ r a.tmps->a.tmps.size=bk->a8 μ H w->fi P μ->eb μ d a.defers->fE μ b.kind cs0 q cs->
  jb P need bk μ H w b k cs0 (lone (b.atR a (.code c::.inLoop c::k)) cs w) (mV (cQ P need rd call c) n r d q H)
 |0,r,d,q,H,μ,w,a,cs,bR,ah,bg,af,aj,al,bj=>trivial
 |n+1,r,d,q,H,μ,w,a,cs,bR,ah,bg,af,aj,al,bj=>by
  have h1:=fr b r d q H μ w a (.inLoop c::k) cs0 cs bR ah bg af aj al bj
  unfold mV
  cases U:cQ P need rd call c r d q H with
  |fail s=>trivial
  |ok e r' d' aR ax=>
   rw[U] at h1
   obtain⟨az,w',b1,bq,s1,s2,bw,bG,bP,cn,cP⟩:=h1
   by_cases he:e=.nrm
   · subst he
     have a7:=Er fr b k cs0 n r' d' aR ax az w' b1 bq (bR.mono bP.le) s2 bw bG (aj.mono bP.le) cn cP
     exact a7.of_steps af bG (Steps.trans s1 (.one stepR_inLoop)) bP
   · rw[qz he]
     exact⟨az,w',b1,bq,s1.pass (λid h=>by cases h) he,s2,bw,bG,bP,cn,cP⟩
theorem mB{bk:Nat}{call:cM->List I->J->bL}(ab:ie P call)(hdr:jq P need bk call)(i_:En P need bk call)(rd:Option Nat):∀(c:Code),fg bk c=true->Ep P need bk call rd c
 |.skip,_=>λb r d q H μ w a k cs0 cs bR ah bg af aj al bj=>⟨μ,w,a,cs,.one stepR_skip,ah,bg,af,bE.refl _ _ _,al,bj⟩
 |.label l,_=>λb r d q H μ w a k cs0 cs bR ah bg af aj al bj=>⟨μ,w,a,cs,.one stepR_label,ah,bg,af,bE.refl _ _ _,al,bj⟩
 |.exit id,_=>λb r d q H μ w a k cs0 cs bR ah bg af aj al bj=>⟨μ,w,a,cs,⟨k,rfl,Steps.refl _ _⟩,ah,bg,af,bE.refl _ _ _,al,bj⟩
 |.ret,_=>λb r d q H μ w a k cs0 cs bR ah bg af aj al bj=>⟨μ,w,a,cs,⟨k,Steps.refl _ _⟩,ah,bg,af,bE.refl _ _ _,al,bj⟩
 |.goto l,_=>λb r d q H μ w a k cs0 cs bR ah bg af aj al bj=>trivial
 |.refuse s,_=>λb r d q H μ w a k cs0 cs bR ah bg af aj al bj=>trivial
 |.region id ops draw,cD=>λb r d q H μ w a k cs0 cs bR ah bg af aj al bj=>by
  simp only[fg,Bool.and_eq_true,List.all_eq_true] at cD
  have g_:∀o∈ops.toList,∀t,o.dst=some t->t<bk:=λo aN t bd=>by
   have:=cD.1 o aN
   rw[bd] at this
   simpa using this
  cases draw with
  |false=>
   have h:=xp (P:=P) (need:=need) (k:=k) ab g_ (b:=b) (inR:=rd.isSome) bR.isSome (r:=r) (cs0:=cs0) ops.toList 0 [] 0 [] d q μ H w a cs rfl rfl (gL.init ah) bg af aj al bj
   have aq:List.range' 0 ops.toList.length=List.range ops.size:=by rw[List.range_eq_range'];simp
   rw[aq] at h
   have aa:=kW.code h
   have lI:j_ P need ops=⟨iK P need ops ops.toList [] 0,hW P need ops ops.toList [] 0⟩:=by
    unfold j_;rw[xo];simp
   simp only[cQ,lI]
   exact jb.of_steps af af (.one stepR_region) (bE.refl _ _ _) aa
  |true=>
   have Lk:nP ops (dR ops.toList 0 [] [])=true:=by simpa using cD.2
   have h:=hdr ops id g_ Lk b rd.isSome r d q H μ w a k cs0 cs bR.isSome ah bg af aj al bj
   simp only[cQ]
   exact kW.code h
 |.seq x y,cD=>λb r d q H μ w a k cs0 cs bR ah bg af aj al bj=>by
  simp only[fg,Bool.and_eq_true] at cD
  have h1:=mB ab hdr i_ rd x cD.1 b r d q H μ w a (.code y::k) cs0 cs bR ah bg af aj al bj
  simp only[cQ]
  cases U:cQ P need rd call x r d q H with
  |fail s=>trivial
  |ok e r' d' aR ax=>
   rw[U] at h1
   obtain⟨az,w',b1,bq,s1,s2,bw,bG,bP,cn,cP⟩:=h1
   by_cases he:e=.nrm
   · subst he
     have aa:=mB ab hdr i_ rd y cD.2 b r' d' aR ax az w' b1 k cs0 bq (bR.mono bP.le) s2 bw bG (aj.mono bP.le) cn cP
     exact aa.of_steps af bG (Steps.head stepR_seq s1) bP
   · rw[qz he]
     exact⟨az,w',b1,bq,(s1.pass (λid h=>by cases h) he).of_steps (.one stepR_seq),s2,bw,bG,bP,cn,cP⟩
 |.cond c x y,cD=>λb r d q H μ w a k cs0 cs bR ah bg af aj al bj=>by
  simp only[fg,Bool.and_eq_true] at cD
  simp only[cQ]
  have dr:=(gL.init (P:=P) ah).eval (a:=a) aj c
  split
  · rename_i ke
    rw[ke] at dr
    have h:=mB ab hdr i_ rd x cD.1 b r d q H μ w a k cs0 cs bR ah bg af aj al bj
    exact h.of_steps af af (.one (stepR_cond (t:=true) dr)) (bE.refl _ _ _)
  · rename_i ke
    rw[ke] at dr
    have h:=mB ab hdr i_ rd y cD.2 b r d q H μ w a k cs0 cs bR ah bg af aj al bj
    exact h.of_steps af af (.one (stepR_cond (t:=false) dr)) (bE.refl _ _ _)
  · trivial
 |.block id c,cD=>λb r d q H μ w a k cs0 cs bR ah bg af aj al bj=>by
  have h1:=mB ab hdr i_ rd c cD b r d q H μ w a (.inBlock id::k) cs0 cs bR ah bg af aj al bj
  simp only[cQ]
  cases U:cQ P need rd call c r d q H with
  |fail s=>trivial
  |ok e r' d' aR ax=>
   rw[U] at h1
   obtain⟨az,w',b1,bq,s1,s2,bw,bG,bP,cn,cP⟩:=h1
   cases e with
   |nrm=>exact⟨az,w',b1,bq,Steps.head stepR_block (Steps.trans s1 (.one stepR_inBlock)),s2,bw,bG,bP,cn,cP⟩
   |exit i=>
    obtain⟨cz,aw,ar⟩:=s1
    by_cases nY:i=id
    · simp only[nY,if_true]
      subst nY
      have bn:exitTo i cz=some k:=by rw[aw];simp[exitTo]
      exact⟨az,w',b1,bq,Steps.head stepR_block (Steps.trans ar (.one (stepR_exit bn))),s2,bw,bG,bP,cn,cP⟩
    · simp only[if_neg nY]
      have:(id==i)=false:=by simp;exactλh=>nY h.symm
      exact⟨az,w',b1,bq,⟨cz,aw.trans (by simp[exitTo,this]),Steps.head stepR_block ar⟩,s2,bw,bG,bP,cn,cP⟩
   |ret=>obtain⟨cz,ar⟩:=s1;exact⟨az,w',b1,bq,⟨cz,Steps.head stepR_block ar⟩,s2,bw,bG,bP,cn,cP⟩
   |goto l=>exact s1.elim
   |bm v=>obtain⟨cz,u,aw,ar⟩:=s1;exact⟨az,w',b1,bq,⟨cz,u,aw,Steps.head stepR_block ar⟩,s2,bw,bG,bP,cn,cP⟩
 |.loop c,cD=>λb r d q H μ w a k cs0 cs bR ah bg af aj al bj=>by
  have h:=Er (mB ab hdr i_ rd c cD) b k cs0 100000 r d q H μ w a cs bR ah bg af aj al bj
  simp only[cQ]
  exact h.of_steps af af (.one stepR_loop) (bE.refl _ _ _)
 |.scope c,cD=>λb r d q H μ w a k cs0 cs bR ah bg af aj al bj=>by
  have h1:=mB ab hdr i_ rd c cD b r d q H μ w a (.inScope c::k) cs0 cs bR ah bg af aj al bj
  simp only[cQ]
  cases U:cQ P need rd call c r d q H with
  |fail s=>trivial
  |ok e r' d' aR ax=>
   rw[U] at h1
   obtain⟨az,w',b1,bq,s1,s2,bw,bG,bP,cn,cP⟩:=h1
   by_cases he:e=.nrm
   · subst he
     exact⟨az,w',b1,bq,Steps.head Eo (Steps.trans s1 (.one Lj)),s2,bw,bG,bP,cn,cP⟩
   · exact⟨az,w',b1,bq,(s1.pass (λid h=>by cases h) he).of_steps (.one Eo),s2,bw,bG,bP,cn,cP⟩
 |.rangeFunc f ps as bS,cD=>λb r d q H μ w a k cs0 cs bR ah bg af aj al bj=>i_ f ps as bS cD b rd r d q H μ w a k cs0 cs bR ah bg af aj al bj
end
end aU
namespace aU
open Go
section
variable {P:Program} {need:Nat}
theorem Es{w ih:World}{cs:List Frame}{b:Frame}{a:Act}{l:Nat}{k:List Item}{s:Sem Next}{xq:Frame}
  (b0:(stepG P true {frame:=xq,callers:=cs,status:=.running,dying:=none} ih).bare=(stepG.apply P true (b.atR a (.inRangeFunc l::k)) cs none s w).bare):
  (∀v w',s.run P w=.ok (.value v) w'->Steps P (lone xq cs ih) (lone ((b.atR a (.inRangeFunc l::k)).finish v) cs w'))/\
  (∀f args w',s.run P w=.ok (.enter f args) w'->Steps P (lone xq cs ih) (lone (Frame.enter P f args .normal) (b.atR a (.inRangeFunc l::k)::cs) w'))/\
  (∀jP f tmps assign body w',s.run P w=.ok (.round jP f tmps assign body) w'->Steps P (lone xq cs ih) (lone (Frame.round jP f tmps assign body .normal) (b.atR a (.inRangeFunc l::k)::cs) w')):=by
 refine⟨λv w' ah=>.one (step_lone_go ?_),λf args w' ah=>.one (step_lone_go ?_),λl f tmps assign body w' ah=>.one (step_lone_go ?_)⟩
 · rw[b0];simp[stepG.apply,ah]
 · rw[b0];simp[stepG.apply,ah,Frame.atR]
 · rw[b0];simp[stepG.apply,ah]
theorem Et{b:Frame}{a:Act}{f:Operand}{ps:Array Nat}{as bS:Code}{k:List Item}{cs:List Frame}{w cK:World}{l:Nat}{mark:List Deferred}(he:(Instr.enterLoop b.fn a.tmps ps as bS b.roundOf).run P w=.ok (l,mark) cK):
  (stepG P true {frame:=b.atR a (.code (.rangeFunc f ps as bS)::k),callers:=cs,status:=.running,dying:=none} w).bare=
   (stepG.apply P true (b.atR {tmps:=a.tmps,defers:=mark++a.defers} (.inRangeFunc l::k)) cs none (do let d<-Deferred.ofValue (a.eval f) #[.func (.yield l) #[] #[]];invoke d.target d.args) cK).bare:=by
 have xr:=Frame.eval_atR b {tmps:=a.tmps,defers:=mark++a.defers} (.inRangeFunc l::k)
 simp only[Frame.atR] at xr
 have Ll:({tmps:=a.tmps,defers:=mark++a.defers}:Act).eval=a.eval:=funext λx=>by cases x<;>rfl
 simp only[stepG,stepG.exec,Frame.atR,Sem.runT_eq,he,GStep.bare_after]
 have Lm:resolve a.eval {callee:=.value f,args:=#[.const (.func (.yield l) #[] #[])],argTypes:=#[]} 0=Deferred.ofValue (a.eval f) #[.func (.yield l) #[] #[]]:=by simp[resolve,Act.eval]
 rw[xr,Ll,Lm]
theorem Eu{b:Frame}{a:Act}{l:Nat}{k:List Item}{cs:List Frame}{w w':World}{jump:Option Code}(he:(Instr.endLoop l).run P w=.ok jump w'):
  step P (lone (b.atR a (.endRangeFunc l::k)) cs w)=.next (lone (b.atR a ((jump.map Item.code).toList++k)) cs w'):=
 step_lone_go (by simp[stepG,stepG.exec,Frame.atR,Sem.runT_eq,he])
theorem Ev{bk:Nat}{b:Frame}{a:Act}{r:aC}{ps:Array Nat}{as bS:Code}(cD:fg bk as=true/\fg bk bS=true/\∀t∈ps.toList,t<bk){μ:aW}{H:J}{w:World}{rd:Option Nat}(bR:kX μ b rd)(ah:gY need μ r a.tmps)(bg:a.tmps.size=bk)(af:a8 μ H w)
  {d:List bo}(al:eb μ d a.defers){l:Nat}{d':List bo}{H1:J}
  (aq:l=me rd H.n)(he:tN need rd r ps.toList as bS d H=some (d',H1)):
  ∃az w' mark i,(Instr.enterLoop b.fn a.tmps ps as bS b.roundOf).run P w=.ok (i.aT,mark) w'/\az l=some i/\a8 az H1 w'/\bE μ H w az H1 w'/\eb az d' (mark++a.defers):=by
 subst bg
 unfold me at aq
 unfold tN at he
 cases rd with
 |none=>
  have ad:b.roundOf=none:=bR
  cases he
  obtain⟨aX,bx⟩:=af.alloc (.defrd (some [])) (.deferred (some [])) 0 ⟨[],World.heap_alloc_new _ _,rfl⟩
  have hu:eJ μ H.n ⟨w.heap.size,0,0⟩ H.n=some ⟨w.heap.size,0,0⟩:=e5 _ _ _
  have xt:=aX.mn ⟨(w.alloc (.deferred (some []))).heap.size,0,0⟩
  obtain⟨aK,a_⟩:=aX.alloc (.loop .ready none need r ps.toList as bS H.n) (.loop {state:=.ready,pending:=none,fn:=b.fn,tmps:=a.tmps,params:=ps,assign:=as,body:=bS,defers:=w.heap.size}) 0
   ⟨a.tmps,⟨w.heap.size,0,0⟩,b.fn,xt _ _ hu,World.heap_alloc_new _ _,ah.mono (bx.le.trans xt),cD.1,cD.2.1,cD.2.2⟩
  refine⟨_,_,[{target:=.collected w.heap.size,args:=#[]}],⟨(w.alloc (.deferred (some []))).heap.size,0,0⟩,?_,?_,aK,bE.trans af aX bx a_,⟨_,_,rfl,.collected _ ⟨w.heap.size,0,0⟩ (xt _ _ hu),al.mono (bx.le.trans xt)⟩⟩
  · rw[ad]
    simp only[Instr.enterLoop,Sem.run_bind,run_newObj,Result.andThen_ok,Sem.run_pure]
    rfl
  · rw[aq];exact e5 _ _ _
 |some fY=>
  obtain⟨j,aG,ad⟩:=bR
  simp only at aq he
  subst aq
  cases aj:H.get fY with
  |none=>rw[aj] at he;cases he
  |some Ab=>
  rw[aj] at he
  cases Ab<;>try (cases he;done)
  case loop nb Ew TS TT Ex Ey Ez ct=>
   cases he
   obtain⟨bC,f_,fn,aw,ar,_⟩:=af.rel _ _ j aj aG
   have hle:=af.mn ⟨w.heap.size,0,0⟩
   obtain⟨aK,a_⟩:=af.alloc (.loop .ready none need r ps.toList as bS ct) (.loop {state:=.ready,pending:=none,fn:=b.fn,tmps:=a.tmps,params:=ps,assign:=as,body:=bS,defers:=f_.aT}) 0
    ⟨a.tmps,f_,b.fn,hle _ _ aw,World.heap_alloc_new _ _,ah.mono hle,cD.1,cD.2.1,cD.2.2⟩
   refine⟨_,_,[],⟨w.heap.size,0,0⟩,?_,?_,aK,a_,al.mono hle⟩
   · rw[ad]
     have lR:(Instr.getLoop j.aT).run P w=.ok {state:=nb,pending:=Ew,fn:=fn,tmps:=bC,params:=⟨Ex⟩,assign:=Ey,body:=Ez,defers:=f_.aT} w:=by
      have:(getObj j.aT).run P w=.ok (.loop {state:=nb,pending:=Ew,fn:=fn,tmps:=bC,params:=⟨Ex⟩,assign:=Ey,body:=Ez,defers:=f_.aT}) w:=by simp[getObj,Sem.run,ar]
      simp only[Instr.getLoop,Sem.run_bind,this];rfl
     simp only[Instr.enterLoop,Sem.run_bind,lR,Result.andThen_ok,Sem.run_pure,run_newObj]
     rfl
   · exact e5 _ _ _
theorem EA{μ:aW}{H:J}{w:World}(af:a8 μ H w){l:Nat}{i:fl}(aq:μ l=some i){st:LoopState}{ey:Option Code}{du:Nat}{rg:aC}{ps:List Nat}{as bS:Code}{ct:Nat}(aj:H.get l=some (.loop st ey du rg ps as bS ct))(b0:st≠ .busy):
  ∃w',(Instr.endLoop i.aT).run P w=.ok ey w'/\a8 μ (H.set l (some (.loop .exhausted ey du rg ps as bS ct))) w'/\bE μ H w μ (H.set l (some (.loop .exhausted ey du rg ps as bS ct))) w':=by
 obtain⟨bC,f_,fn,aw,ar,bn⟩:=af.rel _ _ i aj aq
 have bN:=(af.lt _ _ aq).2
 obtain⟨aX,bx⟩:=af.update (w':={w with heap:=w.heap.setIfInBounds i.aT (.loop {state:=.exhausted,pending:=ey,fn:=fn,tmps:=bC,params:=⟨ps⟩,assign:=as,body:=bS,defers:=f_.aT})}) (o':=.loop .exhausted ey du rg ps as bS ct) aj rfl aq (by simp) (λr ah=>by simp[Array.getElem?_setIfInBounds];intro e;exact absurd e.symm ah) rfl rfl rfl
  ⟨bC,f_,fn,aw,by simp[bN],bn⟩
 refine⟨_,?_,aX,bx⟩
 have gZ:(getObj i.aT).run P w=.ok (.loop {state:=st,pending:=ey,fn:=fn,tmps:=bC,params:=⟨ps⟩,assign:=as,body:=bS,defers:=f_.aT}) w:=by simp[getObj,Sem.run,ar]
 have eB:(setObj i.aT (.loop {state:=.exhausted,pending:=ey,fn:=fn,tmps:=bC,params:=⟨ps⟩,assign:=as,body:=bS,defers:=f_.aT})).run P w=.ok () {w with heap:=w.heap.setIfInBounds i.aT (.loop {state:=.exhausted,pending:=ey,fn:=fn,tmps:=bC,params:=⟨ps⟩,assign:=as,body:=bS,defers:=f_.aT})}:=by simp[setObj,Sem.run,ar]
 have ad:(st==LoopState.busy)=false:=by cases st<;>first|rfl|exact absurd rfl b0
 simp only[Instr.endLoop,Instr.getLoop,Sem.run_bind,gZ,Result.andThen_ok,Sem.run_pure,ad,Bool.false_eq_true,if_false,eB]
theorem xu{bk:Nat}{call:cM->List I->J->bL}(ab:ie P call):En P need bk call:=by
 intro f ps as bS cD b rd r d q H μ w a k cs0 cs bR ah bg af aj al bj
 simp only[fg,Bool.and_eq_true,List.all_eq_true] at cD
 have qA:∀t∈ps.toList,t<bk:=λt bd=>by simpa using cD.1.1 t bd
 have dr:=(gL.init (P:=P) ah).eval (a:=a) aj f
 simp only[cQ]
 cases b0:tN need rd r ps.toList as bS d H with
 |none=>trivial
 |some p=>
  obtain⟨d',H1⟩:=p
  simp only
  obtain⟨dv,cK,mark,i,h1,aa,ao,aM,bA⟩:=Ev (P:=P) (b:=b) (a:=a) (ps:=ps) ⟨cD.1.2,cD.2,qA⟩ bR ah bg af al rfl b0
  have Ac:=dr.mono aM.le
  have Ad:=Et (P:=P) (f:=f) (k:=k) (cs:=cs) h1
  obtain⟨g1,g2,g3⟩:=Es Ad
  have ke:=zY (P:=P) (w:=cK) ao Ac (args:=[.bY (me rd H.n)]) (vs:=[.func (.yield i.aT) #[] #[]]) ⟨_,_,rfl,⟨i,aa,rfl⟩,rfl⟩
  have fin:∀(res:bL),nX P (lone (b.atR a (.code (.rangeFunc f ps as bS)::k)) cs w) (b.atR {tmps:=a.tmps,defers:=mark++a.defers} (.inRangeFunc i.aT::k)) cs (Ends dv H1 cK res)->
    jb P need bk μ H w b k cs0 (lone (b.atR a (.code (.rangeFunc f ps as bS)::k)) cs w) (mf (me rd H.n) r d' q res):=by
   intro res aq
   obtain⟨e,hD,dM,eY⟩:=aq
   cases res with
   |fail s=>trivial
   |bm v c6=>
    obtain⟨az,u,rfl,aK,a_,bO⟩:=dM
    exact⟨az,hD,{tmps:=a.tmps,defers:=mark++a.defers},cs,⟨.inRangeFunc i.aT::k,u,⟨aK,trivial⟩,eY⟩,ah.mono (aM.le.trans bO.le),bg,a_,bE.trans af ao aM bO,bA.mono bO.le,bj.mono (aM.le.trans bO.le)⟩
   |ret v c6=>
    obtain⟨az,u,rfl,aK,a_,bO⟩:=dM
    have hn:(b.atR {tmps:=a.tmps,defers:=mark++a.defers} (.inRangeFunc i.aT::k)).finish u=b.atR {tmps:=a.tmps,defers:=mark++a.defers} (.endRangeFunc i.aT::k):=rfl
    simp only[hn] at eY
    unfold mf
    simp only
    cases o9:c6.get (me rd H.n) with
    |none=>trivial
    |some Ab=>
     cases Ab<;>try trivial
     case loop st ey du rg uG oE oF ct=>
      simp only
      by_cases ad:st=.busy
      · subst ad;trivial
      · obtain⟨mC,aw,ar,bn⟩:=EA (P:=P) a_ (bO.le _ _ aa) o9 ad
        have gM:=Steps.trans eY (.one (Eu (b:=b) (a:={tmps:=a.tmps,defers:=mark++a.defers}) (k:=k) (cs:=cs) aw))
        have hle:=aM.le.trans (bO.le.trans bn.le)
        have ij:=bE.trans af a_ (bE.trans af ao aM bO) bn
        have done:∀(e:bh),o8 P az (lone (b.atR a (.code (.rangeFunc f ps as bS)::k)) cs w) b k cs {tmps:=a.tmps,defers:=mark++a.defers} mC e->
          jb P need bk μ H w b k cs0 (lone (b.atR a (.code (.rangeFunc f ps as bS)::k)) cs w) (.ok e r d' q (c6.set (me rd H.n) (some (.loop .exhausted ey du rg uG oE oF ct)))):=λe he=>
         ⟨az,mC,{tmps:=a.tmps,defers:=mark++a.defers},cs,he,ah.mono hle,bg,ar,ij,bA.mono (bO.le.trans bn.le),bj.mono hle⟩
        have TU:∀X:hP,(match st with|.busy=>hP.fail "" |_=>X)=X:=λX=>by cases st<;>first|rfl|exact absurd rfl ad
        cases st<;>first
         |exact absurd rfl ad
         |(cases ey with
          |none=>exact done .nrm gM
          |some c=>
           cases c<;>first
            |trivial
            |exact done .ret ⟨k,gM⟩
            |exact done (.exit _) ⟨k,rfl,gM⟩)
  cases EB:p8 (b9 0 [] r (bM P need [] f)) [.bY (me rd H.n)] H1 with
  |call g args ch=>
   rw[EB] at ke
   obtain⟨rfl,vs,aw,ar⟩:=ke
   simp only
   cases bI:(call (.fn g) args ch).jQ with
   |false=>obtain⟨s,ae⟩:=xm bI;rw[ae];trivial
   |true=>
    apply fin
    rcases ab.fn g args ch bI dv cK vs ao (aj.mono aM.le) ar with⟨v,w',aK,a_⟩|⟨aK,a_⟩
    · rw[<-aw] at aK
      exact⟨_,_,a_,g1 _ _ aK⟩
    · rw[<-aw] at aK
      exact(xk (xn bI) a_ _ _).of_steps (g2 _ _ _ aK)
  |bY l2 args ch=>
   rw[EB] at ke
   obtain⟨rfl,dy,vs,kk,aw,ar⟩:=ke
   simp only
   cases bI:(call (.bY l2) args ch).jQ with
   |false=>obtain⟨s,ae⟩:=xm bI;rw[ae];trivial
   |true=>
    apply fin
    obtain⟨Ae,tmps,oE,oF,aK,a_⟩:=ab.bY l2 args ch bI dv cK dy vs ao (aj.mono aM.le) kk ar
    rw[<-aw] at aK
    exact(a_ _ _).of_steps (g3 _ _ _ _ _ _ aK)
  |val v ch=>trivial
  |bm v ch=>trivial
  |lu x=>trivial
  |p2=>trivial
  |fail s=>trivial
end
end aU
namespace aU
open Go
section
variable {P:Program}
theorem Af:∀(l:List I) (i:Nat) (r:aC) (t:Nat),(mg i l r).get (e2 t)=if i<=t/\t<i+l.length then(l[t-i]?).getD .bad else r.get (e2 t)
 |[],i,r,t=>by
  simp only[mg,List.length_nil]
  rw[if_neg (by omega)]
 |v::l,i,r,t=>by
  simp only[mg,Af l (i+1),aC.cv,List.length_cons]
  by_cases h:i+1<=t/\t<i+1+l.length
  · rw[if_pos h,if_pos (by omega)]
    have:t-i=(t-(i+1))+1:=by omega
    rw[this];simp
  · rw[if_neg h]
    by_cases e:t=i
    · subst e;rw[if_pos rfl,if_pos (by omega)];simp
    · rw[if_neg e,if_neg (by omega)]
theorem EC{need:Nat}{μ:aW}{args:List I}{vs:List Value}(h:bD μ args vs)(n:Nat):gY need μ (mg 0 args .leaf) (⟨vs⟩++Array.replicate n undef):=by
 intro t _
 rw[Af]
 have aq:=h.length
 by_cases bd:t<args.length
 · rw[if_pos (by omega)]
   simp only[Nat.sub_zero]
   obtain⟨v,aI,ah⟩:=h.get (List.getElem?_eq_getElem bd)
   rw[List.getElem?_eq_getElem bd]
   rw[Array.getD_eq_getD_getElem?,Array.getElem?_append_left (by simp;omega)]
   simp only[List.getElem?_toArray,aI,Option.getD_some]
   exact ah
 · rw[if_neg (by omega),aC.lD];trivial
theorem Ln{need:Nat}{μ:aW}{H:J}{w:World}(af:a8 μ H w){r:aC}{bC:Array Value}(ah:gY need μ r bC){x:ResultVar}{v:I}(h:oB P need r H x=some v):
  ∃u,((match x with|.tmp t=>pure (bC.getD t undef)|.cell a t=>do loadVar t (<-asAddr (bC.getD a undef)):Sem Value)).run P w=.ok u w/\aS μ v u:=by
 unfold oB at h
 cases x with
 |tmp t=>
  simp only at h
  split at h
  · rename_i ad;cases h;exact⟨_,rfl,ah t ad⟩
  · cases h
 |cell t ty=>
  simp only at h
  split at h
  · rename_i ad
    have h1:=ah t ad
    split at h
    · rename_i b off n aZ aH aB
      rw[aZ] at h1
      obtain⟨i,ag,aI⟩:=h1
      split at h
      · rename_i cs aq
        cases h
        obtain⟨us,aK,a_⟩:=oM (P:=P) af ag aq
        refine⟨.agg ⟨us⟩,?_,us,rfl,a_⟩
        simp[aI,asAddr,loadVar,qg aH,run_sizeOf aB,aK]
      · cases h
    · rename_i b off aZ aH
      rw[aZ] at h1
      obtain⟨i,ag,aI⟩:=h1
      obtain⟨u,aK,a_⟩:=zn (P:=P) af ag h
      refine⟨u,?_,a_⟩
      simp only[aI,asAddr,loadVar,Sem.run_bind,Sem.run_pure,Result.andThen_ok,qg aH,Bool.false_eq_true,if_false,aK]
    · cases h
  · cases h
theorem Ag{need:Nat}{μ:aW}{H:J}{w:World}(af:a8 μ H w){r:aC}{bC:Array Value}(ah:gY need μ r bC):∀(l:List ResultVar) (vs:List I),ly (oB P need r H) l=some vs->
  ∃us:List Value,(l.mapM (λx=>(match x with|.tmp t=>pure (bC.getD t undef)|.cell a t=>do loadVar t (<-asAddr (bC.getD a undef)):Sem Value))).run P w=.ok us w/\bD μ vs us
 |[],vs,h=>by cases h;exact⟨[],rfl,rfl⟩
 |x::l,vs,h=>by
  simp only[ly] at h
  split at h
  · rename_i v xv h1 aa
    cases h
    obtain⟨u,aK,a_⟩:=Ln af ah h1
    obtain⟨us,bO,kO⟩:=Ag af ah l xv aa
    refine⟨u::us,?_,⟨_,_,rfl,a_,kO⟩⟩
    rw[List.mapM_cons]
    simp only[Sem.run_bind]
    rw[aK]
    simp only[Result.andThen_ok,Sem.run_bind,bO,Sem.run_pure]
  · cases h
theorem ED{need:Nat}{μ:aW}{H:J}{w:World}(af:a8 μ H w){fn:Func}{r:aC}{bC:Array Value}(ah:gY need μ r bC){v:I}(h:mh P need fn r H=some v):
  ∃u,(results fn bC).run P w=.ok u w/\aS μ v u:=by
 unfold mh at h
 have eQ:∀us:List Value,(fn.results.toList.mapM (λx=>(match x with|.tmp t=>pure (bC.getD t undef)|.cell a t=>do loadVar t (<-asAddr (bC.getD a undef)):Sem Value))).run P w=.ok us w->
   (results fn bC).run P w=.ok (if h:(⟨us⟩:Array Value).size=1 then(⟨us⟩:Array Value)[0] else .tuple ⟨us⟩) w:=by
  intro us kg
  have hm:(fn.results.mapM (λx=>(match x with|.tmp t=>pure (bC.getD t undef)|.cell a t=>do loadVar t (<-asAddr (bC.getD a undef)):Sem Value))).run P w=.ok ⟨us⟩ w:=by
   rw[Array.mapM_eq_mapM_toList]
   simp only[map_eq_pure_bind,Sem.run_bind]
   rw[kg];rfl
  unfold results
  simp only[Sem.run_bind]
  refine Eq.trans (congrArg (λq=>Result.andThen q _) hm) ?_
  rfl
 split at h
 · rename_i v' aH
   cases h
   obtain⟨us,aK,a_⟩:=Ag af ah _ _ aH
   obtain⟨u,mr,rfl,bO,kO⟩:=a_
   cases kO
   exact⟨_,eQ _ aK,bO⟩
 · rename_i vs cj aH
   cases h
   obtain⟨us,aK,a_⟩:=Ag af ah _ _ aH
   refine⟨_,eQ _ aK,?_⟩
   have:¬((⟨us⟩:Array Value).size=1):=by
    intro e
    have aq:=a_.length
    have b_:us.length=1:=e
    rw[b_] at aq
    obtain⟨x,U⟩:=List.length_eq_one_iff.1 aq
    exact cj x U
   rw[dif_neg this]
   exact⟨us,rfl,a_⟩
 · cases h
theorem EE{call:cM->List I->J->bL}(ab:ie P call)(hdr:∀need bk,jq P need bk call){f:FuncId}{fn:Func}(hf:P.funcs[f]? =some fn){kind:CallKind}{c:Code}(ad:fn.body=some c)(cD:fg fn.ntmps c=true)
  {args:List I}{vs:List Value}{q:aJ}{H:J}{μ:aW}{w:World}{cs0 cs:List Frame}(aI:bD μ args vs)(af:a8 μ H w)(aj:fi P μ)(bj:fE μ kind cs0 q cs):
  jb P (bH fn) fn.ntmps μ H w {(default:Frame) with fn:=f,kind:=kind} [] cs0 (lone (Frame.enter P f ⟨vs⟩ kind) cs w) (iX P call fn args q H):=by
 unfold iX
 rw[ad]
 simp only
 cases hle:Nat.ble args.length fn.ntmps with
 |false=>trivial
 |true=>
  have w6:args.length<=fn.ntmps:=by simpa using hle
  have hlen:=aI.length
  simp only
  have Ah:Frame.enter P f ⟨vs⟩ kind=({(default:Frame) with fn:=f,kind:=kind}:Frame).atR {tmps:=⟨vs⟩++Array.replicate (fn.ntmps-vs.length) undef,defers:=[]} [.code c]:=by
   simp[Frame.enter,Frame.atR,hf,ad]
   rfl
  rw[Ah]
  exact mB ab (hdr _ _) (xu ab) none c cD {(default:Frame) with fn:=f,kind:=kind} (mg 0 args .leaf) [] q H μ w {tmps:=⟨vs⟩++Array.replicate (fn.ntmps-vs.length) undef,defers:=[]} [] cs0 cs rfl (EC aI _) (by simp;omega) af aj rfl bj
def sm(P:Program):Prop:=∀(g:FuncId) (fZ:Func) (gc:Code),P.funcs[g]? =some fZ->fZ.body=some gc->fg fZ.ntmps gc=true/\(fZ.name== "runtime.NumGoroutine")=false
theorem uH{f:FuncId}{fn:Func}{c:Code}(hf:P.funcs[f]? =some fn)(ad:fn.body=some c)(aB:(fn.name== "runtime.NumGoroutine")=false)(args:Array Value)(w:World):(callFunc f args).run P w=.ok (.enter f args) w:=by
 have kn:¬fn.name= "runtime.NumGoroutine" :=by simpa using aB
 simp[callFunc,hf,kn,ad]
def kY(μ:aW):Option I->FrameMode->Prop
 |none,m=>m=.returning
 |some v,m=>∃u,m=.panicking [{v:=u,recovered:=false}]/\aS μ v u
theorem kY.mono{μ az:aW}(hle:dm μ az){dS:Option I}{m:FrameMode}(h:kY μ dS m):kY az dS m:=by
 cases dS with
 |none=>exact h
 |some v=>obtain⟨u,h1,aa⟩:=h;exact⟨u,h1,aa.mono hle⟩
theorem kY.run{μ:aW}{dS:Option I}{m:FrameMode}(h:kY μ dS m):m≠ .run:=by
 cases dS with
 |none=>intro e;cases h.symm.trans e
 |some v=>obtain⟨u,h1,_⟩:=h;intro e;cases h1.symm.trans e
theorem kY.q{μ:aW}{dS:Option I}{c:Frame}{cs:List Frame}(h:kY μ dS c.mode):fE μ .deferred (c::cs) (oC dS) (c::cs):=by
 cases dS with
 |none=>
  refine⟨rfl,λca hk=>?_⟩
  have ai:c.mode=.returning:=h
  simp only[tryRecover,hk,ai]
 |some v=>obtain⟨u,h1,aa⟩:=h;exact⟨rfl,rfl,c,cs,u,rfl,h1,aa⟩
theorem Lo{μ:aW}{H:J}{w:World}(af:a8 μ H w){r:Nat}{i:fl}(ag:μ r=some i){cs:List bo}(aj:H.get r=some (.defrd (some cs))):
  ∃w' l,(Instr.takeDeferred i.aT).run P w=.ok l w'/\eb μ cs l/\a8 μ (H.set r (some (.defrd none))) w'/\bE μ H w μ (H.set r (some (.defrd none))) w':=by
 obtain⟨l,aw,ar⟩:=af.rel _ _ i aj ag
 have bN:=(af.lt _ _ ag).2
 obtain⟨aX,bx⟩:=af.update (w':={w with heap:=w.heap.setIfInBounds i.aT (.deferred none)}) (o':=.defrd none) aj rfl ag (by simp) (λr ah=>by simp[Array.getElem?_setIfInBounds];intro e;exact absurd e.symm ah) rfl rfl rfl
  (show({w with heap:=w.heap.setIfInBounds i.aT (.deferred none)}:World).heap[i.aT]? =some (.deferred none) by simp[bN])
 refine⟨_,l,?_,ar,aX,bx⟩
 have gZ:(getObj i.aT).run P w=.ok (.deferred (some l)) w:=by simp[getObj,Sem.run,aw]
 have eB:(setObj i.aT (.deferred none)).run P w=.ok () {w with heap:=w.heap.setIfInBounds i.aT (.deferred none)}:=by simp[setObj,Sem.run,aw]
 simp only[Instr.takeDeferred,Sem.run_bind,gZ,Result.andThen_ok,eB,Sem.run_pure]
end
end aU
namespace aU
open Go
section
variable {P:Program}
theorem step_take{ca:Frame}{cs:List Frame}{w w':World}{b:Nat}{args:Array Value}{ds calls:List Deferred}(hm:ca.mode≠ .run)(al:ca.defers={target:=.collected b,args:=args}::ds)(bd:(Instr.takeDeferred b).run P w=.ok calls w'):
  step P (lone ca cs w)=.next (lone {ca with defers:=calls++ds} cs w'):=by
 refine step_lone_go ?_
 cases Ai:ca.mode with
 |run=>exact absurd Ai hm
 |returning=>simp[stepG,unwind,Ai,al,Sem.runT_eq,bd]
 |panicking chain=>simp[stepG,unwind,Ai,al,Sem.runT_eq,bd]
theorem Ends.trans{μ dv:aW}{H H1:J}{w cK:World}{x:bL}{e:Ending}{w':World}(af:a8 μ H w)(ga:a8 dv H1 cK)(aH:bE μ H w dv H1 cK)(h:Ends dv H1 cK x e w'):Ends μ H w x e w':=by
 cases x with
 |ret v ax=>obtain⟨az,u,h1,aa,ao,aM⟩:=h;exact⟨az,u,h1,aa,ao,bE.trans af ga aH aM⟩
 |bm v ax=>obtain⟨az,u,h1,aa,ao,aM⟩:=h;exact⟨az,u,h1,aa,ao,bE.trans af ga aH aM⟩
 |fail s=>trivial
theorem xw{call:cM->List I->J->bL}(ab:ie P call)(hdr:∀need bk,jq P need bk call)(dn:sm P){need:Nat}{fn:Func}{r:aC}:
  ∀(k:Nat) (dS:Option I) (ds:List bo) (H:J) (μ:aW) (w:World) (ca:Frame) (cs:List Frame),(gJ P call need fn r k dS ds H).jQ=true->a8 μ H w->fi P μ->gY need μ r ca.tmps->P.funcs[ca.fn]? =some fn->ca.kind=.normal->
   eb μ ds ca.defers->kY μ dS ca.mode->∃e w' Aj,Ends μ H w (gJ P call need fn r k dS ds H) e w'/\Steps P (lone ca cs w) (lone Aj cs w')/\Aj.fn=ca.fn/\Aj.leaving P w' e
 |0,dS,ds,H,μ,w,ca,cs,bI,af,aj,ah,hf,hk,al,aZ=>by cases bI
 |k+1,dS,[],H,μ,w,ca,cs,bI,af,aj,ah,hf,hk,al,aZ=>by
  have nZ:ca.defers=[]:=al
  cases dS with
  |none=>
   simp only[gJ] at bI⊢
   cases eQ:mh P need fn r H with
   |none=>rw[eQ] at bI;cases bI
   |some v=>
    obtain⟨u,aK,a_⟩:=ED (P:=P) af ah eQ
    exact⟨.returned u,w,ca,⟨μ,u,rfl,a_,af,bE.refl _ _ _⟩,Steps.refl _ _,rfl,aZ,nZ,hk,fn,hf,aK⟩
  |some v=>
   obtain⟨u,h1,aa⟩:=aZ
   exact⟨.panicked _,w,ca,⟨μ,u,rfl,aa,af,bE.refl _ _ _⟩,Steps.refl _ _,rfl,h1,nZ,fn,hf⟩
 |k+1,dS,.collected b::ds,H,μ,w,ca,cs,bI,af,aj,ah,hf,hk,al,aZ=>by
  obtain⟨o3,dl,ux,h1,aa⟩:=al
  cases h1 with
  |collected _ i ag=>
  simp only[gJ] at bI⊢
  cases kZ:H.get b with
  |none=>rw[kZ] at bI;cases bI
  |some o=>
   rw[kZ] at bI
   cases o<;>try (cases bI;done)
   case defrd calls=>
    cases calls with
    |none=>cases bI
    |some Lp=>
     simp only at bI⊢
     obtain⟨w',l,aw,ar,bn,cR⟩:=Lo (P:=P) af ag kZ
     have ae:=step_take (cs:=cs) aZ.run ux aw
     obtain⟨e,cf,ik,aX,bx,db,dc⟩:=xw ab hdr dn k dS (Lp++ds) _ μ w' {ca with defers:=l++dl} cs bI bn aj ah hf hk (ar.append aa) aZ
     refine⟨e,cf,ik,?_,Steps.head ae bx,db,dc⟩
     exact Ends.trans af bn cR aX
 |k+1,dS,.call g args::ds,H,μ,w,ca,cs,bI,af,aj,ah,hf,hk,al,aZ=>by
  obtain⟨o3,dl,ux,h1,aa⟩:=al
  cases h1 with
  |call _ _ cap vs Lq=>
  simp only[gJ] at bI⊢
  cases mD:P.funcs[g]? with
  |none=>rw[mD] at bI;cases bI
  |some fZ=>
   rw[mD] at bI
   simp only at bI⊢
   cases xx:fZ.body with
   |none=>
    have:iX P call fZ args (oC dS) H=.fail "" :=by simp[iX,xx]
    rw[this] at bI;cases bI
   |some gc=>
    obtain⟨uI,sn⟩:=dn g fZ gc mD xx
    have bj:fE μ .deferred ({ca with defers:=dl}::cs) (oC dS) ({ca with defers:=dl}::cs):=kY.q (c:={ca with defers:=dl}) aZ
    have ad:=EE (P:=P) ab hdr mD (kind:=.deferred) xx uI (args:=args) (vs:=vs++cap) (q:=oC dS) Lq af aj bj
    have hinv:(invoke (.fn (.func g) ⟨cap⟩) ⟨vs⟩).run P w=.ok (.enter g ⟨vs++cap⟩) w:=by
     have:=uH (P:=P) mD xx sn (⟨vs⟩++⟨cap⟩) w
     simpa[invoke] using this
    have Lr:=step_defer (P:=P) (cs:=cs) aZ.run ux (d:={target:=.fn (.func g) ⟨cap⟩,args:=⟨vs⟩}) rfl hinv
    cases U:iX P call fZ args (oC dS) H with
    |fail s=>rw[U] at bI;cases bI
    |ok e r' d' aR ax=>
     rw[U] at bI ad
     obtain⟨az,w',b1,bq,s1,s2,bw,bG,bP,cn,cP⟩:=ad
     simp only[r7] at bI⊢
     cases eQ:mh P (bH fZ) fZ r' ax with
     |none=>rw[eQ] at bI;cases e<;>cases d'<;>cases bI
     |some TV=>
      rw[eQ] at bI
      obtain⟨u,aK,a_⟩:=ED (P:=P) bG s2 eQ
      have main:∀(he:e=.nrm\/e=.ret) (nZ:d'=[]) (dN:(gJ P call need fn r k (p_ aR dS) ds ax).jQ=true),
        ∃ar cf ik,Ends μ H w (gJ P call need fn r k (p_ aR dS) ds ax) ar cf/\Steps P (lone ca cs w) (lone ik cs cf)/\ik.fn=ca.fn/\ik.leaving P cf ar:=by
       intro he nZ dN
       subst nZ
       have uJ:b1.defers=[]:=cn
       have Ak:∃todo,Steps P (lone (Frame.enter P g ⟨vs++cap⟩ .deferred) ({ca with defers:=dl}::cs) w) (lone {({(default:Frame) with fn:=g,kind:=.deferred}:Frame).atR b1 todo with mode:=.returning} bq w'):=by
        rcases he with rfl|rfl
        · exact⟨_,Steps.trans s1 (.one (stepR_end rfl))⟩
        · obtain⟨cz,qB⟩:=s1
          exact⟨_,Steps.trans qB (.one (stepR_ret rfl))⟩
       obtain⟨todo,Ak⟩:=Ak
       have gZ:({({(default:Frame) with fn:=g,kind:=.deferred}:Frame).atR b1 todo with mode:=.returning}:Frame).going P w' (.returned u):=⟨rfl,uJ,fZ,mD,aK⟩
       have caller:∃m,bq={({ca with defers:=dl}:Frame) with mode:=m}::cs/\kY az (p_ aR dS) (settle m):=by
        have fm:kY az dS (settle ca.mode):=by
         have qC:=aZ.mono bP.le
         cases dS with
         |none=>have:ca.mode=.returning:=qC;rw[this];rfl
         |some v=>obtain⟨u,h1,aa⟩:=qC;rw[h1];exact⟨u,rfl,aa⟩
        cases aR with
        |none=>exact⟨ca.mode,cP.1,fm⟩
        |act v=>exact⟨ca.mode,cP.1,fm⟩
        |done v=>
         obtain⟨_,c,rest,u,aw,ar,bn,cR⟩:=cP
         cases aw
         exact⟨_,cR,rfl⟩
       obtain⟨m,rfl,Ls⟩:=caller
       have ao:=step_going_returned (P:=P) (c:={({ca with defers:=dl}:Frame) with mode:=m}) (cs:=cs) rfl gZ
       obtain⟨ar,cf,ik,aX,bx,db,dc⟩:=xw ab hdr dn k (p_ aR dS) ds ax az w' {ca with defers:=dl,mode:=settle m} cs dN bG (aj.mono bP.le) (ah.mono bP.le) hf hk (aa.mono bP.le) Ls
       exact⟨ar,cf,ik,Ends.trans af bG bP aX,Steps.head Lr (Steps.trans Ak (Steps.head ao bx)),db,dc⟩
      cases d' with
      |cons x xs=>cases e<;>cases bI
      |nil=>
       cases e with
       |nrm=>exact main (.inl rfl) rfl bI
       |ret=>exact main (.inr rfl) rfl bI
       |exit id=>cases bI
       |goto l=>cases bI
       |bm v=>cases bI
theorem EF{P:Program}{m n0:Machine}{e:Ending}(h:Steps P m n0)(he:e≠ .outgrown):Comes P m n0 e:=by
 cases e with
 |outgrown=>exact absurd rfl he
 |_=>exact h
theorem Lt{call:cM->List I->J->bL}(ab:ie P call)(hdr:∀need bk,jq P need bk call)(dn:sm P){f:FuncId}{fn:Func}{c:Code}(hf:P.funcs[f]? =some fn)(ad:fn.body=some c)
  {args:List I}{vs:List Value}{H:J}{μ:aW}{w:World}(aI:bD μ args vs)(af:a8 μ H w)(aj:fi P μ)(bI:(lA P call fn (iX P call fn args .none H)).jQ=true):
  Calls P f ⟨vs⟩ w (Ends μ H w (lA P call fn (iX P call fn args .none H))):=by
 intro cs
 obtain⟨uI,sn⟩:=dn f fn c hf ad
 have bj:fE μ .normal cs .none cs:=⟨rfl,λca hk=>by simp[tryRecover,hk]⟩
 have hj:=EE (P:=P) ab hdr hf (kind:=.normal) ad uI aI af aj bj
 generalize U:iX P call fn args .none H=x at bI hj⊢
 cases x with
 |fail s=>cases bI
 |ok e r d q ax=>
  obtain⟨az,w',b1,bq,s1,s2,bw,bG,bP,cn,cP⟩:=hj
  have fr:bq=cs:=by
   cases q with
   |none=>exact cP.1
   |act v=>exact cP.1
   |done v=>exact absurd cP.1 (by intro h;cases h)
  subst fr
  have main:∀(dS:Option I) (ca:Frame),ca.fn=f->ca.tmps=b1.tmps->ca.defers=b1.defers->ca.kind=.normal->kY az dS ca.mode->Steps P (lone (Frame.enter P f ⟨vs⟩ .normal) bq w) (lone ca bq w')->
    (gJ P call (bH fn) fn r 100 dS d ax).jQ=true->∃e cf ik,Ends μ H w (gJ P call (bH fn) fn r 100 dS d ax) e cf/\Comes P (lone (Frame.enter P f ⟨vs⟩ .normal) bq w) (lone ik bq cf) e/\ik.fn=f/\ik.leaving P cf e:=by
   intro dS ca h1 aa ao aM bA dB dN
   subst h1
   obtain⟨ar,cf,ik,aX,bx,db,dc⟩:=xw ab hdr dn 100 dS d ax az w' ca bq dN bG (aj.mono bP.le) (by rw[aa];exact s2) hf aM (by rw[ao];exact cn) bA
   have uK:=Ends.trans af bG bP aX
   exact⟨ar,cf,ik,uK,EF (dB.trans bx) (λe=>xn dN _ (e▸uK)),db,dc⟩
  cases e with
  |nrm=>exact main none {({(default:Frame) with fn:=f,kind:=.normal}:Frame).atR b1 [] with mode:=.returning} rfl rfl rfl rfl rfl (Steps.trans s1 (.one (stepR_end rfl))) bI
  |ret=>obtain⟨cz,qB⟩:=s1;exact main none {({(default:Frame) with fn:=f,kind:=.normal}:Frame).atR b1 (.code .ret::cz) with mode:=.returning} rfl rfl rfl rfl rfl (Steps.trans qB (.one (stepR_ret rfl))) bI
  |bm v=>obtain⟨cz,u,h1,aa⟩:=s1;exact main (some v) _ rfl rfl rfl rfl ⟨u,rfl,h1.1⟩ aa bI
  |exit id=>cases bI
  |goto l=>cases bI
end
end aU
namespace aU
open Go
section
variable {P:Program}
theorem EG{need:Nat}{μ:aW}:∀(ps:List Nat) (args:List I) (vs:List Value) (r ff:aC) (bC:Array Value),(∀t∈ps,t<bC.size)->gY need μ r bC->bD μ args vs->qa ps args r=some ff->
  gY need μ ff ((ps.zip vs).foldl (λbC (p:Nat×Value)=>bC.setIfInBounds p.1 p.2) bC)/\((ps.zip vs).foldl (λbC (p:Nat×Value)=>bC.setIfInBounds p.1 p.2) bC).size=bC.size/\ps.length=vs.length
 |[],[],vs,r,ff,bC,aZ,ah,aI,h=>by cases aI;cases h;exact⟨ah,rfl,rfl⟩
 |t::ts,v::args,vs,r,ff,bC,aZ,ah,aI,h=>by
  obtain⟨u,us,rfl,h1,aa⟩:=aI
  simp only[qa] at h
  have nW:gY need μ (r.set (e2 t) v) (bC.setIfInBounds t u):=λs ae=>by
   rw[aC.cv,uD (aZ t (by simp))]
   by_cases e:s=t
   · rw[if_pos e,if_pos e];exact h1
   · rw[if_neg e,if_neg e];exact ah s ae
  obtain⟨aK,a_,bO⟩:=EG ts args us _ ff (bC.setIfInBounds t u) (λs ae=>by simp;exact aZ s (by simp[ae])) nW aa h
  exact⟨aK,by rw[List.zip_cons_cons,List.foldl_cons];rw[a_];simp,by simp[bO]⟩
 |[],_::_,vs,r,ff,bC,aZ,ah,aI,h=>by cases h
 |_::_,[],vs,r,ff,bC,aZ,ah,aI,h=>by cases h
theorem Al{μ:aW}{H:J}{w:World}(af:a8 μ H w){l:Nat}{i:fl}(aq:μ l=some i){st:LoopState}{ey:Option Code}{du:Nat}{rg:aC}{ps:List Nat}{as bS:Code}{ct:Nat}(aj:H.get l=some (.loop st ey du rg ps as bS ct)):
  ∃bC f_ fn,μ ct=some f_/\(Instr.getLoop i.aT).run P w=.ok {state:=st,pending:=ey,fn:=fn,tmps:=bC,params:=⟨ps⟩,assign:=as,body:=bS,defers:=f_.aT} w/\gY du μ rg bC/\fg bC.size as=true/\fg bC.size bS=true/\(∀t∈ps,t<bC.size)/\
   ∀bp so,∃w',(setObj i.aT (.loop {state:=bp,pending:=so,fn:=fn,tmps:=bC,params:=⟨ps⟩,assign:=as,body:=bS,defers:=f_.aT})).run P w=.ok () w'/\
    a8 μ (H.set l (some (.loop bp so du rg ps as bS ct))) w'/\bE μ H w μ (H.set l (some (.loop bp so du rg ps as bS ct))) w':=by
 obtain⟨bC,f_,fn,aw,ar,bn,cR,fD,lH⟩:=af.rel _ _ i aj aq
 have bN:=(af.lt _ _ aq).2
 have gZ:(getObj i.aT).run P w=.ok (.loop {state:=st,pending:=ey,fn:=fn,tmps:=bC,params:=⟨ps⟩,assign:=as,body:=bS,defers:=f_.aT}) w:=by simp[getObj,Sem.run,ar]
 refine⟨bC,f_,fn,aw,?_,bn,cR,fD,lH,λbp so=>?_⟩
 · simp only[Instr.getLoop,Sem.run_bind,gZ,Result.andThen_ok,Sem.run_pure]
 · obtain⟨aX,bx⟩:=af.update (w':={w with heap:=w.heap.setIfInBounds i.aT (.loop {state:=bp,pending:=so,fn:=fn,tmps:=bC,params:=⟨ps⟩,assign:=as,body:=bS,defers:=f_.aT})}) (o':=.loop bp so du rg ps as bS ct) aj rfl aq (by simp) (λr ah=>by simp[Array.getElem?_setIfInBounds];intro e;exact absurd e.symm ah) rfl rfl rfl
     ⟨bC,f_,fn,aw,by simp[bN],bn,cR,fD,lH⟩
   exact⟨_,by simp[setObj,Sem.run,ar],aX,bx⟩
theorem Lu{b:Frame}{a:Act}{cz:List Item}{c:Frame}{cs:List Frame}{w:World}{chain:List PanicEntry}(al:a.defers=[])(aB:z_ cz):
  step P (lone {b.atR a cz with mode:=.panicking chain} (c::cs) w)=.next (lone (c.raise chain) cs w):=by
 have Lv:({b.atR a cz with mode:=.panicking chain}:Frame).catches P=false:=by
  unfold Frame.catches
  cases hf:P.funcs[b.fn]? with
  |some fn=>simp[Frame.atR,hf]
  |none=>
   cases cz with
   |nil=>simp[Frame.atR,hf]
   |cons x t=>cases x<;>first|exact aB.elim|simp[Frame.atR,hf]
 refine step_lone_go ?_
 have EH:=Lv
 simp only[Frame.atR,al] at EH⊢
 simp[stepG,unwind,EH]
theorem Lw{μ:aW}{H:J}{w:World}{l:Nat}{i:fl}(aq:μ l=some i){b:Frame}(ad:b.roundOf=some i.aT)(hk:b.kind=.normal){need bk:Nat}{c:Frame}{cs:List Frame}{m0:Machine}{x:hP}(U:jb P need bk μ H w b [] (c::cs) m0 x)(TW:∀ca:Frame,ca.kind=b.kind->tryRecover ca (c::cs)=none)(bI:(r8 l x).jQ=true)(af:a8 μ H w):
  nX P m0 c cs (Ends μ H w (r8 l x)):=by
 cases x with
 |fail s=>cases bI
 |ok e r d q ax=>
  obtain⟨az,w',b1,bq,s1,s2,bw,bG,bP,cn,cP⟩:=U
  have fr:bq=c::cs:=by
   cases q with
   |none=>exact cP.1
   |act v=>exact cP.1
   |done v=>exact absurd (hk.symm.trans cP.1) (by intro h;cases h)
  subst fr
  cases d with
  |cons y eG=>cases bI
  |nil=>
   have uJ:b1.defers=[]:=cn
   simp only[r8] at bI⊢
   cases aj:ax.get l with
   |none=>rw[aj] at bI;cases bI
   |some o=>
    rw[aj] at bI
    cases o<;>try (cases bI;done)
    case loop st ey du rg ps as bS ct=>
     cases st<;>try (cases bI;done)
     simp only at bI⊢
     obtain⟨bC,f_,fn,g1,g2,_,_,_,_,g3⟩:=Al (P:=P) bG (bP.le _ _ aq) aj
     have fin:∀jump:Option Code,∃cf,(Instr.endRound i.aT jump).run P w'=.ok (.bool jump.isNone) cf/\a8 az (ax.set l (some (.loop (if jump.isNone then .ready else .done) jump du rg ps as bS ct))) cf/\bE az ax w' az (ax.set l (some (.loop (if jump.isNone then .ready else .done) jump du rg ps as bS ct))) cf:=λjump=>by
      obtain⟨cf,aK,a_,bO⟩:=g3 (if jump.isNone then .ready else .done) jump
      refine⟨cf,?_,a_,bO⟩
      simp only[Instr.endRound,Sem.run_bind,g2,Result.andThen_ok,aK,Sem.run_pure]
     cases e with
     |nrm=>
      obtain⟨cf,aK,a_,bO⟩:=fin none
      exact⟨.returned (.bool true),cf,⟨az,_,rfl,rfl,a_,bE.trans af bG bP bO⟩,Steps.trans s1 (.one (stepR_round_end ad hk aK))⟩
     |ret=>
      obtain⟨cz,s1⟩:=s1
      obtain⟨cf,aK,a_,bO⟩:=fin (some .ret)
      exact⟨.returned (.bool false),cf,⟨az,_,rfl,rfl,a_,bE.trans af bG bP bO⟩,Steps.trans s1 (.one (stepR_round_ret ad hk aK))⟩
     |exit id=>
      obtain⟨cz,qB,s1⟩:=s1
      obtain⟨cf,aK,a_,bO⟩:=fin (some (.exit id))
      exact⟨.returned (.bool false),cf,⟨az,_,rfl,rfl,a_,bE.trans af bG bP bO⟩,Steps.trans s1 (.one (stepR_round_exit ad hk (qB.trans rfl) aK))⟩
     |bm v=>
      obtain⟨cz,u,⟨h1,aa⟩,s1⟩:=s1
      exact⟨.panicked _,w',⟨az,u,rfl,h1,bG,bP⟩,Steps.trans s1 (.one (Lu uJ aa))⟩
     |goto t=>cases bI
theorem Lx{call:cM->List I->J->bL}(ab:ie P call)(hdr:∀need bk,jq P need bk call){l:Nat}{args:List I}{H:J}{μ:aW}{w:World}{i:fl}{vs:List Value}(bI:(lB P call l args H).jQ=true)(af:a8 μ H w)(lR:fi P μ)(aq:μ l=some i)(aI:bD μ args vs):
  Ed P i.aT vs w (Ends μ H w (lB P call l args H)):=by
 unfold lB at bI⊢
 cases aj:H.get l with
 |none=>rw[aj] at bI;cases bI
 |some o=>
  rw[aj] at bI
  cases o<;>try (cases bI;done)
  case loop st ey du rg ps as bS ct=>
   cases st<;>try (cases bI;done)
   simp only at bI⊢
   cases aL:qa ps args rg with
   |none=>rw[aL] at bI;cases bI
   |some ff=>
    rw[aL] at bI
    simp only at bI⊢
    obtain⟨bC,f_,fn,g1,g2,g3,g4,g5,g6,g7⟩:=Al (P:=P) af aq aj
    obtain⟨b5,z2,z3⟩:=EG ps args vs rg ff bC g6 g3 aI aL
    obtain⟨qD,EI⟩:∃qD,(ps.zip vs).foldl (λbC (p:Nat×Value)=>bC.setIfInBounds p.1 p.2) bC=qD:=⟨_,rfl⟩
    rw[EI] at b5 z2
    refine⟨fn,qD,as,bS,?_,λc cs=>?_⟩
    · simp only[Instr.yield,Sem.run_bind,g2,Result.andThen_ok]
      rw[if_neg (by simp;omega)]
      simp only[Sem.run_bind,Sem.run_pure,Result.andThen_ok]
      rw[<-EI]
      simp
    · have Ly:Frame.round i.aT fn qD as bS .normal=({(default:Frame) with fn:=fn,kind:=.normal,roundOf:=some i.aT}:Frame).atR {tmps:=qD,defers:=[]} [.code as,.beginRound,.code bS]:=rfl
      rw[Ly]
      have bj:fE μ .normal (c::cs) .none (c::cs):=⟨rfl,λca hk=>by simp[tryRecover,hk]⟩
      have bR:kX μ ({(default:Frame) with fn:=fn,kind:=.normal,roundOf:=some i.aT}:Frame) (some l):=⟨i,aq,rfl⟩
      have h1:=mB ab (hdr du bC.size) (xu ab) (some l) as g4 {(default:Frame) with fn:=fn,kind:=.normal,roundOf:=some i.aT} ff [] .none H μ w {tmps:=qD,defers:=[]} [.beginRound,.code bS] (c::cs) (c::cs) bR b5 z2 af lR rfl bj
      generalize cQ P du (some l) call as ff [] .none H=x at h1 bI⊢
      cases x with
      |fail s=>cases bI
      |ok e aX d1 aK H1=>
       cases e<;>try (cases bI;done)
       case nrm=>
        cases d1<;>try (cases bI;done)
        case nil=>
         obtain⟨dv,cK,bl,il,s1,s2,bw,bG,bP,cn,cP⟩:=h1
         have fr:il=c::cs:=by
          cases aK with
          |none=>exact cP.1
          |act v=>exact cP.1
          |done v=>exact absurd cP.1 (by intro h;cases h)
         subst fr
         simp only[wL] at bI⊢
         cases dZ:H1.get l with
         |none=>rw[dZ] at bI;cases bI
         |some dp=>
          rw[dZ] at bI
          cases dp<;>try (cases bI;done)
          case loop st2 Lz TX TY TZ T0 T1 T2=>
           cases st2<;>try (cases bI;done)
           simp only at bI⊢
           obtain⟨T3,T4,T5,bz,bZ,eO,ho,jr,fT,n1⟩:=Al (P:=P) bG (bP.le _ _ aq) dZ
           obtain⟨cf,cC,cE,gr⟩:=n1 .busy Lz
           have uC:(Instr.beginRound i.aT).run P cK=.ok () cf:=by
            simp only[Instr.beginRound,Sem.run_bind,bZ,Result.andThen_ok,cC,Sem.run_pure]
           have b0:=stepR_beginRound (P:=P) (b:={(default:Frame) with fn:=fn,kind:=.normal,roundOf:=some i.aT}) (a:=bl) (k:=[.code bS]) (cs:=c::cs) rfl uC
           have LA:fE dv .normal (c::cs) .none (c::cs):=⟨rfl,λca hk=>by simp[tryRecover,hk]⟩
           have LB:kX dv ({(default:Frame) with fn:=fn,kind:=.normal,roundOf:=some i.aT}:Frame) (some l):=⟨i,bP.le _ _ aq,rfl⟩
           have uJ:eb dv [] bl.defers:=cn
           have aa:=mB ab (hdr du bC.size) (xu ab) (some l) bS g5 {(default:Frame) with fn:=fn,kind:=.normal,roundOf:=some i.aT} aX [] .none _ dv cf bl [] (c::cs) (c::cs) LB s2 bw cE (lR.mono bP.le) uJ LA
           have ao:=aa.of_steps af cE (Steps.trans s1 (.one b0)) (bE.trans af bG bP gr)
           exact Lw aq rfl rfl ao (λca hk=>by simp[tryRecover,hk]) bI af
end
end aU
namespace aU
open Go
section
variable {P:Program}
def o_:List String:=["internal/abi.NoEscape","internal/bytealg.MakeNoZero","internal/bytealg.IndexByteString","maps.clone"]
def xy(P:Program):Prop:=∀(g:FuncId) (fZ:Func),P.funcs[g]? =some fZ->fZ.body=none->fZ.name∈o_->Extern.findNext fZ=none
theorem EJ:∀(n t:Nat) (acc:Array Value),(Extern.BytealgMakeNoZero.digits n t acc).size=acc.size+n
 |0,t,acc=>rfl
 |n+1,t,acc=>by rw[Extern.BytealgMakeNoZero.digits,EJ n];simp;omega
theorem LC{fn:Func}(aB:fn.name= "internal/abi.NoEscape"):Extern.find fn=some Extern.AbiNoEscape.same:=by
 have h1:Extern.allGenericRows.lookup "internal/abi.NoEscape" =none:=by rfl
 have aa:Extern.allTypedRows.lookup "internal/abi.NoEscape" =none:=by rfl
 have ao:Extern.allRows.lookup "internal/abi.NoEscape" =some Extern.AbiNoEscape.same:=by rfl
 simp[Extern.find,aB,h1,aa,ao]
theorem LD{fn:Func}(aB:fn.name= "internal/bytealg.MakeNoZero"):Extern.find fn=some (Extern.BytealgMakeNoZero.makeNoZero fn.params fn.resultTypes):=by
 have h1:Extern.allGenericRows.lookup "internal/bytealg.MakeNoZero" =none:=by rfl
 have aa:Extern.allTypedRows.lookup "internal/bytealg.MakeNoZero" =some Extern.BytealgMakeNoZero.makeNoZero:=by rfl
 simp[Extern.find,aB,h1,aa]
theorem LF{fn:Func}(aB:fn.name= "internal/bytealg.IndexByteString"):Extern.find fn=some Extern.BytealgIndexByte.indexByte:=by
 have h1:Extern.allGenericRows.lookup "internal/bytealg.IndexByteString" =none:=by rfl
 have aa:Extern.allTypedRows.lookup "internal/bytealg.IndexByteString" =none:=by rfl
 have ao:Extern.allRows.lookup "internal/bytealg.IndexByteString" =some Extern.BytealgIndexByte.indexByte:=by rfl
 simp[Extern.find,aB,h1,aa,ao]
theorem LG{fn:Func}(aB:fn.name= "maps.clone"):Extern.find fn=some Extern.MapsClone.clone:=by
 have h1:Extern.allGenericRows.lookup "maps.clone" =none:=by rfl
 have aa:Extern.allTypedRows.lookup "maps.clone" =none:=by rfl
 have ao:Extern.allRows.lookup "maps.clone" =some Extern.MapsClone.clone:=by rfl
 simp[Extern.find,aB,h1,aa,ao]
theorem EK(c:Nat):∀(l:List UInt8) (i:Nat),lz c l i=match l.findIdx? (λb=>Nat.beq b.toNat c) with
  |some j=>((i+j:Nat):Int)
  |none=>-1
 |[],i=>rfl
 |b::l,i=>by
  rw[lz,List.findIdx?_cons]
  cases Nat.beq b.toNat c with
  |true=>simp
  |false=>
   simp only[EK c l (i+1)]
   cases l.findIdx? (λb=>Nat.beq b.toNat c) with
   |none=>rfl
   |some j=>
    simp only[Option.map_some]
    have:((i+(j+1):Nat):Int)=((i+1+j:Nat):Int):=by congr 1;omega
    exact this.symm
theorem LH(b:ByteArray)(p:UInt8->Bool):(List.range b.size).find? (λi=>p b[i]!)=b.data.toList.findIdx? p:=by
 have bg:b.data.toList.length=b.size:=Array.length_toList
 have eL:∀(i:Nat) (ag:i<b.data.toList.length),b[i]! =b.data.toList[i]:=λi ag=>by
  have dG:i<b.size:=by omega
  rw[getElem!_pos b i dG];rfl
 cases hf:b.data.toList.findIdx? p with
 |none=>
  rw[List.find?_eq_none]
  intro i ag
  have dG:i<b.data.toList.length:=by rw[bg];simpa using ag
  rw[eL i dG]
  have:=List.findIdx?_eq_none_iff.1 hf _ (List.getElem_mem dG)
  rw[this];exact Bool.false_ne_true
 |some j=>
  obtain⟨aG,aZ,bN⟩:=List.findIdx?_eq_some_iff_getElem.1 hf
  rw[List.find?_range_eq_some]
  refine⟨?_,by simp;omega,λi ag=>?_⟩
  · rw[eL j aG];exact aZ
  · rw[eL i (by omega)]
    have:=bN i ag
    simpa using this
theorem LI{α:Type}(n:Int)(f:Int->α)(g:Array Value->α):Extern.BytealgMakeNoZero.makeNoZero.match_3 (λ_=>α) #[.int .i64 n] f g=f n:=rfl
theorem LJ{α:Type}(t:TypeId)(r:Nat)(f:TypeId->Nat->α)(e:TypeId->α)(g:Array Value->α):Extern.MapsClone.clone.match_2 (λ_=>α) #[.iface t (.map (some r))] f e g=f t r:=rfl
theorem LK{α:Type}(b c:Value)(f:Value->Value->α)(g:Array Value->α):Extern.BytealgIndexByte.indexByte.match_2 (λ_=>α) #[b,c] f g=f b c:=rfl
theorem LL{f:FuncId}{fn:Func}(hf:P.funcs[f]? =some fn)(ad:fn.body=none)(sq:xy P){args:List I}{H ax:J}{v:I}(h:r6 P fn fn.name args H=some (v,ax))
  {μ:aW}{w:World}{vs:List Value}(af:a8 μ H w)(aI:bD μ args vs):
  ∃u w',(callFunc f ⟨vs⟩).run P w=.ok (.value u) w'/\Ends μ H w (.ret v ax) (.returned u) w':=by
 have call:∀e:Array Value->Sem Value,fn.name∈o_->Extern.find fn=some e->(callFunc f ⟨vs⟩).run P w=(do let v<-e ⟨vs⟩;pure (.value v):Sem Next).run P w:=by
  intro e hm he
  have aB:=sq f fn hf ad hm
  have Am:(fn.name== "runtime.NumGoroutine")=false:=by
   simp only[o_,List.mem_cons,List.mem_nil_iff,or_false] at hm
   rcases hm with h|h|h|h<;>rw[h]<;>decide
  rw[run_callFunc_extern hf Am (by rw[ad];rfl) aB he];simp only[Sem.run_bind];rfl
 unfold r6 at h
 split at h
 · rename_i n
   split at h
   · rename_i mE
     split at h
     · rename_i t bd
       split at h
       · rename_i e hu
         split at h
         · rename_i hle
           cases h
           have w6:n<=1099511627776:=by simpa using hle
           obtain⟨u,us,rfl,h1,aa⟩:=aI
           cases h1;cases aa
           have bg:∀(t:TypeId),(Question.appendCap n 0 t).forced=false:=λ_=>rfl
           obtain⟨cap,kh,EL⟩:∃cap,(Question.appendCap n 0 e).cut (w.tape w.drawn (Question.appendCap n 0 e))=cap/\n<=cap:=⟨_,rfl,by simp[Question.cut]⟩
           obtain⟨EM,jR⟩:∃x,(Question.extern "internal/bytealg.MakeNoZero.bytes" 0).cut (w.drew.tape w.drew.drawn (Question.extern "internal/bytealg.MakeNoZero.bytes" 0))=x:=⟨_,rfl⟩
           have al:=EJ cap EM #[]
           have qE:=af.drew.drew
           obtain⟨aX,bx⟩:=qE.alloc (.cells (List.replicate n .bad) e .aE 0 0) (.cells (Extern.BytealgMakeNoZero.digits cap EM #[]) e) cap
            ⟨_,0,0,World.heap_alloc_new _ _,λj v aG=>by
              have sb:j<n:=by
               rcases Nat.lt_or_ge j n with h|h
               · exact h
               · rw[List.getElem?_eq_none (by simpa using h)] at aG;cases aG
              rw[List.getElem?_replicate,if_pos sb] at aG
              cases aG
              refine⟨_,Array.getElem?_eq_getElem (by rw[Nat.zero_add,al];simp;omega),trivial⟩,by rw[al];simp,by simpa using EL,λj _ _ h=>by omega⟩
           refine⟨_,_,?_,eJ μ H.n ⟨w.drew.drew.heap.size,0,cap⟩,_,rfl,⟨_,e5 _ _ _,cap,rfl,EL,by simp⟩,aX,bE.trans af af.drew bE.drew (bE.trans af.drew qE bE.drew bx)⟩
           rw[call _ (by rw[mE];simp[o_]) (LD mE)]
           have LM:¬((Int.ofNat n<0||Int.ofNat n>2^48)=true):=by
            have aa:(2:Int)^48=281474976710656:=by rfl
            have ao:Int.ofNat n=(n:Int):=rfl
            rw[aa,ao];simp only[Bool.or_eq_true,decide_eq_true_eq];omega
           have An:(Question.extern "internal/bytealg.MakeNoZero.bytes" 0).forced=false:=rfl
           have LN:(Int.ofNat n).toNat=n:=rfl
           delta Extern.BytealgMakeNoZero.makeNoZero
           rw[LI]
           simp only[Sem.run_bind,bd,Sem.run_pure,bt hu,Result.andThen_ok]
           rw[if_neg LM]
           simp only[Sem.run_bind,run_choose,LN,bg,An,Bool.false_eq_true,if_false,World.drew_eq,kh,Result.andThen_ok,run_askRoom,jR,Sem.run_pure]
           rfl
         · cases h
       · cases h
     · cases h
   · cases h
 · rename_i x _
   obtain⟨u,us,rfl,h1,aa⟩:=aI
   cases aa
   split at h
   · rename_i mE
     cases h
     refine⟨u,w,?_,μ,u,rfl,h1,af,bE.refl _ _ _⟩
     rw[call _ (by rw[mE];simp[o_]) (LC mE)]
     rfl
   · split at h
     · rename_i mE
       split at h
       · rename_i t r
         split at h
         · rename_i es c aj
           cases h
           obtain⟨y,rfl,i,ag,rfl⟩:=h1
           obtain⟨ents,aw,ar⟩:=af.rel _ _ i aj ag
           have hle:=af.mn ⟨w.heap.size,0,0⟩
           obtain⟨aX,bx⟩:=af.alloc (.map es c) (.map ⟨ents⟩ c) 0 ⟨ents,World.heap_alloc_new _ _,ar.mono hle⟩
           refine⟨_,_,?_,eJ μ H.n ⟨w.heap.size,0,0⟩,.iface _ (.map (some w.heap.size)),rfl,⟨.map (some w.heap.size),rfl,⟨w.heap.size,0,0⟩,e5 _ _ _,rfl⟩,aX,bx⟩
           rw[call _ (by rw[mE];simp[o_]) (LG mE)]
           have gZ:(getObj i.aT).run P w=.ok (.map ⟨ents⟩ c) w:=by simp[getObj,Sem.run,aw]
           simp only[Sem.run_bind]
           rw[show(⟨[Value.iface _ (Value.map (some i.aT))]⟩:Array Value)=#[.iface _ (.map (some i.aT))] from rfl]
           delta Extern.MapsClone.clone
           rw[LJ]
           simp only[Sem.run_bind,gZ,Result.andThen_ok,run_newObj,Sem.run_pure]
           rfl
         · cases h
       · cases h
     · cases h
 · rename_i s c
   split at h
   · rename_i mE
     split at h
     · rename_i ab
       cases h
       have tS:c<256:=by simpa using ab
       obtain⟨u,us,rfl,h1,aa⟩:=aI
       obtain⟨gg,T6,rfl,ao,aM⟩:=aa
       cases ao;cases aM
       obtain⟨t,rfl,rfl⟩:=h1
       refine⟨_,w,?_,μ,_,rfl,rfl,af,bE.refl _ _ _⟩
       rw[call _ (by rw[mE];simp[o_]) (LF mE)]
       have jR:(Int.ofNat c).toNat.toUInt8=UInt8.ofNat c:=rfl
       have heq:∀b:UInt8,(b==UInt8.ofNat c)=Nat.beq b.toNat c:=λb=>by
        rw[Bool.eq_iff_iff,beq_iff_eq,Nat.beq_eq,<-UInt8.toNat_inj]
        simp[Nat.mod_eq_of_lt tS]
       delta Extern.BytealgIndexByte.indexByte
       rw[LK]
       simp only[Sem.run_bind,Extern.Bytes.bytesOf,Extern.Bytes.asByte,Sem.run_pure,Result.andThen_ok,jR,heq]
       have hf:=LH t (λb=>Nat.beq b.toNat c)
       rw[hf,EK]
       cases t.data.toList.findIdx? (λb=>Nat.beq b.toNat c) with
       |none=>rfl
       |some j=>
        simp only[Nat.zero_add]
        rfl
     · cases h
   · cases h
 · cases h
def gN(P:Program)(intr:Nat->List I->J->Option (I×J)):Prop:=
 ∀f args H v ax,intr f args H=some (v,ax)->∀μ w (vs:List Value),a8 μ H w->fi P μ->bD μ args vs->o7 P f vs w (Ends μ H w (.ret v ax))
theorem LO(P:Program):gN P (λ_ _ _=>none):=λ_ _ _ _ _ h=>by cases h
theorem LP{call:cM->List I->J->bL}(ab:ie P call)(hdr:∀need bk,jq P need bk call)(dn:sm P)(sq:xy P){f:Nat}{args:List I}{H:J}(bI:(oD P call f args H).jQ=true)
  {μ:aW}{w:World}{vs:List Value}(af:a8 μ H w)(aj:fi P μ)(aI:bD μ args vs):o7 P f vs w (Ends μ H w (oD P call f args H)):=by
 unfold oD at bI⊢
 cases hf:P.funcs[f]? with
 |none=>rw[hf] at bI;cases bI
 |some fn=>
  rw[hf] at bI
  simp only at bI⊢
  cases ad:fn.body with
  |none=>
   rw[ad] at bI
   simp only at bI⊢
   cases U:r6 P fn fn.name args H with
   |none=>rw[U] at bI;cases bI
   |some p=>
    obtain⟨v,ax⟩:=p
    obtain⟨u,w',h1,aa⟩:=LL hf ad sq U af aI
    exact .inl ⟨u,w',h1,aa⟩
  |some c=>
   rw[ad] at bI
   simp only at bI⊢
   obtain⟨uI,sn⟩:=dn f fn c hf ad
   exact .inr ⟨uH hf ad sn _ _,Lt ab hdr dn hf ad aI af aj bI⟩
theorem EN{intr:Nat->List I->J->Option (I×J)}(ag:gN P intr)(hdr:∀call,ie P call->∀need bk,jq P need bk call)(dn:sm P)(sq:xy P):∀n,ie P (cu P intr n)
 |0=>⟨λf args H aj=>(by cases aj),λl args H aj=>(by cases aj)⟩
 |n+1=>by
  have a7:=EN ag hdr dn sq n
  refine⟨λf args H bI μ w vs af aj aI=>?_,λl args H bI μ w i vs af aj aq aI=>?_⟩
  · simp only[cu] at bI⊢
    cases U:intr f args H with
    |some p=>
     obtain⟨v,ax⟩:=p
     exact ag f args H v ax U μ w vs af aj aI
    |none=>
     rw[U] at bI
     exact LP a7 (hdr _ a7) dn sq bI af aj aI
  · simp only[cu] at bI⊢
    exact Lx a7 (hdr _ a7) bI af aj aq aI
end
end aU
namespace aU
open Go
def qF(ops:Array Oper)(S:List Nat):List Nat->Prop
 |[]=>∀i,i<ops.size->i∈S
 |i::rest=>i<ops.size/\i∉S/\(∀o,ops[i]? =some o->∀e∈o.after,Region.binds .any e=true->e.on∈S)/\qF ops (i::S) rest
theorem filter_lt{p q:Nat->Bool}(uL:∀x,q x=true->p x=true):∀(l:List Nat) {i:Nat},i∈l->p i=true->q i=false->(l.filter q).length<(l.filter p).length
 |[],i,h,_,_=>by cases h
 |a::l,i,h,aZ,bj=>by
  have hle:∀l:List Nat,(l.filter q).length<=(l.filter p).length:=λl=>by
   induction l with
   |nil=>simp
   |cons b l a7=>
    simp only[List.filter_cons]
    cases ad:q b with
    |true=>simp[uL b ad];exact a7
    |false=>cases p b<;>simp<;>omega
  rcases List.mem_cons.1 h with rfl|h
  · have:=hle l
    simp only[List.filter_cons,aZ,bj,if_true,Bool.false_eq_true,if_false,List.length_cons];omega
  · have a7:=filter_lt uL l h aZ bj
    simp only[List.filter_cons]
    cases ad:q a with
    |true=>simp[uL a ad];exact a7
    |false=>cases p a<;>simp<;>omega
theorem LQ{ops:Array Oper}(pa:∀o i,ops[i]? =some o->mi o i=true){listed:Array Bool}(bg:listed.size=ops.size)(ah:Region.ready .any ops listed=[]):∀i,i<ops.size->listed.getD i true=true:=by
 intro i
 induction i using Nat.strongRecOn with
 |ind i a7=>
  intro ag
  cases aq:listed.getD i true with
  |true=>rfl
  |false=>
   have aN:ops[i]? =some ops[i]:=Array.getElem?_eq_getElem ag
   have:i∈Region.ready .any ops listed:=mem_ready.2 ⟨aq,ops[i],aN,λe he ad=>by
    have:=pa _ _ aN
    unfold mi at this
    rw[List.all_eq_true] at this
    have aa:=this e (by simpa using he)
    simp only[ad,Bool.not_true,Bool.false_or,Nat.blt_eq] at aa
    have ao:=a7 e.on aa (by omega)
    have bN:e.on<listed.size:=by omega
    simp[bN] at ao⊢
    exact ao⟩
   rw[ah] at this;cases this
theorem EO{ops:Array Oper}(pa:∀o i,ops[i]? =some o->mi o i=true):∀(fuel t:Nat) (listed:Array Bool) (S:List Nat),listed.size=ops.size->(∀i,i<ops.size->(listed.getD i true=true<->i∈S))->
  ((List.range ops.size).filter λi=>!listed.getD i true).length<=fuel->qF ops S (Region.linearise.go .any ops fuel t listed [])
 |0,t,listed,S,bg,eY,hf=>by
  simp only[Region.linearise.go,List.reverse_nil,qF]
  intro i ag
  rw[<-eY i ag]
  have ay:((List.range ops.size).filter λi=>!listed.getD i true)=[]:=List.length_eq_zero_iff.1 (Nat.le_zero.1 hf)
  rw[List.filter_eq_nil_iff] at ay
  have:=ay i (List.mem_range.2 ag)
  simpa using this
 |fuel+1,t,listed,S,bg,eY,hf=>by
  simp only[Region.linearise.go]
  change qF ops S (match(Region.ready .any ops listed)[t %(Region.ready .any ops listed).length]? with
   |some i=>Region.linearise.go .any ops fuel (t/(Region.ready .any ops listed).length) (listed.setIfInBounds i true) [i]
   |none=>[].reverse)
  cases ag:(Region.ready .any ops listed)[t %(Region.ready .any ops listed).length]? with
  |none=>
   have qG:Region.ready .any ops listed=[]:=by
    cases ah:Region.ready .any ops listed with
    |nil=>rfl
    |cons x xs=>
     rw[ah] at ag
     have bN:t %(x::xs).length<(x::xs).length:=Nat.mod_lt _ (by simp)
     rw[List.getElem?_eq_getElem bN] at ag;cases ag
   simp only[List.reverse_nil,qF]
   exactλi h=>(eY i h).1 (LQ pa bg qG i h)
  |some i=>
   simp only[]
   rw[linearise_go_acc,List.reverse_singleton,List.singleton_append]
   obtain⟨h1,o,aa,ao⟩:=mem_ready.1 (List.mem_of_getElem? ag)
   have bN:i<ops.size:=(Array.getElem?_eq_some_iff.1 aa).1
   have zu:i<listed.size:=by omega
   have nW:∀j d,(listed.setIfInBounds i true).getD j d=if j=i then true else listed.getD j d:=λj d=>by
    simp only[Array.getD_eq_getD_getElem?,Array.getElem?_setIfInBounds]
    by_cases e:i=j
    · subst e;simp[zu]
    · rw[if_neg e,if_neg (λh=>e h.symm)]
   refine⟨bN,λh=>?_,λo' gO e he ad=>?_,EO pa fuel _ _ _ (by simpa using bg) (λj aG=>?_) ?_⟩
   · have:=(eY i bN).2 h
     rw[h1] at this;cases this
   · rw[aa] at gO;cases gO
     have aM:=ao e he ad
     have xz:e.on<listed.size:=by
      rcases Nat.lt_or_ge e.on listed.size with h|h
      · exact h
      · simp[Array.getElem?_eq_none h] at aM
     rw[<-eY e.on (by omega)]
     simp[xz] at aM⊢
     exact aM
   · rw[nW,List.mem_cons]
     by_cases e:j=i
     · simp[e]
     · rw[if_neg e,eY j aG];simp[e]
   · have T7:((List.range ops.size).filter λj=>!(listed.setIfInBounds i true).getD j true).length<((List.range ops.size).filter λj=>!listed.getD j true).length:=
       filter_lt (λx U=>by
        rw[nW] at U
        by_cases e:x=i
        · rw[if_pos e] at U;cases U
        · rw[if_neg e] at U;exact U) _ (List.mem_range.2 bN) (by rw[h1];rfl) (by rw[nW,if_pos rfl];rfl)
     omega
theorem LR{ops:Array Oper}(pa:∀o i,ops[i]? =some o->mi o i=true)(t:Nat):qF ops [] (Region.schedule true ops t):=by
 simp only[Region.schedule,Bool.true_or,if_true,Region.linearise]
 refine EO pa ops.size t _ [] (by simp) (λi ag=>by simp[ag]) ?_
 refine Nat.le_trans (List.length_filter_le _ _) (by simp)
section
variable {P:Program} {g cb:Operand->I}
theorem Ao{o:Option Operand}(h:∀x∈o.toArray,g x=cb x):o.map g=o.map cb:=by
 cases o with
 |none=>rfl
 |some x=>simp[h x (by simp)]
theorem uM(o:Oper)(H:J)(h:∀x∈o.op.operands,g x=cb x):bV P o g H=bV P o cb H:=by
 obtain⟨dst,op,type,pos,after,guard⟩:=o
 have xA:∀ps:Array (Nat×Operand),(∀x∈ps.map (·.2),g x=cb x)->(ps.toList.map λp=>(p.1,g p.2))=(ps.toList.map λp=>(p.1,cb p.2)):=λps aZ=>
  List.map_congr_left λp hm=>by rw[aZ p.2 (Array.mem_map.2 ⟨p,by simpa using hm,rfl⟩)]
 cases op<;>simp only[Op.operands] at h<;>unfold bV
 case build t ps=>simp only[xA ps λx U=>h x (by simpa using U)]
 case buildSlice t n ps=>simp only[xA ps λx U=>h x (by simpa using U)]
 case makeFunc fn first captured=>
  simp only[List.map_congr_left (l:=first.toList) λx U=>h x (by simp at U;simp[U]),List.map_congr_left (l:=captured.toList) λx U=>h x (by simp at U;simp[U])]
 case call c=>
  have aH:c.args.toList.map g=c.args.toList.map cb:=List.map_congr_left λx U=>h x (by simp at U;simp[Call.operands,U])
  simp only[aH]
  cases ab:c.callee with
  |value f=>have hf:g f=cb f:=h f (by simp[Call.operands,ab]);simp only[hf]
  |invoke r m=>have ah:g r=cb r:=h r (by simp[Call.operands,ab]);simp only[ah]
  |builtin b=>rfl
 case defer c=>
  have aH:c.args.toList.map g=c.args.toList.map cb:=List.map_congr_left λx U=>h x (by simp at U;simp[Call.operands,U])
  simp only[aH]
  cases ab:c.callee with
  |value f=>have hf:g f=cb f:=h f (by simp[Call.operands,ab]);simp only[hf]
  |invoke r m=>rfl
  |builtin b=>rfl
 case makeMap t r=>cases r<;>simp_all
 case slice t x bF ag mx=>
  have aw:bF.map g=bF.map cb:=Ao λy bc=>h y (by simp at bc;simp[bc])
  have ar:ag.map g=ag.map cb:=Ao λy bc=>h y (by simp at bc;simp[bc])
  have bn:mx.map g=mx.map cb:=Ao λy bc=>h y (by simp at bc;simp[bc])
  have cR:g x=cb x:=h x (by simp)
  have fD:∀o:Option Operand,(o.map λo=>kindName (g o))=(o.map g).map kindName:=λo=>by cases o<;>rfl
  have lH:∀o:Option Operand,(o.map λo=>kindName (cb o))=(o.map cb).map kindName:=λo=>by cases o<;>rfl
  simp only[aw,ar,bn,cR,fD,lH]
 all_goals (first|rfl|(simp_all;done))
theorem uN(o:Op)(b:Nat)(h:∀x∈o.operands,g x=cb x):gI P o g b=gI P o cb b:=by
 have xA:∀ps:Array (Nat×Operand),(∀x∈ps.map (·.2),g x=cb x)->(ps.toList.map λp=>(p.1,g p.2))=(ps.toList.map λp=>(p.1,cb p.2)):=λps aZ=>
  List.map_congr_left λp hm=>by rw[aZ p.2 (Array.mem_map.2 ⟨p,by simpa using hm,rfl⟩)]
 cases o<;>simp only[Op.operands] at h<;>unfold gI
 case buildSlice t n ps=>simp only[xA ps λx U=>h x (by simpa using U)]
 case makeMap t r=>cases r<;>rfl
 all_goals (first|rfl|(simp_all;done))
theorem LS{o:Oper}{H ax:J}{v:I}(hk:kindOf P o.op=.pure)(h:bV P o g H=.val v ax):ax=H:=by
 have fv:∀{w:String} {x:Option I},eH H w x=.val v ax->ax=H:=λ{w x} e=>by
  cases x with
  |none=>cases e
  |some y=>cases e;rfl
 obtain⟨dst,op,type,pos,after,guard⟩:=o
 cases op<;>simp only[kindOf] at hk<;>(try (cases hk;done))<;>unfold bV at h<;>simp only at h
 case move=>cases h;rfl
 case assign=>cases h;rfl
 case pick=>
  split at h
  · cases h;rfl
  · cases h;rfl
  · cases h
 case build=>
  repeat' (first|contradiction|(cases h;rfl)|(cases h;done)|split at h)
 case load=>
  repeat' (first|contradiction|(cases h;rfl)|(cases h;done)|exact fv h|split at h)
 case nilCheck=>repeat' (first|contradiction|(cases h;rfl)|(cases h;done)|exact fv h|split at h)
 case binOp=>exact fv h
 case unOp=>repeat' (first|contradiction|(cases h;rfl)|(cases h;done)|exact fv h|split at h)
 case convert s d x=>
  have cj:∀e,P.underlying d≠some (.slice e):=λe he=>by rw[he] at hk;cases hk
  unfold hQ at h
  repeat' (first|exact absurd (by assumption) (cj _)|(cases h;rfl)|(cases h;done)|split at h)
 case makeInterface=>repeat' (first|contradiction|(cases h;rfl)|(cases h;done)|exact fv h|split at h)
 case makeFunc=>repeat' (first|contradiction|(cases h;rfl)|(cases h;done)|exact fv h|split at h)
 case makeMap r=>cases r<;>cases hk
 case slice=>exact fv h
 case fieldAddr=>repeat' (first|contradiction|(cases h;rfl)|(cases h;done)|exact fv h|split at h)
 case field=>repeat' (first|contradiction|(cases h;rfl)|(cases h;done)|exact fv h|split at h)
 case indexAddr=>repeat' (first|contradiction|(cases h;rfl)|(cases h;done)|exact fv h|split at h)
 case index=>repeat' (first|contradiction|(cases h;rfl)|(cases h;done)|exact fv h|split at h)
 case lookup=>exact fv h
 case typeAssert=>repeat' (first|contradiction|(cases h;rfl)|(cases h;done)|exact fv h|split at h)
 case extract=>repeat' (first|contradiction|(cases h;rfl)|(cases h;done)|exact fv h|split at h)
 case call c=>
  cases ab:c.callee with
  |value f=>rw[ab] at hk;cases hk
  |invoke r m=>rw[ab] at hk;cases hk
  |builtin b=>
   rw[ab] at hk h
   simp only at h
   cases b<;>simp only at hk<;>(try (cases hk;done))<;>unfold hd at h<;>simp only at h
   all_goals repeat' (first|contradiction|(cases h;rfl)|(cases h;done)|exact fv h|split at h)
end
end aU
namespace aU
open Go
def jc(ops:Array Oper)(S:List Nat)(j:Nat):Prop:=∀o,ops[j]? =some o->∀e∈o.after,Region.binds .any e=true->e.on∈S
def xB(ops:Array Oper)(S:List Nat):Prop:=∀j∈S,jc ops S j
def Sound(ops:Array Oper)(j m:Nat):Prop:=∀S,xB ops S->jc ops S j->∀b,Nat.testBit m b=true->b∈S
def uO(ops:Array Oper)(n:Nat)(fe:List Nat):Prop:=∀j,j<n->∃m,nth (n-1-j) fe=some m/\Sound ops j m
theorem LU(a b:Nat)(h:Nat.testBit (1<<<a) b=true):b=a:=by
 rw[Nat.shiftLeft_eq,Nat.one_mul,Nat.testBit_two_pow] at h
 exact(of_decide_eq_true h).symm
theorem EP{fe:List Nat}{n:Nat}:∀(l:List Edge) (s b:Nat),Nat.testBit (l.foldl (λs e=>match Region.binds .any e with
  |true=>s|||1<<<e.on|||(nth (n-1-e.on) fe).getD 0
  |false=>s) s) b=true->Nat.testBit s b=true\/∃e∈l,Region.binds .any e=true/\(b=e.on\/Nat.testBit ((nth (n-1-e.on) fe).getD 0) b=true)
 |[],s,b,h=>.inl h
 |e::l,s,b,h=>by
  rw[List.foldl_cons] at h
  rcases EP l _ b h with h|⟨b_,h1,aa⟩
  · cases ad:Region.binds .any e with
    |false=>rw[ad] at h;exact .inl h
    |true=>
     rw[ad] at h
     simp only[Nat.testBit_or,Bool.or_eq_true] at h
     rcases h with(h|h)|h
     · exact .inl h
     · exact .inr ⟨e,by simp,ad,.inl (LU _ _ h)⟩
     · exact .inr ⟨e,by simp,ad,.inr h⟩
  · exact .inr ⟨b_,by simp[h1],aa⟩
theorem LV{ops:Array Oper}{fe:List Nat}{n:Nat}{o:Oper}(aN:ops[n]? =some o)(ad:mi o n=true)(hm:uO ops n fe):Sound ops n (tM fe n o):=by
 intro S eY ah b h
 unfold tM at h
 rw[<-Array.foldl_toList] at h
 rcases EP _ _ _ h with h|⟨e,h1,aa,ao⟩
 · simp at h
 · have he:e∈o.after:=by simpa using h1
   have xz:=ah o aN e he aa
   rcases ao with rfl|ao
   · exact xz
   · have bN:e.on<n:=by
       unfold mi at ad
       rw[List.all_eq_true] at ad
       have:=ad e h1
       simpa[aa] using this
     obtain⟨m,Ap,xC⟩:=hm e.on bN
     rw[Ap] at ao
     exact xC S eY (eY _ xz) b ao
theorem uO.cons{ops:Array Oper}{fe:List Nat}{n m:Nat}(h:uO ops n fe)(ae:Sound ops n m):uO ops (n+1) (m::fe):=by
 intro j aG
 by_cases e:j=n
 · subst e;exact⟨m,by simp[nth],ae⟩
 · obtain⟨n0,h1,aa⟩:=h j (by omega)
   refine⟨n0,?_,aa⟩
   have:n+1-1-j=(n-1-j)+1:=by omega
   rw[this];exact h1
theorem ER:∀(l:List Oper) (n:Nat) (loc:List (Nat×Acc)) (k:Nat) (o:Oper),l[k]? =some o->hh (l.take (k+1)) n loc=fB o (n+k) (hh (l.take k) n loc)
 |[],n,loc,k,o,h=>by simp at h
 |x::l,n,loc,0,o,h=>by simp at h;subst h;simp[hh]
 |x::l,n,loc,k+1,o,h=>by
  have ai:l[k]? =some o:=by simpa using h
  have a7:=ER l (n+1) (fB x n loc) k o ai
  simp only[List.take_succ_cons,hh]
  rw[a7]
  have:n+1+k=n+(k+1):=by omega
  rw[this]
theorem uP{ops:Array Oper}:∀(l:List Oper) (n:Nat) (loc:List (Nat×Acc)) (fe:List Nat),(∀k,l[k]? =ops[n+k]?)->(∀s∈dR l n loc fe,mi s.o s.i=true)->uO ops n fe->∀(k:Nat) (o:Oper),l[k]? =some o->
  ∃s,(dR l n loc fe)[k]? =some s/\s.i=n+k/\s.o=o/\s.loc=hh (l.take k) n loc/\Sound ops (n+k) s.dF
 |[],n,loc,fe,aq,he,hm,k,o,h=>by simp at h
 |x::l,n,loc,fe,aq,he,hm,k,o,h=>by
  simp only[dR] at he⊢
  have U:ops[n]? =some x:=by have:=aq 0;simpa using this.symm
  have ad:mi x n=true:=he ⟨n,x,tM fe n x,loc⟩ (by simp)
  have ae:=LV U ad hm
  cases k with
  |zero=>
   simp at h;subst h
   exact⟨_,rfl,rfl,rfl,rfl,ae⟩
  |succ k=>
   obtain⟨s,h1,aa,ao,aM,bA⟩:=uP l (n+1) (fB x n loc) (tM fe n x::fe) (λj=>by have:=aq (j+1);simp at this;rw[this];congr 1;omega) (λs ae=>he s (by simp[ae])) (hm.cons ae) k o (by simpa using h)
   exact⟨s,by simpa using h1,by omega,ao,by simpa[hh] using aM,by rw[show n+(k+1)=n+1+k by omega];exact bA⟩
theorem Aq:∀(l:List Oper) (n:Nat) (loc:List (Nat×Acc)) (fe:List Nat),(dR l n loc fe).length=l.length
 |[],_,_,_=>rfl
 |x::l,n,loc,fe=>by simp[dR,Aq l]
theorem sr{ops:Array Oper}:∀{l:List DStep},nP ops l=true->∀s∈l,mi s.o s.i=true
 |[],_,s,h=>by cases h
 |x::l,al,s,h=>by
  simp only[nP,Bool.and_eq_true] at al
  rcases List.mem_cons.1 h with rfl|h
  · exact al.1.1
  · exact sr al.2 s h
theorem ES{ops:Array Oper}{s:DStep}:∀{l:List DStep},wM ops s l=true->∀aD∈l,(∃t,s.o.dst=some t/\t∈ka ops aD.o)\/(∃t,aD.o.dst=some t/\t∈ka ops s.o)->Nat.testBit aD.dF s.i=true
 |[],_,aD,h=>by cases h
 |x::l,al,aD,h=>by
  simp only[wM,Bool.and_eq_true] at al
  rcases List.mem_cons.1 h with rfl|h
  · intro aB
    have h1:=al.1
    split at h1
    · exact h1
    · rename_i ab
      exfalso
      rw[Bool.or_eq_false_iff] at ab
      rcases aB with⟨t,e,hm⟩|⟨t,e,hm⟩
      · have:=ab.1;rw[e] at this;simp[hm] at this
      · have:=ab.2;rw[e] at this;simp[hm] at this
  · exact ES al.2 aD h
theorem ET{ops:Array Oper}:∀{l:List DStep},nP ops l=true->∀(i j:Nat) (s aD:DStep),i<j->l[i]? =some s->l[j]? =some aD->(∃t,s.o.dst=some t/\t∈ka ops aD.o)\/(∃t,aD.o.dst=some t/\t∈ka ops s.o)->Nat.testBit aD.dF s.i=true
 |[],_,i,j,s,aD,_,h,_=>by simp at h
 |x::l,al,i,j,s,aD,mF,h1,aa=>by
  simp only[nP,Bool.and_eq_true] at al
  cases j with
  |zero=>omega
  |succ j=>
   have uQ:l[j]? =some aD:=by simpa using aa
   cases i with
   |zero=>
    simp at h1;subst h1
    exact ES al.1.2 aD (List.mem_of_getElem? uQ)
   |succ i=>exact ET al.2 i j s aD (by omega) (by simpa using h1) uQ
structure qH where
 env:List I
 d:List bo
 q:aJ
 h:J
 aV:List (Nat×Nat×J)
section
variable {P:Program} {need:Nat} {inR:Bool} {call:cM->List I->J->bL} {ops:Array Oper} {r:aC} {bW:Nat}
def im(P:Program)(need:Nat)(r:aC)(s:DStep)(env:List I):Operand->I:=λx=>b9 s.i env r (bM P need s.loc x)
inductive qI(P:Program)(need:Nat)(inR:Bool)(call:cM->List I->J->bL)(ops:Array Oper)(r:aC)(bW:Nat)(s:DStep)(st:qH):qH->Prop where
 |qJ (hk:kindOf P s.o.op=.alloc) (hw:c8 (eg P need ops r s.i st.env s)=some false):qI P need inR call ops r bW s st {st with env:=.aF []::st.env}
 |alloc {v:I} {bX:b2} (hk:kindOf P s.o.op=.alloc) (hw:c8 (eg P need ops r s.i st.env s)=some true) (aH:gI P s.o.op (im P need r s st.env) (bW+s.i)=some (v,bX)):
   qI P need inR call ops r bW s st {st with env:=v::st.env,h:=st.h.set (bW+s.i) (some bX)}
 |pure {v:I} {d':List bo} {aR:aJ} {ai:J} (hk:kindOf P s.o.op=.pure) (he:c5 P inR call (eg P need ops r s.i st.env s) s.o (im P need r s st.env) st.d st.q st.h=.ok v d' aR ai):
   qI P need inR call ops r bW s st {st with env:=v::st.env}
 |dk {v:I} {d':List bo} {aR:aJ} {ai:J} (hk:kindOf P s.o.op=.dk) (aN:∀e m ay l,st.aV=(e,m,ay)::l->Nat.testBit s.dF e=true)
   (he:c5 P inR call (eg P need ops r s.i st.env s) s.o (im P need r s st.env) st.d st.q st.h=.ok v d' aR ai):qI P need inR call ops r bW s st ⟨v::st.env,d',aR,ai,(s.i,s.dF,st.h)::st.aV⟩
theorem LW{s:DStep}{rest:List DStep}{st:qH}{x:zh}(h:e4 P need inR call ops r bW (s::rest) st.env st.d st.q st.h st.aV=x)(hf:∀w,x≠ .fail w):
  (∃bp,qI P need inR call ops r bW s st bp/\e4 P need inR call ops r bW rest bp.env bp.d bp.q bp.h bp.aV=x)\/
  (kindOf P s.o.op=.dk/\(∀e m ay l,st.aV=(e,m,ay)::l->Nat.testBit s.dF e=true)/\rest.all (λaD=>Nat.testBit aD.dF s.i)=true/\
   ∃v d' aR ai,c5 P inR call (eg P need ops r s.i st.env s) s.o (im P need r s st.env) st.d st.q st.h=.bm v d' aR ai/\x=.bm v st.env d' aR ai ((s.i,s.dF,st.h)::st.aV)):=by
 simp only[e4] at h
 split at h
 · rename_i hk
   split at h
   · exact absurd h.symm (hf _)
   · rename_i hw;exact .inl ⟨_,.qJ hk hw,h⟩
   · rename_i hw
     split at h
     · rename_i v bX aH;exact .inl ⟨_,.alloc hk hw aH,h⟩
     · exact absurd h.symm (hf _)
 · rename_i hk
   split at h
   · rename_i he;exact .inl ⟨_,.pure hk he,h⟩
   · exact absurd h.symm (hf _)
   · exact absurd h.symm (hf _)
 · rename_i hk
   split at h
   · exact absurd h.symm (hf _)
   · rename_i aN
     have gO:∀e m ay l,st.aV=(e,m,ay)::l->Nat.testBit s.dF e=true:=λe m ay l ae=>by rw[ae] at aN;exact aN
     split at h
     · rename_i he;exact .inl ⟨_,.dk hk gO he,h⟩
     · rename_i he
       split at h
       · rename_i dn;exact .inr ⟨hk,gO,dn,_,_,_,_,he,h.symm⟩
       · exact absurd h.symm (hf _)
     · exact absurd h.symm (hf _)
theorem EU:∀(l:List DStep) (st:qH) (x:zh),e4 P need inR call ops r bW l st.env st.d st.q st.h st.aV=x->(∀w,x≠ .fail w)->
  ∃(f:Nat->qH) (N:Nat),f 0=st/\N<=l.length/\(∀k s,k<N->l[k]? =some s->qI P need inR call ops r bW s (f k) (f (k+1)))/\
   ((N=l.length/\x=.ok (f N).env (f N).d (f N).q (f N).h (f N).aV)\/
    (∃s,l[N]? =some s/\kindOf P s.o.op=.dk/\(∀e m ay l,(f N).aV=(e,m,ay)::l->Nat.testBit s.dF e=true)/\(∀k aD,N<k->l[k]? =some aD->Nat.testBit aD.dF s.i=true)/\
     ∃v d' aR ai,c5 P inR call (eg P need ops r s.i (f N).env s) s.o (im P need r s (f N).env) (f N).d (f N).q (f N).h=.bm v d' aR ai/\x=.bm v (f N).env d' aR ai ((s.i,s.dF,(f N).h)::(f N).aV)))
 |[],st,x,h,hf=>⟨λ_=>st,0,rfl,Nat.le_refl _,λk s hk=>by omega,.inl ⟨rfl,h.symm⟩⟩
 |s::l,st,x,h,hf=>by
  rcases LW h hf with⟨bp,h1,aa⟩|⟨h1,aa,ao,aM⟩
  · obtain⟨f,N,g1,g2,g3,g4⟩:=EU l bp x aa hf
    refine⟨λk=>match k with|0=>st|k+1=>f k,N+1,rfl,by simpa using g2,λk aD hk ae=>?_,?_⟩
    · cases k with
      |zero=>simp at ae;subst ae;simp only[Nat.zero_add,g1];exact h1
      |succ k=>exact g3 k aD (by omega) (by simpa using ae)
    · rcases g4 with⟨aw,ar⟩|⟨s2,aw,ar,bn,cR,fD⟩
      · exact .inl ⟨by simp[aw],ar⟩
      · refine .inr ⟨s2,by simpa using aw,ar,bn,λk aD hk ae=>?_,fD⟩
        cases k with
        |zero=>omega
        |succ k=>exact cR k aD (by omega) (by simpa using ae)
  · refine⟨λ_=>st,0,rfl,by simp,λk s hk=>by omega,.inr ⟨s,rfl,h1,aa,λk aD hk ae=>?_,aM⟩⟩
    cases k with
    |zero=>omega
    |succ k=>
     rw[List.all_eq_true] at ao
     exact ao aD (List.mem_of_getElem? (by simpa using ae))
mutual
theorem beq_eq:∀(a c:I),I.beq a c=true->a=c
 |.bool a,c,h=>by
  cases c<;>simp only[I.beq] at h<;>first|(cases h;done)|(simp at h;subst h;rfl)
 |.int k n,c,h=>by
  cases c<;>simp only[I.beq] at h<;>first|(cases h;done)|(simp[dQ] at h;obtain⟨rfl,rfl⟩:=h;rfl)
 |.str s,c,h=>by
  cases c<;>simp only[I.beq] at h<;>first|(cases h;done)|(rw[hA] at h;simp at h;subst h;rfl)
 |.d_,c,h=>by cases c<;>simp only[I.beq] at h<;>first|(cases h;done)|rfl
 |.ptr x y,c,h=>by
  cases c<;>simp only[I.beq] at h<;>first|(cases h;done)|(rw[Bool.and_eq_true,Nat.beq_eq,Nat.beq_eq] at h;obtain⟨rfl,rfl⟩:=h;rfl)
 |.bK,c,h=>by cases c<;>simp only[I.beq] at h<;>first|(cases h;done)|rfl
 |.slice x y z cap,c,h=>by
  cases c<;>simp only[I.beq] at h<;>(try (cases h;done))
  rename_i Ar JD T8 LX
  simp only[Bool.and_eq_true,Nat.beq_eq] at h
  obtain⟨⟨⟨rfl,rfl⟩,rfl⟩,h⟩:=h
  cases cap<;>cases LX<;>simp only[cy.beq] at h<;>first|(cases h;done)|(rw[Nat.beq_eq] at h;subst h;rfl)|rfl
 |.gw,c,h=>by cases c<;>simp only[I.beq] at h<;>first|(cases h;done)|rfl
 |.map x,c,h=>by
  cases c<;>simp only[I.beq] at h<;>first|(cases h;done)|(rw[Nat.beq_eq] at h;subst h;rfl)
 |.h8,c,h=>by cases c<;>simp only[I.beq] at h<;>first|(cases h;done)|rfl
 |.fn x as bs,c,h=>by
  cases c<;>simp only[I.beq] at h<;>(try (cases h;done))
  simp only[Bool.and_eq_true,Nat.beq_eq] at h
  obtain⟨⟨rfl,h1⟩,aa⟩:=h
  rw[ss _ _ h1,ss _ _ aa]
 |.bY x,c,h=>by
  cases c<;>simp only[I.beq] at h<;>first|(cases h;done)|(rw[Nat.beq_eq] at h;subst h;rfl)
 |.dY,c,h=>by cases c<;>simp only[I.beq] at h<;>first|(cases h;done)|rfl
 |.iface t v,c,h=>by
  cases c<;>simp only[I.beq] at h<;>(try (cases h;done))
  simp only[Bool.and_eq_true,Nat.beq_eq] at h
  obtain⟨rfl,h1⟩:=h
  rw[beq_eq _ _ h1]
 |.agg cs,c,h=>by
  cases c<;>simp only[I.beq] at h<;>(try (cases h;done))
  rw[ss _ _ h]
 |.aF cs,c,h=>by
  cases c<;>simp only[I.beq] at h<;>(try (cases h;done))
  rw[ss _ _ h]
 |.bad,c,h=>by cases c<;>simp only[I.beq] at h<;>cases h
theorem ss:∀(a c:List I),I.lx a c=true->a=c
 |[],[],_=>rfl
 |[],_::_,h=>by simp[I.lx] at h
 |_::_,[],h=>by simp[I.lx] at h
 |x::a,y::c,h=>by
  simp only[I.lx,Bool.and_eq_true] at h
  rw[beq_eq _ _ h.1,ss _ _ h.2]
end
end
end aU
