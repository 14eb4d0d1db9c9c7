/-
  THE ABSTRACT EVALUATOR (code, functions, rounds, calls): a deterministic semantics of loaded code, and the proof that its runs are runs of the program in the model, whatever the tape draws. No condition.
-/
import Derived.Test.YtjkomfonmcmgdaaDoorAeb
import Derived.Defers
import Derived.Laws.Externs
import Derived.Orders
set_option linter.unusedVariables false
set_option linter.unusedSimpArgs false
namespace a8
open Go
def kI(P:Program)(need:Nat)(ops:Array Oper):List Oper->List (Nat×Acc)->Nat->List Step
 |[],_,_=>[]
 |o::rest,loc,m=>
  match aliasOf o with
  |some (t,x)=>kI P need ops rest ((t,cl P need loc x)::loc) m
  |none=>⟨il P need ops loc o,o,loc,m⟩::kI P need ops rest (gg o m loc) (m+1)
def jI(P:Program)(need:Nat)(ops:Array Oper):List Oper->List (Nat×Acc)->Nat->List (Nat×Acc)
 |[],loc,_=>loc
 |o::rest,loc,m=>
  match aliasOf o with
  |some (t,x)=>jI P need ops rest ((t,cl P need loc x)::loc) m
  |none=>jI P need ops rest (gg o m loc) (m+1)
theorem BB(P:Program)(need:Nat)(ops:Array Oper):∀(l:List Oper) (loc:List (Nat×Acc)) (st:List Step) (m:Nat),sR P need ops l loc st m=⟨st.reverse++kI P need ops l loc m,jI P need ops l loc m⟩
 |[],loc,st,m=>by simp[sR,kI,jI]
 |o::rest,loc,st,m=>by
  unfold sR kI jI
  cases aw:aliasOf o with
  |some p=>obtain⟨t,x⟩:=p;simp only[aw];exact BB P need ops rest _ st m
  |none=>simp only[aw];rw[BB P need ops rest];simp
section
variable {P:Program} {need:Nat}
theorem mK(t u:Nat)(a:Acc)(l:List (Nat×Acc)):g4 t ((u,a)::l)=if t=u then some a else g4 t l:=by
 rw[g4]
 by_cases h:t=u
 · subst h;simp
 · have:Nat.beq t u=false:=by
     cases ae:Nat.beq t u with
     |false=>rfl
     |true=>exact absurd (Nat.eq_of_beq_eq_true ae) h
   rw[this,if_neg h]
def Acc.below(m:Nat):Acc->Prop
 |.env j=>j<m
 |_=>True
theorem Oi{m:Nat}{env:List I}{r:aN}{v:I}{a:Acc}(h:a.below m):c1 (m+1) (v::env) r a=c1 m env r a:=by
 cases a with
 |env j=>
  simp only[Acc.below] at h
  have:m+1-1-j=(m-1-j)+1:=by omega
  simp only[c1,this,nth]
 |j1 p=>rfl
 |val v=>rfl
theorem Oj{m:Nat}{env:List I}{r:aN}{v:I}:c1 (m+1) (v::env) r (.env m)=v:=by
 simp[c1,nth]
def BC(m:Nat)(loc:List (Nat×Acc)):Prop:=∀t a,g4 t loc=some a->a.below m
theorem yk{m:Nat}{loc:List (Nat×Acc)}(h:BC m loc)(x:Operand):(cl P need loc x).below m:=by
 cases x with
 |tmp t=>
  simp only[cl]
  cases hf:g4 t loc with
  |some a=>exact h t a hf
  |none=>simp only[];cases Nat.testBit need t<;>trivial
 |const v=>trivial
 |global g=>simp only[cl];cases Nat.blt g P.globals.size<;>trivial
 |func f=>trivial
theorem Acc.Gj{m n:Nat}(h:m<=n){a:Acc}(aw:a.below m):a.below n:=by
 cases a with
 |env j=>exact Nat.lt_of_lt_of_le aw h
 |j1 p=>trivial
 |val v=>trivial
structure h7(P:Program)(need:Nat)(μ:bb)(r:aN)(m:Nat)(env:List I)(loc:List (Nat×Acc))(bQ:Array Value):Prop where
 td:BC m loc
 rel:∀t,a2 μ (c1 m env r (cl P need loc (.tmp t))) (bQ.getD t undef)
theorem h7.mono{μ aK:bb}{r:aN}{m:Nat}{env:List I}{loc:List (Nat×Acc)}{bQ:Array Value}(hle:ej μ aK)(h:h7 P need μ r m env loc bQ):h7 P need aK r m env loc bQ:=⟨h.td,λt=>(h.rel t).mono hle⟩
theorem h7.eval{μ:bb}{r:aN}{m:Nat}{env:List I}{loc:List (Nat×Acc)}{a:Act}(h:h7 P need μ r m env loc a.tmps)(aj:gm P μ)(x:Operand):a2 μ (c1 m env r (cl P need loc x)) (a.eval x):=by
 cases x with
 |tmp t=>exact h.rel t
 |const v=>exact iP μ v
 |global g=>
  simp only[cl,Act.eval]
  cases ae:Nat.blt g P.globals.size with
  |false=>exact trivial
  |true=>
   obtain⟨i,aa,ad,aq⟩:=aj g (by simpa using ae)
   obtain⟨gk,i0,vq⟩:=i
   simp only at ad aq
   subst ad;subst aq
   exact⟨_,aa,rfl⟩
 |func f=>exact⟨[],[],rfl,rfl,rfl⟩
theorem h7.init{μ:bb}{r:aN}{bQ:Array Value}(h:hA need μ r bQ):h7 P need μ r 0 [] [] bQ:=
 ⟨λt a h=>by simp[g4] at h,λt=>by
  simp only[cl,g4]
  cases ae:Nat.testBit need t with
  |true=>exact h t ae
  |false=>trivial⟩
theorem vF{bQ:Array Value}{d t:Nat}{u:Value}(ak:d<bQ.size):(bQ.setIfInBounds d u).getD t undef=if t=d then u else bQ.getD t undef:=by
 simp only[Array.getD_eq_getD_getElem?,Array.getElem?_setIfInBounds]
 by_cases h:d=t
 · subst h;simp[ak]
 · rw[if_neg h,if_neg (λe=>h e.symm)]
theorem h7.alias{μ:bb}{r:aN}{m:Nat}{env:List I}{loc:List (Nat×Acc)}{a:Act}(h:h7 P need μ r m env loc a.tmps)(aj:gm P μ){t:Nat}(bm:t<a.tmps.size)(x:Operand):
  h7 P need μ r m env ((t,cl P need loc x)::loc) (a.put (some t) (a.eval x)).tmps:=by
 refine⟨λu b hu=>?_,λu=>?_⟩
 · rw[mK] at hu
   split at hu
   · cases hu;exact yk h.td x
   · exact h.td u b hu
 · simp only[cl,mK,Act.put]
   rw[vF bm]
   by_cases e:u=t
   · simp only[e,if_true];exact h.eval aj x
   · simp only[e,if_false];exact h.rel u
theorem h7.step{μ:bb}{r:aN}{m:Nat}{env:List I}{loc:List (Nat×Acc)}{a:Act}(h:h7 P need μ r m env loc a.tmps){o:Oper}(bm:∀t,o.dst=some t->t<a.tmps.size){v:I}{u:Value}(aD:a2 μ v u):
  h7 P need μ r (m+1) (v::env) (gg o m loc) (a.put o.dst u).tmps:=by
 have old:∀t,a2 μ (c1 (m+1) (v::env) r (cl P need loc (.tmp t))) (a.tmps.getD t undef):=λt=>by
  rw[Oi (yk h.td _)];exact h.rel t
 unfold gg
 cases ak:o.dst with
 |none=>exact⟨λt b ae=>Acc.Gj (Nat.le_succ m) (h.td t b ae),old⟩
 |some d=>
  refine⟨λt b ae=>?_,λt=>?_⟩
  · rw[mK] at ae
    split at ae
    · cases ae;exact Nat.lt_succ_self m
    · exact Acc.Gj (Nat.le_succ m) (h.td t b ae)
  · simp only[Act.put]
    rw[vF (bm d ak)]
    by_cases e:t=d
    · simp only[cl,mK,e,if_true,Oj];exact aD
    · have:=old t
      simp only[cl,mK,e,if_false] at this⊢
      exact this
theorem Gk{ops:Array Oper}{bQ:Array Value}{j t:Nat}(h:(ops[j]?).bind (·.dst)=some t):yielded ops bQ j=match bQ.getD t undef with
  |.bool b=>some b
  |_=>none:=by
 unfold yielded
 rw[h,Option.bind_some]
 rw[Array.getD_eq_getD_getElem?]
 cases ah:bQ[t]? with
 |none=>rfl
 |some v=>simp only[Option.getD_some];cases v<;>rfl
theorem Ok{μ:bb}{ops:Array Oper}{loc:List (Nat×Acc)}{o:Oper}{acc:Acc->I}{bQ:Array Value}(gz:∀t,a2 μ (acc (cl P need loc (.tmp t))) (bQ.getD t undef))(j7:∀v,acc (.val v)=v):
  ∀nL,dC (match il P need ops loc o with|none=>none|some (a,b)=>some (acc a,b))=some nL->Region.wanted o (yielded ops bQ)=nL:=by
 intro nL h
 unfold il at h
 unfold Region.wanted
 cases aj:o.guard with
 |none=>rw[aj] at h;simp only[dC] at h;cases h;rfl
 |some p=>
  obtain⟨j,b⟩:=p
  rw[aj] at h
  simp only at h⊢
  cases bm:(ops[j]?).bind (·.dst) with
  |none=>rw[bm] at h;simp only[j7,dC] at h;cases h
  |some t=>
   rw[bm] at h
   simp only at h
   have ai:=gz t
   rw[Gk bm]
   generalize acc (cl P need loc (.tmp t))=v at h ai
   unfold dC at h
   split at h
   · rename_i he;cases he
   · rename_i he;cases he;cases h
     have BD:bQ.getD t undef=_:=ai
     rw[BD];rfl
   · rename_i he;cases he;cases h
     obtain⟨l,ar,vG⟩:=ai
     cases vG
     rw[ar];rfl
   · cases h
def BE:List Item->Prop
 |.call _ _ _ _::_=>False
 |_=>True
def mL(P:Program)(need bx:Nat)(μ:bb)(r:aN)(H:ab)(w:World)(b:Frame)(k:List Item)(cs0:List Frame)(eN:Machine)(loc:List (Nat×Acc)):k3->Prop
 |.ok env aW a0 aI=>∃aK w' cb bw,Steps P eN (lone (b.atR cb k) bw w')/\h7 P need aK r env.length env loc cb.tmps/\cb.tmps.size=bx/\bc aK aI w'/\bN μ H w aK aI w'/\fh aK aW cb.defers/\gA aK b.kind cs0 a0 bw
 |.bK v aW a0 aI=>∃aK w' cb bw u b2,Steps P eN (lone {b.atR cb b2 with mode:=.panicking [{v:=u,recovered:=false}]} bw w')/\BE b2/\a2 aK v u/\
   (∀t,g4 t loc=none->Nat.testBit need t=true->a2 aK (r.get (fV t)) (cb.tmps.getD t undef))/\cb.tmps.size=bx/\bc aK aI w'/\bN μ H w aK aI w'/\fh aK aW cb.defers/\gA aK b.kind cs0 a0 bw
 |.fail _=>True
theorem mL.of_steps{bx:Nat}{μ gP:bb}{r:aN}{H H1:ab}{w cz:World}{b:Frame}{k:List Item}{cs0:List Frame}{eN aR:Machine}{loc:List (Nat×Acc)}{x:k3}(ah:bc μ H w)(hR:bc gP H1 cz)(h:Steps P eN aR)(aw:bN μ H w gP H1 cz)
  (aa:mL P need bx gP r H1 cz b k cs0 aR loc x):mL P need bx μ r H w b k cs0 eN loc x:=by
 cases x with
 |ok env d q aI=>
  obtain⟨aK,w',cb,bw,s1,s2,cq,b9,cg,cT⟩:=aa
  exact⟨aK,w',cb,bw,h.trans s1,s2,cq,b9,bN.trans ah hR aw cg,cT⟩
 |bK v d q aI=>
  obtain⟨aK,w',cb,bw,u,b2,s1,rn,s2,cq,b9,cg,cT,dn⟩:=aa
  exact⟨aK,w',cb,bw,u,b2,h.trans s1,rn,s2,cq,b9,cg,bN.trans ah hR aw cT,dn⟩
 |fail s=>trivial
theorem BF{ops:Array Oper}:∀(l:List Oper) (loc:List (Nat×Acc)) (m t:Nat),g4 t (jI P need ops l loc m)=none->g4 t loc=none
 |[],loc,m,t,h=>h
 |o::rest,loc,m,t,h=>by
  unfold jI at h
  cases aw:aliasOf o with
  |some p=>
   obtain⟨u,x⟩:=p
   rw[aw] at h
   have:=BF rest _ m t h
   rw[mK] at this
   split at this
   · cases this
   · exact this
  |none=>
   rw[aw] at h
   have:=BF rest _ _ t h
   unfold gg at this
   split at this
   · rw[mK] at this
     split at this
     · cases this
     · exact this
   · exact this
theorem Ol{o:Oper}{t:Nat}{x:Operand}(h:aliasOf o=some (t,x)):o.guard=none/\o.dst=some t/\∀b6,execOp b6 o=pure (.value (b6 x)):=by
 unfold aliasOf at h
 split at h
 · rename_i aa ad aq;cases h;exact⟨aa,ad,λb6=>by simp[execOp,aq]⟩
 · rename_i aa ad aq;cases h;exact⟨aa,ad,λb6=>by simp[execOp,aq]⟩
 · cases h
theorem vH(a:Act)(dst:Option Tmp)(u:Value):(a.put dst u).tmps.size=a.tmps.size:=by cases dst<;>simp[Act.put]
theorem yl{call:dB->List I->ab->a7}(af:h6 P call){bx:Nat}{ops:Array Oper}(jn:∀o∈ops.toList,∀t,o.dst=some t->t<bx){b:Frame}{inR:Bool}(eT:inR=b.roundOf.isSome){r:aN}{k:List Item}{cs0:List Frame}:
  ∀(l:List Oper) (i0:Nat) (loc:List (Nat×Acc)) (m:Nat) (env:List I) (d:List bz) (q:bu) (μ:bb) (H:ab) (w:World) (a:Act) (cs:List Frame),ops.toList.drop i0=l->env.length=m->
   h7 P need μ r m env loc a.tmps->a.tmps.size=bx->bc μ H w->gm P μ->fh μ d a.defers->gA μ b.kind cs0 q cs->
   mL P need bx μ r H w b k cs0 (lone (b.atR a (.inRegion ops (List.range' i0 l.length)::k)) cs w) (jI P need ops l loc m) (hh P need inR call r (kI P need ops l loc m) env d q H)
 |[],i0,loc,m,env,d,q,μ,H,w,a,cs,ar,hm,nM,bh,ah,aj,ak,aE=>by
  subst hm
  exact⟨μ,w,a,cs,.one stepR_region_end,nM,bh,ah,bN.refl _ _ _,ak,aE⟩
 |o::rest,i0,loc,m,env,d,q,μ,H,w,a,cs,ar,hm,nM,bh,ah,aj,ak,aE=>by
  have aQ:ops[i0]? =some o:=by
   have:=congrArg List.head? ar
   simpa[List.head?_drop] using this
  have lU:ops.toList.drop (i0+1)=rest:=by
   have:=congrArg List.tail ar
   simpa[List.tail_drop] using this
  have iC:o∈ops.toList:=by
   rw[<-Array.getElem?_toList] at aQ
   exact List.mem_of_getElem? aQ
  have ym:∀t,o.dst=some t->t<a.tmps.size:=λt h=>by rw[bh];exact jn o iC t h
  rw[List.length_cons,List.range'_succ]
  unfold kI jI
  cases aw:aliasOf o with
  |some p=>
   obtain⟨t,x⟩:=p
   simp only
   obtain⟨b8,cG,dw⟩:=Ol aw
   have hw:Region.wanted o (yielded ops a.tmps)=true:=by simp[Region.wanted,b8]
   have bY:=stepGR_op (P:=P) (b:=b) (a:=a) (k:=k) (cs:=cs) (w:=w) (rest:=List.range' (i0+1) rest.length) aQ hw
   have rm:o.semAt b.roundOf a.eval=execOp a.eval o:=by
    refine Oper.semAt_eq _ _ _ λc e=>?_
    have:=dw a.eval
    unfold aliasOf at aw
    rw[e] at aw
    split at aw
    · rename_i h;cases h
    · rename_i h;cases h
    · cases aw
   rw[rm] at bY
   obtain⟨al,_⟩:=yg bY
   have hs:=al (a.eval x) w (by rw[dw];rfl)
   have k7:(b.atR a (.inRegion ops (i0::List.range' (i0+1) rest.length)::k)).finish (a.eval x)=b.atR (a.put (some t) (a.eval x)) (.inRegion ops (List.range' (i0+1) rest.length)::k):=by
    rw[Frame.finish_atR,aQ]
    simp only[Option.bind_some,cG]
   rw[k7] at hs
   have a3:=yl (k:=k) af jn eT rest (i0+1) ((t,cl P need loc x)::loc) m env d q μ H w (a.put (some t) (a.eval x)) cs lU hm (nM.alias aj (ym t cG) x) ((vH _ _ _).trans bh) ah aj (by rw[put_defers];exact ak) aE
   exact a3.of_steps ah ah hs (bN.refl _ _ _)
  |none=>
   simp only[hh]
   have eU:=Gh (P:=P) af ah aj (b:=b) (a:=a) (ops:=ops) (i:=i0) (rest:=List.range' (i0+1) rest.length) (k:=k) (cs0:=cs0) (cs:=cs) aQ (gd:=match il P need ops loc o with|none=>none|some (x,c)=>some (c1 m env r x,c))
    (Ok (acc:=c1 m env r) nM.rel (λv=>rfl)) (g:=λx=>c1 m env r (cl P need loc x)) (λx=>nM.eval aj x) ak aE eT
   generalize dc P inR call (match il P need ops loc o with|none=>none|some (x,c)=>some (c1 m env r x,c)) o (λx=>c1 m env r (cl P need loc x)) d q H=res at eU⊢
   cases res with
   |ok v aW a0 aI=>
    obtain⟨aK,w',u,rl,bw,s1,s2,cq,b9,cg,cT⟩:=eU
    have BG:=(nM.mono b9.le).step (a:=a) (o:=o) ym s2
    have a3:=yl (k:=k) af jn eT rest (i0+1) (gg o m loc) (m+1) (v::env) aW a0 aK aI w' {tmps:=(a.put o.dst u).tmps,defers:=rl} bw lU (by simp[hm]) BG ((vH _ _ _).trans bh) cq (aj.mono b9.le) cg cT
    exact a3.of_steps ah cq s1 b9
   |bK v aW a0 aI=>
    obtain⟨aK,w',u,s1,s2,cq,b9,cg,cT⟩:=eU
    refine⟨aK,w',a,cs,u,_,s1,trivial,s2,λt bm aH=>?_,bh,cq,b9,cg,cT⟩
    have h0:=BF (P:=P) (need:=need) (ops:=ops) rest _ _ t bm
    have aa:g4 t loc=none:=by
     unfold gg at h0
     split at h0
     · rw[mK] at h0
       split at h0
       · cases h0
       · exact h0
     · exact h0
    have:=(nM.mono b9.le).rel t
    simp only[cl,aa,aH,c1] at this
    exact this
   |fail s=>trivial
end
end a8
namespace a8
open Go
section
variable {P:Program} {need:Nat}
theorem Gl(need m:Nat)(env:List I)(eM:aN):∀(loc:List (Nat×Acc)) (r:aN) (t:Nat),Nat.testBit need t=true->
  (nw need m env eM loc r).get (fV t)=match g4 t loc with|some a=>c1 m env eM a|none=>r.get (fV t)
 |[],r,t,bm=>rfl
 |(u,a)::l,r,t,bm=>by
  rw[mK]
  simp only[nw]
  by_cases e:t=u
  · subst e
    simp only[bm,if_true,aN.cD]
  · have a3:=Gl need m env eM l r t bm
    cases hu:Nat.testBit need u with
    |true=>simp only[aN.cD,if_neg e,a3]
    |false=>simp only[if_neg e,a3]
theorem Gm:∀(loc:List (Nat×Acc)) (r:aN) (t:Nat),(sS loc r).get (fV t)=match g4 t loc with|some a=>.bad|none=>r.get (fV t)
 |[],r,t=>rfl
 |(u,a)::l,r,t=>by
  rw[mK]
  simp only[sS,aN.cD]
  by_cases e:t=u
  · simp only[e,if_true]
  · simp only[if_neg e,Gm l r t]
theorem h7.outs{μ:bb}{r:aN}{m:Nat}{env:List I}{loc:List (Nat×Acc)}{bQ:Array Value}(h:h7 P need μ r m env loc bQ):hA need μ (nw need m env r loc r) bQ:=by
 intro t bm
 rw[Gl need m env r loc r t bm]
 have:=h.rel t
 simp only[cl,bm] at this
 cases hf:g4 t loc with
 |some a=>rw[hf] at this;exact this
 |none=>rw[hf] at this;exact this
theorem rp{e:bk}{r:aN}{d:List bz}{q:bu}{h:ab}{f:aN->List bz->bu->ab->ik}(he:e≠ .nrm):om (.ok e r d q h) f=.ok e r d q h:=by
 cases e<;>first|rfl|exact absurd rfl he
def p0(P:Program)(μ:bb)(eN:Machine)(b:Frame)(k:List Item)(cs:List Frame)(a:Act)(w:World):bk->Prop
 |.nrm=>Steps P eN (lone (b.atR a k) cs w)
 |.exit id=>∃b2,exitTo id b2=exitTo id k/\Steps P eN (lone (b.atR a (.code (.exit id)::b2)) cs w)
 |.ret=>∃b2,Steps P eN (lone (b.atR a (.code .ret::b2)) cs w)
 |.goto _=>False
 |.bK v=>∃b2 u,(a2 μ v u/\BE b2)/\Steps P eN (lone {b.atR a b2 with mode:=.panicking [{v:=u,recovered:=false}]} cs w)
theorem p0.of_steps{μ:bb}{eN aR:Machine}{b:Frame}{k:List Item}{cs:List Frame}{a:Act}{w:World}{e:bk}(h:Steps P eN aR)(ao:p0 P μ aR b k cs a w e):p0 P μ eN b k cs a w e:=by
 cases e with
 |nrm=>exact h.trans ao
 |exit id=>obtain⟨b2,aa,ad⟩:=ao;exact⟨b2,aa,h.trans ad⟩
 |ret=>obtain⟨b2,ad⟩:=ao;exact⟨b2,h.trans ad⟩
 |goto l=>exact ao
 |bK v=>obtain⟨b2,u,aa,ad⟩:=ao;exact⟨b2,u,aa,h.trans ad⟩
theorem p0.pass{μ:bb}{eN:Machine}{b:Frame}{x:Item}{k:List Item}{cs:List Frame}{a:Act}{w:World}{e:bk}(J:∀id,x≠ .inBlock id)(he:e≠ .nrm)(h:p0 P μ eN b (x::k) cs a w e):p0 P μ eN b k cs a w e:=by
 cases e with
 |nrm=>exact absurd rfl he
 |exit id=>
  obtain⟨b2,aa,ad⟩:=h
  refine⟨b2,aa.trans ?_,ad⟩
  cases x<;>first|rfl|exact absurd rfl (J _)
 |ret=>exact h
 |goto l=>exact h
 |bK v=>exact h
def jJ(P:Program)(need bx:Nat)(μ:bb)(H:ab)(w:World)(b:Frame)(k:List Item)(cs0:List Frame)(eN:Machine):ik->Prop
 |.ok e r' aW a0 aI=>∃aK w' cb bw,p0 P aK eN b k bw cb w' e/\hA need aK r' cb.tmps/\cb.tmps.size=bx/\bc aK aI w'/\bN μ H w aK aI w'/\fh aK aW cb.defers/\gA aK b.kind cs0 a0 bw
 |.fail _=>True
theorem jJ.of_steps{bx:Nat}{μ gP:bb}{H H1:ab}{w cz:World}{b:Frame}{k:List Item}{cs0:List Frame}{eN aR:Machine}{x:ik}(ah:bc μ H w)(hR:bc gP H1 cz)(h:Steps P eN aR)(aw:bN μ H w gP H1 cz)
  (aa:jJ P need bx gP H1 cz b k cs0 aR x):jJ P need bx μ H w b k cs0 eN x:=by
 cases x with
 |ok e r d q aI=>
  obtain⟨aK,w',cb,bw,s1,s2,cq,b9,cg,cT⟩:=aa
  exact⟨aK,w',cb,bw,s1.of_steps h,s2,cq,b9,bN.trans ah hR aw cg,cT⟩
 |fail s=>trivial
def k9(μ:bb)(b:Frame):Option Nat->Prop
 |none=>b.roundOf=none
 |some l=>∃i,μ l=some i/\b.roundOf=some i.a1
theorem k9.mono{μ aK:bb}(hle:ej μ aK){b:Frame}{rd:Option Nat}(h:k9 μ b rd):k9 aK b rd:=by
 cases rd with
 |none=>exact h
 |some l=>obtain⟨i,aa,ad⟩:=h;exact⟨i,hle _ _ aa,ad⟩
theorem k9.isSome{μ:bb}{b:Frame}{rd:Option Nat}(h:k9 μ b rd):rd.isSome=b.roundOf.isSome:=by
 cases rd with
 |none=>have:b.roundOf=none:=h;simp[this]
 |some l=>obtain⟨i,aa,ad⟩:=h;simp[ad]
def k_(P:Program)(need bx:Nat)(call:dB->List I->ab->a7):Prop:=
 ∀(ops:Array Oper) (id:Nat),(∀o∈ops.toList,∀t,o.dst=some t->t<bx)->ou ops (ei ops.toList 0 [] [])=true->
  ∀(b:Frame) (inR:Bool) (r:aN) (d:List bz) (q:bu) (H:ab) (μ:bb) (w:World) (a:Act) (k:List Item) (cs0 cs:List Frame),inR=b.roundOf.isSome->hA need μ r a.tmps->a.tmps.size=bx->bc μ H w->gm P μ->fh μ d a.defers->gA μ b.kind cs0 q cs->
   mL P need bx μ r H w b k cs0 (lone (b.atR a (.code (.region id ops true)::k)) cs w) (hQ ops.toList 0 []) (qU P need inR call ops r d q H)
def Gn(P:Program)(need bx:Nat)(call:dB->List I->ab->a7):Prop:=
 ∀(f:Operand) (ps:Array Nat) (as bV:Code),gx bx (.rangeFunc f ps as bV)=true->∀(b:Frame) (rd:Option Nat) (r:aN) (d:List bz) (q:bu) (H:ab) (μ:bb) (w:World) (a:Act) (k:List Item) (cs0 cs:List Frame),k9 μ b rd->hA need μ r a.tmps->a.tmps.size=bx->bc μ H w->gm P μ->fh μ d a.defers->gA μ b.kind cs0 q cs->
  jJ P need bx μ H w b k cs0 (lone (b.atR a (.code (.rangeFunc f ps as bV)::k)) cs w) (c2 P need rd call (.rangeFunc f ps as bV) r d q H)
theorem Om{b:Frame}{a:Act}{c:Code}{k:List Item}{cs:List Frame}{w:World}:step P (lone (b.atR a (.inScope c::k)) cs w)=.next (lone (b.atR a k) cs w):=
 step_lone_go (by simp[stepG,stepG.exec,Frame.atR])
theorem Gp{b:Frame}{a:Act}{c:Code}{k:List Item}{cs:List Frame}{w:World}:step P (lone (b.atR a (.code (.scope c)::k)) cs w)=.next (lone (b.atR a (.code c::.inScope c::k)) cs w):=
 step_lone_go (by simp[stepG,stepG.exec,Frame.atR])
theorem mL.code{bx:Nat}{μ:bb}{r:aN}{H:ab}{w:World}{b:Frame}{k:List Item}{cs0:List Frame}{eN:Machine}{loc:List (Nat×Acc)}{x:k3}(h:mL P need bx μ r H w b k cs0 eN loc x):
  jJ P need bx μ H w b k cs0 eN (k4 need r loc x):=by
 cases x with
 |ok env d q aI=>
  obtain⟨aK,w',cb,bw,s1,s2,cq,b9,cg,cT⟩:=h
  exact⟨aK,w',cb,bw,s1,s2.outs,cq,b9,cg,cT⟩
 |bK v d q aI=>
  obtain⟨aK,w',cb,bw,u,b2,s1,rn,s2,cq,b9,cg,cT,dn⟩:=h
  refine⟨aK,w',cb,bw,⟨b2,u,⟨s2,rn⟩,s1⟩,λt bm=>?_,b9,cg,cT,dn⟩
  rw[Gm]
  cases hf:g4 t loc with
  |some x=>trivial
  |none=>exact cq t hf bm
 |fail s=>trivial
def Gq(P:Program)(need bx:Nat)(call:dB->List I->ab->a7)(rd:Option Nat)(c:Code):Prop:=
 ∀(b:Frame) (r:aN) (d:List bz) (q:bu) (H:ab) (μ:bb) (w:World) (a:Act) (k:List Item) (cs0 cs:List Frame),k9 μ b rd->hA need μ r a.tmps->a.tmps.size=bx->bc μ H w->gm P μ->fh μ d a.defers->gA μ b.kind cs0 q cs->
  jJ P need bx μ H w b k cs0 (lone (b.atR a (.code c::k)) cs w) (c2 P need rd call c r d q H)
theorem Gr{bx:Nat}{call:dB->List I->ab->a7}{rd:Option Nat}{c:Code}(g6:Gq P need bx call rd c)(b:Frame)(k:List Item)(cs0:List Frame):∀(n:Nat) (r:aN) (d:List bz) (q:bu) (H:ab) (μ:bb) (w:World) (a:Act) (cs:List Frame),k9 μ b rd->hA need μ r a.tmps->a.tmps.size=bx->bc μ H w->gm P μ->fh μ d a.defers->gA μ b.kind cs0 q cs->
  jJ P need bx μ H w b k cs0 (lone (b.atR a (.code c::.inLoop c::k)) cs w) (nx (c2 P need rd call c) n r d q H)
 |0,r,d,q,H,μ,w,a,cs,cf,ai,bh,ah,aj,ak,aE=>trivial
 |n+1,r,d,q,H,μ,w,a,cs,cf,ai,bh,ah,aj,ak,aE=>by
  have aa:=g6 b r d q H μ w a (.inLoop c::k) cs0 cs cf ai bh ah aj ak aE
  unfold nx
  cases J:c2 P need rd call c r d q H with
  |fail s=>trivial
  |ok e r' aW a0 aI=>
   rw[J] at aa
   obtain⟨aK,w',cb,bw,s1,s2,cq,b9,cg,cT,dn⟩:=aa
   by_cases he:e=.nrm
   · subst he
     have a3:=Gr g6 b k cs0 n r' aW a0 aI aK w' cb bw (cf.mono cg.le) s2 cq b9 (aj.mono cg.le) cT dn
     exact a3.of_steps ah b9 (Steps.trans s1 (.one stepR_inLoop)) cg
   · rw[rp he]
     exact⟨aK,w',cb,bw,s1.pass (λid h=>by cases h) he,s2,cq,b9,cg,cT,dn⟩
theorem mM{bx:Nat}{call:dB->List I->ab->a7}(af:h6 P call)(hdr:k_ P need bx call)(kF:Gn P need bx call)(rd:Option Nat):∀(c:Code),gx bx c=true->Gq P need bx call rd c
 |.skip,_=>λb r d q H μ w a k cs0 cs cf ai bh ah aj ak aE=>⟨μ,w,a,cs,.one stepR_skip,ai,bh,ah,bN.refl _ _ _,ak,aE⟩
 |.label l,_=>λb r d q H μ w a k cs0 cs cf ai bh ah aj ak aE=>⟨μ,w,a,cs,.one stepR_label,ai,bh,ah,bN.refl _ _ _,ak,aE⟩
 |.exit id,_=>λb r d q H μ w a k cs0 cs cf ai bh ah aj ak aE=>⟨μ,w,a,cs,⟨k,rfl,Steps.refl _ _⟩,ai,bh,ah,bN.refl _ _ _,ak,aE⟩
 |.ret,_=>λb r d q H μ w a k cs0 cs cf ai bh ah aj ak aE=>⟨μ,w,a,cs,⟨k,Steps.refl _ _⟩,ai,bh,ah,bN.refl _ _ _,ak,aE⟩
 |.goto l,_=>λb r d q H μ w a k cs0 cs cf ai bh ah aj ak aE=>trivial
 |.refuse s,_=>λb r d q H μ w a k cs0 cs cf ai bh ah aj ak aE=>trivial
 |.region id ops draw,cV=>λb r d q H μ w a k cs0 cs cf ai bh ah aj ak aE=>by
  simp only[gx,Bool.and_eq_true,List.all_eq_true] at cV
  have jn:∀o∈ops.toList,∀t,o.dst=some t->t<bx:=λo aQ t bm=>by
   have:=cV.1 o aQ
   rw[bm] at this
   simpa using this
  cases draw with
  |false=>
   have h:=yl (P:=P) (need:=need) (k:=k) af jn (b:=b) (inR:=rd.isSome) cf.isSome (r:=r) (cs0:=cs0) ops.toList 0 [] 0 [] d q μ H w a cs rfl rfl (h7.init ai) bh ah aj ak aE
   have ar:List.range' 0 ops.toList.length=List.range ops.size:=by rw[List.range_eq_range'];simp
   rw[ar] at h
   have ad:=mL.code h
   have jE:nv P need ops=⟨kI P need ops ops.toList [] 0,jI P need ops ops.toList [] 0⟩:=by
    unfold nv;rw[BB];simp
   simp only[c2,jE]
   exact jJ.of_steps ah ah (.one stepR_region) (bN.refl _ _ _) ad
  |true=>
   have oG:ou ops (ei ops.toList 0 [] [])=true:=by simpa using cV.2
   have h:=hdr ops id jn oG b rd.isSome r d q H μ w a k cs0 cs cf.isSome ai bh ah aj ak aE
   simp only[c2]
   exact mL.code h
 |.seq x y,cV=>λb r d q H μ w a k cs0 cs cf ai bh ah aj ak aE=>by
  simp only[gx,Bool.and_eq_true] at cV
  have aa:=mM af hdr kF rd x cV.1 b r d q H μ w a (.code y::k) cs0 cs cf ai bh ah aj ak aE
  simp only[c2]
  cases J:c2 P need rd call x r d q H with
  |fail s=>trivial
  |ok e r' aW a0 aI=>
   rw[J] at aa
   obtain⟨aK,w',cb,bw,s1,s2,cq,b9,cg,cT,dn⟩:=aa
   by_cases he:e=.nrm
   · subst he
     have ad:=mM af hdr kF rd y cV.2 b r' aW a0 aI aK w' cb k cs0 bw (cf.mono cg.le) s2 cq b9 (aj.mono cg.le) cT dn
     exact ad.of_steps ah b9 (Steps.head stepR_seq s1) cg
   · rw[rp he]
     exact⟨aK,w',cb,bw,(s1.pass (λid h=>by cases h) he).of_steps (.one stepR_seq),s2,cq,b9,cg,cT,dn⟩
 |.cond c x y,cV=>λb r d q H μ w a k cs0 cs cf ai bh ah aj ak aE=>by
  simp only[gx,Bool.and_eq_true] at cV
  simp only[c2]
  have eD:=(h7.init (P:=P) ai).eval (a:=a) aj c
  split
  · rename_i mD
    rw[mD] at eD
    have h:=mM af hdr kF rd x cV.1 b r d q H μ w a k cs0 cs cf ai bh ah aj ak aE
    exact h.of_steps ah ah (.one (stepR_cond (t:=true) eD)) (bN.refl _ _ _)
  · rename_i mD
    rw[mD] at eD
    have h:=mM af hdr kF rd y cV.2 b r d q H μ w a k cs0 cs cf ai bh ah aj ak aE
    exact h.of_steps ah ah (.one (stepR_cond (t:=false) eD)) (bN.refl _ _ _)
  · trivial
 |.block id c,cV=>λb r d q H μ w a k cs0 cs cf ai bh ah aj ak aE=>by
  have aa:=mM af hdr kF rd c cV b r d q H μ w a (.inBlock id::k) cs0 cs cf ai bh ah aj ak aE
  simp only[c2]
  cases J:c2 P need rd call c r d q H with
  |fail s=>trivial
  |ok e r' aW a0 aI=>
   rw[J] at aa
   obtain⟨aK,w',cb,bw,s1,s2,cq,b9,cg,cT,dn⟩:=aa
   cases e with
   |nrm=>exact⟨aK,w',cb,bw,Steps.head stepR_block (Steps.trans s1 (.one stepR_inBlock)),s2,cq,b9,cg,cT,dn⟩
   |exit i=>
    obtain⟨b2,ax,av⟩:=s1
    by_cases gU:i=id
    · simp only[gU,if_true]
      subst gU
      have bq:exitTo i b2=some k:=by rw[ax];simp[exitTo]
      exact⟨aK,w',cb,bw,Steps.head stepR_block (Steps.trans av (.one (stepR_exit bq))),s2,cq,b9,cg,cT,dn⟩
    · simp only[if_neg gU]
      have:(id==i)=false:=by simp;exactλh=>gU h.symm
      exact⟨aK,w',cb,bw,⟨b2,ax.trans (by simp[exitTo,this]),Steps.head stepR_block av⟩,s2,cq,b9,cg,cT,dn⟩
   |ret=>obtain⟨b2,av⟩:=s1;exact⟨aK,w',cb,bw,⟨b2,Steps.head stepR_block av⟩,s2,cq,b9,cg,cT,dn⟩
   |goto l=>exact s1.elim
   |bK v=>obtain⟨b2,u,ax,av⟩:=s1;exact⟨aK,w',cb,bw,⟨b2,u,ax,Steps.head stepR_block av⟩,s2,cq,b9,cg,cT,dn⟩
 |.loop c,cV=>λb r d q H μ w a k cs0 cs cf ai bh ah aj ak aE=>by
  have h:=Gr (mM af hdr kF rd c cV) b k cs0 100000 r d q H μ w a cs cf ai bh ah aj ak aE
  simp only[c2]
  exact h.of_steps ah ah (.one stepR_loop) (bN.refl _ _ _)
 |.scope c,cV=>λb r d q H μ w a k cs0 cs cf ai bh ah aj ak aE=>by
  have aa:=mM af hdr kF rd c cV b r d q H μ w a (.inScope c::k) cs0 cs cf ai bh ah aj ak aE
  simp only[c2]
  cases J:c2 P need rd call c r d q H with
  |fail s=>trivial
  |ok e r' aW a0 aI=>
   rw[J] at aa
   obtain⟨aK,w',cb,bw,s1,s2,cq,b9,cg,cT,dn⟩:=aa
   by_cases he:e=.nrm
   · subst he
     exact⟨aK,w',cb,bw,Steps.head Gp (Steps.trans s1 (.one Om)),s2,cq,b9,cg,cT,dn⟩
   · exact⟨aK,w',cb,bw,(s1.pass (λid h=>by cases h) he).of_steps (.one Gp),s2,cq,b9,cg,cT,dn⟩
 |.rangeFunc f ps as bV,cV=>λb r d q H μ w a k cs0 cs cf ai bh ah aj ak aE=>kF f ps as bV cV b rd r d q H μ w a k cs0 cs cf ai bh ah aj ak aE
end
end a8
namespace a8
open Go
section
variable {P:Program} {need:Nat}
theorem On{w fO:World}{cs:List Frame}{b:Frame}{a:Act}{l:Nat}{k:List Item}{s:Sem Next}{yn:Frame}
  (bY:(stepG P true {frame:=yn,callers:=cs,status:=.running,dying:=none} fO).bare=(stepG.apply P true (b.atR a (.inRangeFunc l::k)) cs none s w).bare):
  (∀v w',s.run P w=.ok (.value v) w'->Steps P (lone yn cs fO) (lone ((b.atR a (.inRangeFunc l::k)).finish v) cs w'))/\
  (∀f args w',s.run P w=.ok (.enter f args) w'->Steps P (lone yn cs fO) (lone (Frame.enter P f args .normal) (b.atR a (.inRangeFunc l::k)::cs) w'))/\
  (∀mJ f tmps assign body w',s.run P w=.ok (.round mJ f tmps assign body) w'->Steps P (lone yn cs fO) (lone (Frame.round mJ f tmps assign body .normal) (b.atR a (.inRangeFunc l::k)::cs) w')):=by
 refine⟨λv w' ai=>.one (step_lone_go ?_),λf args w' ai=>.one (step_lone_go ?_),λl f tmps assign body w' ai=>.one (step_lone_go ?_)⟩
 · rw[bY];simp[stepG.apply,ai]
 · rw[bY];simp[stepG.apply,ai,Frame.atR]
 · rw[bY];simp[stepG.apply,ai]
theorem Oo{b:Frame}{a:Act}{f:Operand}{ps:Array Nat}{as bV:Code}{k:List Item}{cs:List Frame}{w cz:World}{l:Nat}{mark:List Deferred}(he:(Instr.enterLoop b.fn a.tmps ps as bV b.roundOf).run P w=.ok (l,mark) cz):
  (stepG P true {frame:=b.atR a (.code (.rangeFunc f ps as bV)::k),callers:=cs,status:=.running,dying:=none} w).bare=
   (stepG.apply P true (b.atR {tmps:=a.tmps,defers:=mark++a.defers} (.inRangeFunc l::k)) cs none (do let d<-Deferred.ofValue (a.eval f) #[.func (.yield l) #[] #[]];invoke d.target d.args) cz).bare:=by
 have yo:=Frame.eval_atR b {tmps:=a.tmps,defers:=mark++a.defers} (.inRangeFunc l::k)
 simp only[Frame.atR] at yo
 have Oq:({tmps:=a.tmps,defers:=mark++a.defers}:Act).eval=a.eval:=funext λx=>by cases x<;>rfl
 simp only[stepG,stepG.exec,Frame.atR,Sem.runT_eq,he,GStep.bare_after]
 have Ot:resolve a.eval {callee:=.value f,args:=#[.const (.func (.yield l) #[] #[])],argTypes:=#[]} 0=Deferred.ofValue (a.eval f) #[.func (.yield l) #[] #[]]:=by simp[resolve,Act.eval]
 rw[yo,Oq,Ot]
theorem Ou{b:Frame}{a:Act}{l:Nat}{k:List Item}{cs:List Frame}{w w':World}{l3:Option Code}(he:(Instr.endLoop l).run P w=.ok l3 w'):
  step P (lone (b.atR a (.endRangeFunc l::k)) cs w)=.next (lone (b.atR a ((l3.map Item.code).toList++k)) cs w'):=
 step_lone_go (by simp[stepG,stepG.exec,Frame.atR,Sem.runT_eq,he])
theorem Ov{bx:Nat}{b:Frame}{a:Act}{r:aN}{ps:Array Nat}{as bV:Code}(cV:gx bx as=true/\gx bx bV=true/\∀t∈ps.toList,t<bx){μ:bb}{H:ab}{w:World}{rd:Option Nat}(cf:k9 μ b rd)(ai:hA need μ r a.tmps)(bh:a.tmps.size=bx)(ah:bc μ H w)
  {d:List bz}(ak:fh μ d a.defers){l:Nat}{aW:List bz}{H1:ab}
  (ar:l=mw rd H.n)(he:u2 need rd r ps.toList as bV d H=some (aW,H1)):
  ∃aK w' mark i,(Instr.enterLoop b.fn a.tmps ps as bV b.roundOf).run P w=.ok (i.a1,mark) w'/\aK l=some i/\bc aK H1 w'/\bN μ H w aK H1 w'/\fh aK aW (mark++a.defers):=by
 subst bh
 unfold mw at ar
 unfold u2 at he
 cases rd with
 |none=>
  have ae:b.roundOf=none:=cf
  cases he
  obtain⟨r1,r2⟩:=ah.alloc (.defrd (some [])) (.deferred (some [])) 0 ⟨[],World.heap_alloc_new _ _,rfl⟩
  have hu:eG μ H.n ⟨w.heap.size,0,0⟩ H.n=some ⟨w.heap.size,0,0⟩:=fl _ _ _
  have yp:=r1.mB ⟨(w.alloc (.deferred (some []))).heap.size,0,0⟩
  obtain⟨aV,ba⟩:=r1.alloc (.loop .ready none need r ps.toList as bV H.n) (.loop {state:=.ready,pending:=none,fn:=b.fn,tmps:=a.tmps,params:=ps,assign:=as,body:=bV,defers:=w.heap.size}) 0
   ⟨a.tmps,⟨w.heap.size,0,0⟩,b.fn,yp _ _ hu,World.heap_alloc_new _ _,ai.mono (r2.le.trans yp),cV.1,cV.2.1,cV.2.2⟩
  refine⟨_,_,[{target:=.collected w.heap.size,args:=#[]}],⟨(w.alloc (.deferred (some []))).heap.size,0,0⟩,?_,?_,aV,bN.trans ah r1 r2 ba,⟨_,_,rfl,.collected _ ⟨w.heap.size,0,0⟩ (yp _ _ hu),ak.mono (r2.le.trans yp)⟩⟩
  · rw[ae]
    simp only[Instr.enterLoop,Sem.run_bind,run_newObj,Result.andThen_ok,Sem.run_pure]
    rfl
  · rw[ar];exact fl _ _ _
 |some AR=>
  obtain⟨j,aF,ae⟩:=cf
  simp only at ar he
  subst ar
  cases aj:H.get AR with
  |none=>rw[aj] at he;cases he
  |some BH=>
  rw[aj] at he
  cases BH<;>try (cases he;done)
  case loop la Gs XX XY Gt Gu Gv dM=>
   cases he
   obtain⟨bQ,gO,fn,ax,av,_⟩:=ah.rel _ _ j aj aF
   have hle:=ah.mB ⟨w.heap.size,0,0⟩
   obtain⟨aV,ba⟩:=ah.alloc (.loop .ready none need r ps.toList as bV dM) (.loop {state:=.ready,pending:=none,fn:=b.fn,tmps:=a.tmps,params:=ps,assign:=as,body:=bV,defers:=gO.a1}) 0
    ⟨a.tmps,gO,b.fn,hle _ _ ax,World.heap_alloc_new _ _,ai.mono hle,cV.1,cV.2.1,cV.2.2⟩
   refine⟨_,_,[],⟨w.heap.size,0,0⟩,?_,?_,aV,ba,ak.mono hle⟩
   · rw[ae]
     have jH:(Instr.getLoop j.a1).run P w=.ok {state:=la,pending:=Gs,fn:=fn,tmps:=bQ,params:=⟨Gt⟩,assign:=Gu,body:=Gv,defers:=gO.a1} w:=by
      have:(getObj j.a1).run P w=.ok (.loop {state:=la,pending:=Gs,fn:=fn,tmps:=bQ,params:=⟨Gt⟩,assign:=Gu,body:=Gv,defers:=gO.a1}) w:=by simp[getObj,Sem.run,av]
      simp only[Instr.getLoop,Sem.run_bind,this];rfl
     simp only[Instr.enterLoop,Sem.run_bind,jH,Result.andThen_ok,Sem.run_pure,run_newObj]
     rfl
   · exact fl _ _ _
theorem Ow{μ:bb}{H:ab}{w:World}(ah:bc μ H w){l:Nat}{i:ee}(ar:μ l=some i){st:LoopState}{eZ:Option Code}{er:Nat}{rg:aN}{ps:List Nat}{as bV:Code}{dM:Nat}(aj:H.get l=some (.loop st eZ er rg ps as bV dM))(bY:st≠ .busy):
  ∃w',(Instr.endLoop i.a1).run P w=.ok eZ w'/\bc μ (H.set l (some (.loop .exhausted eZ er rg ps as bV dM))) w'/\bN μ H w μ (H.set l (some (.loop .exhausted eZ er rg ps as bV dM))) w':=by
 obtain⟨bQ,gO,fn,ax,av,bq⟩:=ah.rel _ _ i aj ar
 have bX:=(ah.lt _ _ ar).2
 obtain⟨r1,r2⟩:=ah.update (w':={w with heap:=w.heap.setIfInBounds i.a1 (.loop {state:=.exhausted,pending:=eZ,fn:=fn,tmps:=bQ,params:=⟨ps⟩,assign:=as,body:=bV,defers:=gO.a1})}) (o':=.loop .exhausted eZ er rg ps as bV dM) aj rfl ar (by simp) (λr ai=>by simp[Array.getElem?_setIfInBounds];intro e;exact absurd e.symm ai) rfl rfl rfl
  ⟨bQ,gO,fn,ax,by simp[bX],bq⟩
 refine⟨_,?_,r1,r2⟩
 have hD:(getObj i.a1).run P w=.ok (.loop {state:=st,pending:=eZ,fn:=fn,tmps:=bQ,params:=⟨ps⟩,assign:=as,body:=bV,defers:=gO.a1}) w:=by simp[getObj,Sem.run,av]
 have ez:(setObj i.a1 (.loop {state:=.exhausted,pending:=eZ,fn:=fn,tmps:=bQ,params:=⟨ps⟩,assign:=as,body:=bV,defers:=gO.a1})).run P w=.ok () {w with heap:=w.heap.setIfInBounds i.a1 (.loop {state:=.exhausted,pending:=eZ,fn:=fn,tmps:=bQ,params:=⟨ps⟩,assign:=as,body:=bV,defers:=gO.a1})}:=by simp[setObj,Sem.run,av]
 have ae:(st==LoopState.busy)=false:=by cases st<;>first|rfl|exact absurd rfl bY
 simp only[Instr.endLoop,Instr.getLoop,Sem.run_bind,hD,Result.andThen_ok,Sem.run_pure,ae,Bool.false_eq_true,if_false,ez]
theorem yq{bx:Nat}{call:dB->List I->ab->a7}(af:h6 P call):Gn P need bx call:=by
 intro f ps as bV cV b rd r d q H μ w a k cs0 cs cf ai bh ah aj ak aE
 simp only[gx,Bool.and_eq_true,List.all_eq_true] at cV
 have BI:∀t∈ps.toList,t<bx:=λt bm=>by simpa using cV.1.1 t bm
 have eD:=(h7.init (P:=P) ai).eval (a:=a) aj f
 simp only[c2]
 cases bY:u2 need rd r ps.toList as bV d H with
 |none=>trivial
 |some p=>
  obtain⟨aW,H1⟩:=p
  simp only
  obtain⟨gP,cz,mark,i,aa,ad,aq,aC,bC⟩:=Ov (P:=P) (b:=b) (a:=a) (ps:=ps) ⟨cV.1.2,cV.2,BI⟩ cf ai bh ah ak rfl bY
  have Ox:=eD.mono aC.le
  have Oy:=Oo (P:=P) (f:=f) (k:=k) (cs:=cs) aa
  obtain⟨al,aA,aU⟩:=On Oy
  have mD:=Gb (P:=P) (w:=cz) aq Ox (args:=[.cS (mw rd H.n)]) (vs:=[.func (.yield i.a1) #[] #[]]) ⟨_,_,rfl,⟨i,ad,rfl⟩,rfl⟩
  have fin:∀(res:a7),pZ P (lone (b.atR a (.code (.rangeFunc f ps as bV)::k)) cs w) (b.atR {tmps:=a.tmps,defers:=mark++a.defers} (.inRangeFunc i.a1::k)) cs (Ends gP H1 cz res)->
    jJ P need bx μ H w b k cs0 (lone (b.atR a (.code (.rangeFunc f ps as bV)::k)) cs w) (lO (mw rd H.n) r aW q res):=by
   intro res ar
   obtain⟨e,jo,eI,hl⟩:=ar
   cases res with
   |fail s=>trivial
   |bK v dh=>
    obtain⟨aK,u,rfl,aV,ba,b1⟩:=eI
    exact⟨aK,jo,{tmps:=a.tmps,defers:=mark++a.defers},cs,⟨.inRangeFunc i.a1::k,u,⟨aV,trivial⟩,hl⟩,ai.mono (aC.le.trans b1.le),bh,ba,bN.trans ah aq aC b1,bC.mono b1.le,aE.mono (aC.le.trans b1.le)⟩
   |ret v dh=>
    obtain⟨aK,u,rfl,aV,ba,b1⟩:=eI
    have k7:(b.atR {tmps:=a.tmps,defers:=mark++a.defers} (.inRangeFunc i.a1::k)).finish u=b.atR {tmps:=a.tmps,defers:=mark++a.defers} (.endRangeFunc i.a1::k):=rfl
    simp only[k7] at hl
    unfold lO
    simp only
    cases fP:dh.get (mw rd H.n) with
    |none=>trivial
    |some BH=>
     cases BH<;>try trivial
     case loop st eZ er rg Oz xK xL dM=>
      simp only
      by_cases ae:st=.busy
      · subst ae;trivial
      · obtain⟨mN,ax,av,bq⟩:=Ow (P:=P) ba (b1.le _ _ ad) fP ae
        have iW:=Steps.trans hl (.one (Ou (b:=b) (a:={tmps:=a.tmps,defers:=mark++a.defers}) (k:=k) (cs:=cs) ax))
        have hle:=aC.le.trans (b1.le.trans bq.le)
        have jq:=bN.trans ah ba (bN.trans ah aq aC b1) bq
        have done:∀(e:bk),p0 P aK (lone (b.atR a (.code (.rangeFunc f ps as bV)::k)) cs w) b k cs {tmps:=a.tmps,defers:=mark++a.defers} mN e->
          jJ P need bx μ H w b k cs0 (lone (b.atR a (.code (.rangeFunc f ps as bV)::k)) cs w) (.ok e r aW q (dh.set (mw rd H.n) (some (.loop .exhausted eZ er rg Oz xK xL dM)))):=λe he=>
         ⟨aK,mN,{tmps:=a.tmps,defers:=mark++a.defers},cs,he,ai.mono hle,bh,av,jq,bC.mono (b1.le.trans bq.le),aE.mono hle⟩
        have XZ:∀X:ik,(match st with|.busy=>ik.fail "rangeFunc: busy" |_=>X)=X:=λX=>by cases st<;>first|rfl|exact absurd rfl ae
        cases st<;>first
         |exact absurd rfl ae
         |(cases eZ with
          |none=>exact done .nrm iW
          |some c=>
           cases c<;>first
            |trivial
            |exact done .ret ⟨k,iW⟩
            |exact done (.exit _) ⟨k,rfl,iW⟩)
  cases Gw:qT (c1 0 [] r (cl P need [] f)) [.cS (mw rd H.n)] H1 with
  |call g args bU=>
   rw[Gw] at mD
   obtain⟨rfl,vs,ax,av⟩:=mD
   simp only
   cases bL:(call (.fn g) args bU).jG with
   |false=>obtain⟨s,hs⟩:=yi bL;rw[hs];trivial
   |true=>
    apply fin
    rcases af.fn g args bU bL gP cz vs aq (aj.mono aC.le) av with⟨v,w',aV,ba⟩|⟨aV,ba⟩
    · rw[<-ax] at aV
      exact⟨_,_,ba,al _ _ aV⟩
    · rw[<-ax] at aV
      exact(Gf (yj bL) ba _ _).of_steps (aA _ _ _ aV)
  |cS cM args bU=>
   rw[Gw] at mD
   obtain⟨rfl,dy,vs,vG,ax,av⟩:=mD
   simp only
   cases bL:(call (.cS cM) args bU).jG with
   |false=>obtain⟨s,hs⟩:=yi bL;rw[hs];trivial
   |true=>
    apply fin
    obtain⟨X0,tmps,xK,xL,aV,ba⟩:=af.cS cM args bU bL gP cz dy vs aq (aj.mono aC.le) vG av
    rw[<-ax] at aV
    exact(ba _ _).of_steps (aU _ _ _ _ _ _ aV)
  |val v bU=>trivial
  |bK v bU=>trivial
  |j0 x=>trivial
  |qO=>trivial
  |fail s=>trivial
end
end a8
namespace a8
open Go
section
variable {P:Program}
theorem BJ:∀(l:List I) (i:Nat) (r:aN) (t:Nat),(lP i l r).get (fV t)=if i<=t/\t<i+l.length then(l[t-i]?).getD .bad else r.get (fV t)
 |[],i,r,t=>by
  simp only[lP,List.length_nil]
  rw[if_neg (by omega)]
 |v::l,i,r,t=>by
  simp only[lP,BJ l (i+1),aN.cD,List.length_cons]
  by_cases h:i+1<=t/\t<i+1+l.length
  · rw[if_pos h,if_pos (by omega)]
    have:t-i=(t-(i+1))+1:=by omega
    rw[this];simp
  · rw[if_neg h]
    by_cases e:t=i
    · subst e;rw[if_pos rfl,if_pos (by omega)];simp
    · rw[if_neg e,if_neg (by omega)]
theorem Gx{need:Nat}{μ:bb}{args:List I}{vs:List Value}(h:bP μ args vs)(n:Nat):hA need μ (lP 0 args .leaf) (⟨vs⟩++Array.replicate n undef):=by
 intro t _
 rw[BJ]
 have ar:=h.length
 by_cases bm:t<args.length
 · rw[if_pos (by omega)]
   simp only[Nat.sub_zero]
   obtain⟨v,aD,ai⟩:=h.get (List.getElem?_eq_getElem bm)
   rw[List.getElem?_eq_getElem bm]
   rw[Array.getD_eq_getD_getElem?,Array.getElem?_append_left (by simp;omega)]
   simp only[List.getElem?_toArray,aD,Option.getD_some]
   exact ai
 · rw[if_neg (by omega),aN.lQ];trivial
theorem OA{need:Nat}{μ:bb}{H:ab}{w:World}(ah:bc μ H w){r:aN}{bQ:Array Value}(ai:hA need μ r bQ){x:ResultVar}{v:I}(h:pw P need r H x=some v):
  ∃u,((match x with|.tmp t=>pure (bQ.getD t undef)|.cell a t=>do loadVar t (<-asAddr (bQ.getD a undef)):Sem Value)).run P w=.ok u w/\a2 μ v u:=by
 unfold pw at h
 cases x with
 |tmp t=>
  simp only at h
  split at h
  · rename_i ae;cases h;exact⟨_,rfl,ai t ae⟩
  · cases h
 |cell t ty=>
  simp only at h
  split at h
  · rename_i ae
    have aa:=ai t ae
    split at h
    · rename_i b off n aL aw aH
      rw[aL] at aa
      obtain⟨i,ag,aD⟩:=aa
      split at h
      · rename_i cs ar
        cases h
        obtain⟨us,aV,ba⟩:=pF (P:=P) ah ag ar
        refine⟨.agg ⟨us⟩,?_,us,rfl,ba⟩
        simp[aD,asAddr,loadVar,sZ aw,run_sizeOf aH,aV]
      · cases h
    · rename_i b off aL aw
      rw[aL] at aa
      obtain⟨i,ag,aD⟩:=aa
      obtain⟨u,aV,ba⟩:=AZ (P:=P) ah ag h
      refine⟨u,?_,ba⟩
      simp only[aD,asAddr,loadVar,Sem.run_bind,Sem.run_pure,Result.andThen_ok,sZ aw,Bool.false_eq_true,if_false,aV]
    · cases h
  · cases h
theorem BK{need:Nat}{μ:bb}{H:ab}{w:World}(ah:bc μ H w){r:aN}{bQ:Array Value}(ai:hA need μ r bQ):∀(l:List ResultVar) (vs:List I),ny (pw P need r H) l=some vs->
  ∃us:List Value,(l.mapM (λx=>(match x with|.tmp t=>pure (bQ.getD t undef)|.cell a t=>do loadVar t (<-asAddr (bQ.getD a undef)):Sem Value))).run P w=.ok us w/\bP μ vs us
 |[],vs,h=>by cases h;exact⟨[],rfl,rfl⟩
 |x::l,vs,h=>by
  simp only[ny] at h
  split at h
  · rename_i v yr aa ad
    cases h
    obtain⟨u,aV,ba⟩:=OA ah ai aa
    obtain⟨us,b1,gy⟩:=BK ah ai l yr ad
    refine⟨u::us,?_,⟨_,_,rfl,ba,gy⟩⟩
    rw[List.mapM_cons]
    simp only[Sem.run_bind]
    rw[aV]
    simp only[Result.andThen_ok,Sem.run_bind,b1,Sem.run_pure]
  · cases h
theorem Gy{need:Nat}{μ:bb}{H:ab}{w:World}(ah:bc μ H w){fn:Func}{r:aN}{bQ:Array Value}(ai:hA need μ r bQ){v:I}(h:oo P need fn r H=some v):
  ∃u,(results fn bQ).run P w=.ok u w/\a2 μ v u:=by
 unfold oo at h
 have hT:∀us:List Value,(fn.results.toList.mapM (λx=>(match x with|.tmp t=>pure (bQ.getD t undef)|.cell a t=>do loadVar t (<-asAddr (bQ.getD a undef)):Sem Value))).run P w=.ok us w->
   (results fn bQ).run P w=.ok (if h:(⟨us⟩:Array Value).size=1 then(⟨us⟩:Array Value)[0] else .tuple ⟨us⟩) w:=by
  intro us iV
  have hm:(fn.results.mapM (λx=>(match x with|.tmp t=>pure (bQ.getD t undef)|.cell a t=>do loadVar t (<-asAddr (bQ.getD a undef)):Sem Value))).run P w=.ok ⟨us⟩ w:=by
   rw[Array.mapM_eq_mapM_toList]
   simp only[map_eq_pure_bind,Sem.run_bind]
   rw[iV];rfl
  unfold results
  simp only[Sem.run_bind]
  refine Eq.trans (congrArg (λq=>Result.andThen q _) hm) ?_
  rfl
 split at h
 · rename_i v' aw
   cases h
   obtain⟨us,aV,ba⟩:=BK ah ai _ _ aw
   obtain⟨u,pN,rfl,b1,gy⟩:=ba
   cases gy
   exact⟨_,hT _ aV,b1⟩
 · rename_i vs cF aw
   cases h
   obtain⟨us,aV,ba⟩:=BK ah ai _ _ aw
   refine⟨_,hT _ aV,?_⟩
   have:¬((⟨us⟩:Array Value).size=1):=by
    intro e
    have ar:=ba.length
    have cn:us.length=1:=e
    rw[cn] at ar
    obtain⟨x,J⟩:=List.length_eq_one_iff.1 ar
    exact cF x J
   rw[dif_neg this]
   exact⟨us,rfl,ba⟩
 · cases h
theorem Gz{call:dB->List I->ab->a7}(af:h6 P call)(hdr:∀need bx,k_ P need bx call){f:FuncId}{fn:Func}(hf:P.funcs[f]? =some fn){kind:CallKind}{c:Code}(ae:fn.body=some c)(cV:gx fn.ntmps c=true)
  {args:List I}{vs:List Value}{q:bu}{H:ab}{μ:bb}{w:World}{cs0 cs:List Frame}(aD:bP μ args vs)(ah:bc μ H w)(aj:gm P μ)(aE:gA μ kind cs0 q cs):
  jJ P (c8 fn) fn.ntmps μ H w {(default:Frame) with fn:=f,kind:=kind} [] cs0 (lone (Frame.enter P f ⟨vs⟩ kind) cs w) (k5 P call fn args q H):=by
 unfold k5
 rw[ae]
 simp only
 cases hle:Nat.ble args.length fn.ntmps with
 |false=>trivial
 |true=>
  have x6:args.length<=fn.ntmps:=by simpa using hle
  have hlen:=aD.length
  simp only
  have BL:Frame.enter P f ⟨vs⟩ kind=({(default:Frame) with fn:=f,kind:=kind}:Frame).atR {tmps:=⟨vs⟩++Array.replicate (fn.ntmps-vs.length) undef,defers:=[]} [.code c]:=by
   simp[Frame.enter,Frame.atR,hf,ae]
   rfl
  rw[BL]
  exact mM af (hdr _ _) (yq af) none c cV {(default:Frame) with fn:=f,kind:=kind} (lP 0 args .leaf) [] q H μ w {tmps:=⟨vs⟩++Array.replicate (fn.ntmps-vs.length) undef,defers:=[]} [] cs0 cs rfl (Gx aD _) (by simp;omega) ah aj rfl aE
def te(P:Program):Prop:=∀(g:FuncId) (gw:Func) (gc:Code),P.funcs[g]? =some gw->gw.body=some gc->gx gw.ntmps gc=true/\(gw.name== "runtime.NumGoroutine")=false
theorem yu{f:FuncId}{fn:Func}{c:Code}(hf:P.funcs[f]? =some fn)(ae:fn.body=some c)(aH:(fn.name== "runtime.NumGoroutine")=false)(args:Array Value)(w:World):(callFunc f args).run P w=.ok (.enter f args) w:=by
 have l4:¬fn.name= "runtime.NumGoroutine" :=by simpa using aH
 simp[callFunc,hf,l4,ae]
def lb(μ:bb):Option I->FrameMode->Prop
 |none,m=>m=.returning
 |some v,m=>∃u,m=.panicking [{v:=u,recovered:=false}]/\a2 μ v u
theorem lb.mono{μ aK:bb}(hle:ej μ aK){dN:Option I}{m:FrameMode}(h:lb μ dN m):lb aK dN m:=by
 cases dN with
 |none=>exact h
 |some v=>obtain⟨u,aa,ad⟩:=h;exact⟨u,aa,ad.mono hle⟩
theorem lb.run{μ:bb}{dN:Option I}{m:FrameMode}(h:lb μ dN m):m≠ .run:=by
 cases dN with
 |none=>intro e;cases h.symm.trans e
 |some v=>obtain⟨u,aa,_⟩:=h;intro e;cases aa.symm.trans e
theorem lb.q{μ:bb}{dN:Option I}{c:Frame}{cs:List Frame}(h:lb μ dN c.mode):gA μ .deferred (c::cs) (sU dN) (c::cs):=by
 cases dN with
 |none=>
  refine⟨rfl,λcK an=>?_⟩
  have ao:c.mode=.returning:=h
  simp only[tryRecover,an,ao]
 |some v=>obtain⟨u,aa,ad⟩:=h;exact⟨rfl,rfl,c,cs,u,rfl,aa,ad⟩
theorem OB{μ:bb}{H:ab}{w:World}(ah:bc μ H w){r:Nat}{i:ee}(ag:μ r=some i){cs:List bz}(aj:H.get r=some (.defrd (some cs))):
  ∃w' l,(Instr.takeDeferred i.a1).run P w=.ok l w'/\fh μ cs l/\bc μ (H.set r (some (.defrd none))) w'/\bN μ H w μ (H.set r (some (.defrd none))) w':=by
 obtain⟨l,ax,av⟩:=ah.rel _ _ i aj ag
 have bX:=(ah.lt _ _ ag).2
 obtain⟨r1,r2⟩:=ah.update (w':={w with heap:=w.heap.setIfInBounds i.a1 (.deferred none)}) (o':=.defrd none) aj rfl ag (by simp) (λr ai=>by simp[Array.getElem?_setIfInBounds];intro e;exact absurd e.symm ai) rfl rfl rfl
  (show({w with heap:=w.heap.setIfInBounds i.a1 (.deferred none)}:World).heap[i.a1]? =some (.deferred none) by simp[bX])
 refine⟨_,l,?_,av,r1,r2⟩
 have hD:(getObj i.a1).run P w=.ok (.deferred (some l)) w:=by simp[getObj,Sem.run,ax]
 have ez:(setObj i.a1 (.deferred none)).run P w=.ok () {w with heap:=w.heap.setIfInBounds i.a1 (.deferred none)}:=by simp[setObj,Sem.run,ax]
 simp only[Instr.takeDeferred,Sem.run_bind,hD,Result.andThen_ok,ez,Sem.run_pure]
end
end a8
namespace a8
open Go
section
variable {P:Program}
theorem step_take{cK:Frame}{cs:List Frame}{w w':World}{b:Nat}{args:Array Value}{ds calls:List Deferred}(hm:cK.mode≠ .run)(ak:cK.defers={target:=.collected b,args:=args}::ds)(bm:(Instr.takeDeferred b).run P w=.ok calls w'):
  step P (lone cK cs w)=.next (lone {cK with defers:=calls++ds} cs w'):=by
 refine step_lone_go ?_
 cases BM:cK.mode with
 |run=>exact absurd BM hm
 |returning=>simp[stepG,unwind,BM,ak,Sem.runT_eq,bm]
 |panicking chain=>simp[stepG,unwind,BM,ak,Sem.runT_eq,bm]
theorem Ends.trans{μ gP:bb}{H H1:ab}{w cz:World}{x:a7}{e:Ending}{w':World}(ah:bc μ H w)(hR:bc gP H1 cz)(aw:bN μ H w gP H1 cz)(h:Ends gP H1 cz x e w'):Ends μ H w x e w':=by
 cases x with
 |ret v aI=>obtain⟨aK,u,aa,ad,aq,aC⟩:=h;exact⟨aK,u,aa,ad,aq,bN.trans ah hR aw aC⟩
 |bK v aI=>obtain⟨aK,u,aa,ad,aq,aC⟩:=h;exact⟨aK,u,aa,ad,aq,bN.trans ah hR aw aC⟩
 |fail s=>trivial
theorem yv{call:dB->List I->ab->a7}(af:h6 P call)(hdr:∀need bx,k_ P need bx call)(dx:te P){need:Nat}{fn:Func}{r:aN}:
  ∀(k:Nat) (dN:Option I) (ds:List bz) (H:ab) (μ:bb) (w:World) (cK:Frame) (cs:List Frame),(h3 P call need fn r k dN ds H).jG=true->bc μ H w->gm P μ->hA need μ r cK.tmps->P.funcs[cK.fn]? =some fn->cK.kind=.normal->
   fh μ ds cK.defers->lb μ dN cK.mode->∃e w' BN,Ends μ H w (h3 P call need fn r k dN ds H) e w'/\Steps P (lone cK cs w) (lone BN cs w')/\BN.fn=cK.fn/\BN.leaving P w' e
 |0,dN,ds,H,μ,w,cK,cs,bL,ah,aj,ai,hf,an,ak,aL=>by cases bL
 |k+1,dN,[],H,μ,w,cK,cs,bL,ah,aj,ai,hf,an,ak,aL=>by
  have mO:cK.defers=[]:=ak
  cases dN with
  |none=>
   simp only[h3] at bL⊢
   cases hT:oo P need fn r H with
   |none=>rw[hT] at bL;cases bL
   |some v=>
    obtain⟨u,aV,ba⟩:=Gy (P:=P) ah ai hT
    exact⟨.returned u,w,cK,⟨μ,u,rfl,ba,ah,bN.refl _ _ _⟩,Steps.refl _ _,rfl,aL,mO,an,fn,hf,aV⟩
  |some v=>
   obtain⟨u,aa,ad⟩:=aL
   exact⟨.panicked _,w,cK,⟨μ,u,rfl,ad,ah,bN.refl _ _ _⟩,Steps.refl _ _,rfl,aa,mO,fn,hf⟩
 |k+1,dN,.collected b::ds,H,μ,w,cK,cs,bL,ah,aj,ai,hf,an,ak,aL=>by
  obtain⟨pV,dl,vt,aa,ad⟩:=ak
  cases aa with
  |collected _ i ag=>
  simp only[h3] at bL⊢
  cases BO:H.get b with
  |none=>rw[BO] at bL;cases bL
  |some o=>
   rw[BO] at bL
   cases o<;>try (cases bL;done)
   case defrd calls=>
    cases calls with
    |none=>cases bL
    |some OC=>
     simp only at bL⊢
     obtain⟨w',l,ax,av,bq,dD⟩:=OB (P:=P) ah ag BO
     have hs:=step_take (cs:=cs) aL.run vt ax
     obtain⟨e,cA,iD,r1,r2,dJ,gj⟩:=yv af hdr dx k dN (OC++ds) _ μ w' {cK with defers:=l++dl} cs bL bq aj ai hf an (av.append ad) aL
     refine⟨e,cA,iD,?_,Steps.head hs r2,dJ,gj⟩
     exact Ends.trans ah bq dD r1
 |k+1,dN,.call g args::ds,H,μ,w,cK,cs,bL,ah,aj,ai,hf,an,ak,aL=>by
  obtain⟨pV,dl,vt,aa,ad⟩:=ak
  cases aa with
  |call _ _ cap vs OD=>
  simp only[h3] at bL⊢
  cases p1:P.funcs[g]? with
  |none=>rw[p1] at bL;cases bL
  |some gw=>
   rw[p1] at bL
   simp only at bL⊢
   cases tf:gw.body with
   |none=>
    have:k5 P call gw args (sU dN) H=.fail "no body" :=by simp[k5,tf]
    rw[this] at bL;cases bL
   |some gc=>
    obtain⟨ld,oH⟩:=dx g gw gc p1 tf
    have aE:gA μ .deferred ({cK with defers:=dl}::cs) (sU dN) ({cK with defers:=dl}::cs):=lb.q (c:={cK with defers:=dl}) aL
    have ae:=Gz (P:=P) af hdr p1 (kind:=.deferred) tf ld (args:=args) (vs:=vs++cap) (q:=sU dN) OD ah aj aE
    have hinv:(invoke (.fn (.func g) ⟨cap⟩) ⟨vs⟩).run P w=.ok (.enter g ⟨vs++cap⟩) w:=by
     have:=yu (P:=P) p1 tf oH (⟨vs⟩++⟨cap⟩) w
     simpa[invoke] using this
    have yw:=step_defer (P:=P) (cs:=cs) aL.run vt (d:={target:=.fn (.func g) ⟨cap⟩,args:=⟨vs⟩}) rfl hinv
    cases J:k5 P call gw args (sU dN) H with
    |fail s=>rw[J] at bL;cases bL
    |ok e r' aW a0 aI=>
     rw[J] at bL ae
     obtain⟨aK,w',cb,bw,s1,s2,cq,b9,cg,cT,dn⟩:=ae
     simp only[E8] at bL⊢
     cases hT:oo P (c8 gw) gw r' aI with
     |none=>rw[hT] at bL;cases e<;>cases aW<;>cases bL
     |some X1=>
      rw[hT] at bL
      obtain⟨u,aV,ba⟩:=Gy (P:=P) b9 s2 hT
      have main:∀(he:e=.nrm\/e=.ret) (mO:aW=[]) (fp:(h3 P call need fn r k (u3 a0 dN) ds aI).jG=true),
        ∃av cA iD,Ends μ H w (h3 P call need fn r k (u3 a0 dN) ds aI) av cA/\Steps P (lone cK cs w) (lone iD cs cA)/\iD.fn=cK.fn/\iD.leaving P cA av:=by
       intro he mO fp
       subst mO
       have vI:cb.defers=[]:=cT
       have BP:∃todo,Steps P (lone (Frame.enter P g ⟨vs++cap⟩ .deferred) ({cK with defers:=dl}::cs) w) (lone {({(default:Frame) with fn:=g,kind:=.deferred}:Frame).atR cb todo with mode:=.returning} bw w'):=by
        rcases he with rfl|rfl
        · exact⟨_,Steps.trans s1 (.one (stepR_end rfl))⟩
        · obtain⟨b2,rq⟩:=s1
          exact⟨_,Steps.trans rq (.one (stepR_ret rfl))⟩
       obtain⟨todo,BP⟩:=BP
       have hD:({({(default:Frame) with fn:=g,kind:=.deferred}:Frame).atR cb todo with mode:=.returning}:Frame).going P w' (.returned u):=⟨rfl,vI,gw,p1,aV⟩
       have caller:∃m,bw={({cK with defers:=dl}:Frame) with mode:=m}::cs/\lb aK (u3 a0 dN) (settle m):=by
        have cL:lb aK dN (settle cK.mode):=by
         have vJ:=aL.mono cg.le
         cases dN with
         |none=>have:cK.mode=.returning:=vJ;rw[this];rfl
         |some v=>obtain⟨u,aa,ad⟩:=vJ;rw[aa];exact⟨u,rfl,ad⟩
        cases a0 with
        |none=>exact⟨cK.mode,dn.1,cL⟩
        |act v=>exact⟨cK.mode,dn.1,cL⟩
        |done v=>
         obtain⟨_,c,rest,u,ax,av,bq,dD⟩:=dn
         cases ax
         exact⟨_,dD,rfl⟩
       obtain⟨m,rfl,OE⟩:=caller
       have aq:=step_going_returned (P:=P) (c:={({cK with defers:=dl}:Frame) with mode:=m}) (cs:=cs) rfl hD
       obtain⟨av,cA,iD,r1,r2,dJ,gj⟩:=yv af hdr dx k (u3 a0 dN) ds aI aK w' {cK with defers:=dl,mode:=settle m} cs fp b9 (aj.mono cg.le) (ai.mono cg.le) hf an (ad.mono cg.le) OE
       exact⟨av,cA,iD,Ends.trans ah b9 cg r1,Steps.head yw (Steps.trans BP (Steps.head aq r2)),dJ,gj⟩
      cases aW with
      |cons x xs=>cases e<;>cases bL
      |nil=>
       cases e with
       |nrm=>exact main (.inl rfl) rfl bL
       |ret=>exact main (.inr rfl) rfl bL
       |exit id=>cases bL
       |goto l=>cases bL
       |bK v=>cases bL
theorem GA{P:Program}{m oI:Machine}{e:Ending}(h:Steps P m oI)(he:e≠ .outgrown):Comes P m oI e:=by
 cases e with
 |outgrown=>exact absurd rfl he
 |_=>exact h
theorem OF{call:dB->List I->ab->a7}(af:h6 P call)(hdr:∀need bx,k_ P need bx call)(dx:te P){f:FuncId}{fn:Func}{c:Code}(hf:P.funcs[f]? =some fn)(ae:fn.body=some c)
  {args:List I}{vs:List Value}{H:ab}{μ:bb}{w:World}(aD:bP μ args vs)(ah:bc μ H w)(aj:gm P μ)(bL:(nz P call fn (k5 P call fn args .none H)).jG=true):
  Calls P f ⟨vs⟩ w (Ends μ H w (nz P call fn (k5 P call fn args .none H))):=by
 intro cs
 obtain⟨ld,oH⟩:=dx f fn c hf ae
 have aE:gA μ .normal cs .none cs:=⟨rfl,λcK an=>by simp[tryRecover,an]⟩
 have fa:=Gz (P:=P) af hdr hf (kind:=.normal) ae ld aD ah aj aE
 generalize J:k5 P call fn args .none H=x at bL fa⊢
 cases x with
 |fail s=>cases bL
 |ok e r d q aI=>
  obtain⟨aK,w',cb,bw,s1,s2,cq,b9,cg,cT,dn⟩:=fa
  have g6:bw=cs:=by
   cases q with
   |none=>exact dn.1
   |act v=>exact dn.1
   |done v=>exact absurd dn.1 (by intro h;cases h)
  subst g6
  have main:∀(dN:Option I) (cK:Frame),cK.fn=f->cK.tmps=cb.tmps->cK.defers=cb.defers->cK.kind=.normal->lb aK dN cK.mode->Steps P (lone (Frame.enter P f ⟨vs⟩ .normal) bw w) (lone cK bw w')->
    (h3 P call (c8 fn) fn r 100 dN d aI).jG=true->∃e cA iD,Ends μ H w (h3 P call (c8 fn) fn r 100 dN d aI) e cA/\Comes P (lone (Frame.enter P f ⟨vs⟩ .normal) bw w) (lone iD bw cA) e/\iD.fn=f/\iD.leaving P cA e:=by
   intro dN cK aa ad aq aC bC dd fp
   subst aa
   obtain⟨av,cA,iD,r1,r2,dJ,gj⟩:=yv af hdr dx 100 dN d aI aK w' cK bw fp b9 (aj.mono cg.le) (by rw[ad];exact s2) hf aC (by rw[aq];exact cT) bC
   have vK:=Ends.trans ah b9 cg r1
   exact⟨av,cA,iD,vK,GA (dd.trans r2) (λe=>yj fp _ (e▸vK)),dJ,gj⟩
  cases e with
  |nrm=>exact main none {({(default:Frame) with fn:=f,kind:=.normal}:Frame).atR cb [] with mode:=.returning} rfl rfl rfl rfl rfl (Steps.trans s1 (.one (stepR_end rfl))) bL
  |ret=>obtain⟨b2,rq⟩:=s1;exact main none {({(default:Frame) with fn:=f,kind:=.normal}:Frame).atR cb (.code .ret::b2) with mode:=.returning} rfl rfl rfl rfl rfl (Steps.trans rq (.one (stepR_ret rfl))) bL
  |bK v=>obtain⟨b2,u,aa,ad⟩:=s1;exact main (some v) _ rfl rfl rfl rfl ⟨u,rfl,aa.1⟩ ad bL
  |exit id=>cases bL
  |goto l=>cases bL
end
end a8
namespace a8
open Go
section
variable {P:Program}
theorem GB{need:Nat}{μ:bb}:∀(ps:List Nat) (args:List I) (vs:List Value) (r eM:aN) (bQ:Array Value),(∀t∈ps,t<bQ.size)->hA need μ r bQ->bP μ args vs->sV ps args r=some eM->
  hA need μ eM ((ps.zip vs).foldl (λbQ (p:Nat×Value)=>bQ.setIfInBounds p.1 p.2) bQ)/\((ps.zip vs).foldl (λbQ (p:Nat×Value)=>bQ.setIfInBounds p.1 p.2) bQ).size=bQ.size/\ps.length=vs.length
 |[],[],vs,r,eM,bQ,aL,ai,aD,h=>by cases aD;cases h;exact⟨ai,rfl,rfl⟩
 |t::cu,v::args,vs,r,eM,bQ,aL,ai,aD,h=>by
  obtain⟨u,us,rfl,aa,ad⟩:=aD
  simp only[sV] at h
  have oD:hA need μ (r.set (fV t) v) (bQ.setIfInBounds t u):=λs hs=>by
   rw[aN.cD,vF (aL t (by simp))]
   by_cases e:s=t
   · rw[if_pos e,if_pos e];exact aa
   · rw[if_neg e,if_neg e];exact ai s hs
  obtain⟨aV,ba,b1⟩:=GB cu args us _ eM (bQ.setIfInBounds t u) (λs hs=>by simp;exact aL s (by simp[hs])) oD ad h
  exact⟨aV,by rw[List.zip_cons_cons,List.foldl_cons];rw[ba];simp,by simp[b1]⟩
 |[],_::_,vs,r,eM,bQ,aL,ai,aD,h=>by cases h
 |_::_,[],vs,r,eM,bQ,aL,ai,aD,h=>by cases h
theorem BQ{μ:bb}{H:ab}{w:World}(ah:bc μ H w){l:Nat}{i:ee}(ar:μ l=some i){st:LoopState}{eZ:Option Code}{er:Nat}{rg:aN}{ps:List Nat}{as bV:Code}{dM:Nat}(aj:H.get l=some (.loop st eZ er rg ps as bV dM)):
  ∃bQ gO fn,μ dM=some gO/\(Instr.getLoop i.a1).run P w=.ok {state:=st,pending:=eZ,fn:=fn,tmps:=bQ,params:=⟨ps⟩,assign:=as,body:=bV,defers:=gO.a1} w/\hA er μ rg bQ/\gx bQ.size as=true/\gx bQ.size bV=true/\(∀t∈ps,t<bQ.size)/\
   ∀bG tg,∃w',(setObj i.a1 (.loop {state:=bG,pending:=tg,fn:=fn,tmps:=bQ,params:=⟨ps⟩,assign:=as,body:=bV,defers:=gO.a1})).run P w=.ok () w'/\
    bc μ (H.set l (some (.loop bG tg er rg ps as bV dM))) w'/\bN μ H w μ (H.set l (some (.loop bG tg er rg ps as bV dM))) w':=by
 obtain⟨bQ,gO,fn,ax,av,bq,dD,iR,iS⟩:=ah.rel _ _ i aj ar
 have bX:=(ah.lt _ _ ar).2
 have hD:(getObj i.a1).run P w=.ok (.loop {state:=st,pending:=eZ,fn:=fn,tmps:=bQ,params:=⟨ps⟩,assign:=as,body:=bV,defers:=gO.a1}) w:=by simp[getObj,Sem.run,av]
 refine⟨bQ,gO,fn,ax,?_,bq,dD,iR,iS,λbG tg=>?_⟩
 · simp only[Instr.getLoop,Sem.run_bind,hD,Result.andThen_ok,Sem.run_pure]
 · obtain⟨r1,r2⟩:=ah.update (w':={w with heap:=w.heap.setIfInBounds i.a1 (.loop {state:=bG,pending:=tg,fn:=fn,tmps:=bQ,params:=⟨ps⟩,assign:=as,body:=bV,defers:=gO.a1})}) (o':=.loop bG tg er rg ps as bV dM) aj rfl ar (by simp) (λr ai=>by simp[Array.getElem?_setIfInBounds];intro e;exact absurd e.symm ai) rfl rfl rfl
     ⟨bQ,gO,fn,ax,by simp[bX],bq,dD,iR,iS⟩
   exact⟨_,by simp[setObj,Sem.run,av],r1,r2⟩
theorem OG{b:Frame}{a:Act}{b2:List Item}{c:Frame}{cs:List Frame}{w:World}{chain:List PanicEntry}(ak:a.defers=[])(aH:BE b2):
  step P (lone {b.atR a b2 with mode:=.panicking chain} (c::cs) w)=.next (lone (c.raise chain) cs w):=by
 have OH:({b.atR a b2 with mode:=.panicking chain}:Frame).catches P=false:=by
  unfold Frame.catches
  cases hf:P.funcs[b.fn]? with
  |some fn=>simp[Frame.atR,hf]
  |none=>
   cases b2 with
   |nil=>simp[Frame.atR,hf]
   |cons x t=>cases x<;>first|exact aH.elim|simp[Frame.atR,hf]
 refine step_lone_go ?_
 have GC:=OH
 simp only[Frame.atR,ak] at GC⊢
 simp[stepG,unwind,GC]
theorem OI{μ:bb}{H:ab}{w:World}{l:Nat}{i:ee}(ar:μ l=some i){b:Frame}(ae:b.roundOf=some i.a1)(an:b.kind=.normal){need bx:Nat}{c:Frame}{cs:List Frame}{eN:Machine}{x:ik}(J:jJ P need bx μ H w b [] (c::cs) eN x)(X2:∀cK:Frame,cK.kind=b.kind->tryRecover cK (c::cs)=none)(bL:(u4 l x).jG=true)(ah:bc μ H w):
  pZ P eN c cs (Ends μ H w (u4 l x)):=by
 cases x with
 |fail s=>cases bL
 |ok e r d q aI=>
  obtain⟨aK,w',cb,bw,s1,s2,cq,b9,cg,cT,dn⟩:=J
  have g6:bw=c::cs:=by
   cases q with
   |none=>exact dn.1
   |act v=>exact dn.1
   |done v=>exact absurd (an.symm.trans dn.1) (by intro h;cases h)
  subst g6
  cases d with
  |cons y ys=>cases bL
  |nil=>
   have vI:cb.defers=[]:=cT
   simp only[u4] at bL⊢
   cases aj:aI.get l with
   |none=>rw[aj] at bL;cases bL
   |some o=>
    rw[aj] at bL
    cases o<;>try (cases bL;done)
    case loop st eZ er rg ps as bV dM=>
     cases st<;>try (cases bL;done)
     simp only at bL⊢
     obtain⟨bQ,gO,fn,al,aA,_,_,_,_,aU⟩:=BQ (P:=P) b9 (cg.le _ _ ar) aj
     have fin:∀l3:Option Code,∃cA,(Instr.endRound i.a1 l3).run P w'=.ok (.bool l3.isNone) cA/\bc aK (aI.set l (some (.loop (if l3.isNone then .ready else .done) l3 er rg ps as bV dM))) cA/\bN aK aI w' aK (aI.set l (some (.loop (if l3.isNone then .ready else .done) l3 er rg ps as bV dM))) cA:=λl3=>by
      obtain⟨cA,aV,ba,b1⟩:=aU (if l3.isNone then .ready else .done) l3
      refine⟨cA,?_,ba,b1⟩
      simp only[Instr.endRound,Sem.run_bind,aA,Result.andThen_ok,aV,Sem.run_pure]
     cases e with
     |nrm=>
      obtain⟨cA,aV,ba,b1⟩:=fin none
      exact⟨.returned (.bool true),cA,⟨aK,_,rfl,rfl,ba,bN.trans ah b9 cg b1⟩,Steps.trans s1 (.one (stepR_round_end ae an aV))⟩
     |ret=>
      obtain⟨b2,s1⟩:=s1
      obtain⟨cA,aV,ba,b1⟩:=fin (some .ret)
      exact⟨.returned (.bool false),cA,⟨aK,_,rfl,rfl,ba,bN.trans ah b9 cg b1⟩,Steps.trans s1 (.one (stepR_round_ret ae an aV))⟩
     |exit id=>
      obtain⟨b2,rq,s1⟩:=s1
      obtain⟨cA,aV,ba,b1⟩:=fin (some (.exit id))
      exact⟨.returned (.bool false),cA,⟨aK,_,rfl,rfl,ba,bN.trans ah b9 cg b1⟩,Steps.trans s1 (.one (stepR_round_exit ae an (rq.trans rfl) aV))⟩
     |bK v=>
      obtain⟨b2,u,⟨aa,ad⟩,s1⟩:=s1
      exact⟨.panicked _,w',⟨aK,u,rfl,aa,b9,cg⟩,Steps.trans s1 (.one (OG vI ad))⟩
     |goto t=>cases bL
theorem OJ{call:dB->List I->ab->a7}(af:h6 P call)(hdr:∀need bx,k_ P need bx call){l:Nat}{args:List I}{H:ab}{μ:bb}{w:World}{i:ee}{vs:List Value}(bL:(qV P call l args H).jG=true)(ah:bc μ H w)(jH:gm P μ)(ar:μ l=some i)(aD:bP μ args vs):
  Ge P i.a1 vs w (Ends μ H w (qV P call l args H)):=by
 unfold qV at bL⊢
 cases aj:H.get l with
 |none=>rw[aj] at bL;cases bL
 |some o=>
  rw[aj] at bL
  cases o<;>try (cases bL;done)
  case loop st eZ er rg ps as bV dM=>
   cases st<;>try (cases bL;done)
   simp only at bL⊢
   cases aP:sV ps args rg with
   |none=>rw[aP] at bL;cases bL
   |some eM=>
    rw[aP] at bL
    simp only at bL⊢
    obtain⟨bQ,gO,fn,al,aA,aU,bB,bO,dK,fq⟩:=BQ (P:=P) ah ar aj
    obtain⟨dk,eB,hS⟩:=GB ps args vs rg eM bQ dK aU aD aP
    obtain⟨th,GD⟩:∃th,(ps.zip vs).foldl (λbQ (p:Nat×Value)=>bQ.setIfInBounds p.1 p.2) bQ=th:=⟨_,rfl⟩
    rw[GD] at dk eB
    refine⟨fn,th,as,bV,?_,λc cs=>?_⟩
    · simp only[Instr.yield,Sem.run_bind,aA,Result.andThen_ok]
      rw[if_neg (by simp;omega)]
      simp only[Sem.run_bind,Sem.run_pure,Result.andThen_ok]
      rw[<-GD]
      simp
    · have OK:Frame.round i.a1 fn th as bV .normal=({(default:Frame) with fn:=fn,kind:=.normal,roundOf:=some i.a1}:Frame).atR {tmps:=th,defers:=[]} [.code as,.beginRound,.code bV]:=rfl
      rw[OK]
      have aE:gA μ .normal (c::cs) .none (c::cs):=⟨rfl,λcK an=>by simp[tryRecover,an]⟩
      have cf:k9 μ ({(default:Frame) with fn:=fn,kind:=.normal,roundOf:=some i.a1}:Frame) (some l):=⟨i,ar,rfl⟩
      have aa:=mM af (hdr er bQ.size) (yq af) (some l) as bB {(default:Frame) with fn:=fn,kind:=.normal,roundOf:=some i.a1} eM [] .none H μ w {tmps:=th,defers:=[]} [.beginRound,.code bV] (c::cs) (c::cs) cf dk eB ah jH rfl aE
      generalize c2 P er (some l) call as eM [] .none H=x at aa bL⊢
      cases x with
      |fail s=>cases bL
      |ok e r1 d1 aV H1=>
       cases e<;>try (cases bL;done)
       case nrm=>
        cases d1<;>try (cases bL;done)
        case nil=>
         obtain⟨gP,cz,b8,iE,s1,s2,cq,b9,cg,cT,dn⟩:=aa
         have g6:iE=c::cs:=by
          cases aV with
          |none=>exact dn.1
          |act v=>exact dn.1
          |done v=>exact absurd dn.1 (by intro h;cases h)
         subst g6
         simp only[AS] at bL⊢
         cases dP:H1.get l with
         |none=>rw[dP] at bL;cases bL
         |some de=>
          rw[dP] at bL
          cases de<;>try (cases bL;done)
          case loop mP OL X3 X4 X5 X6 BR X7=>
           cases mP<;>try (cases bL;done)
           simp only at bL⊢
           obtain⟨X8,X9,X_,bJ,bR,e_,jK,iF,rr,vL⟩:=BQ (P:=P) b9 (cg.le _ _ ar) dP
           obtain⟨cA,bn,cJ,dr⟩:=vL .busy OL
           have vD:(Instr.beginRound i.a1).run P cz=.ok () cA:=by
            simp only[Instr.beginRound,Sem.run_bind,bR,Result.andThen_ok,bn,Sem.run_pure]
           have bY:=stepR_beginRound (P:=P) (b:={(default:Frame) with fn:=fn,kind:=.normal,roundOf:=some i.a1}) (a:=b8) (k:=[.code bV]) (cs:=c::cs) rfl vD
           have oJ:gA gP .normal (c::cs) .none (c::cs):=⟨rfl,λcK an=>by simp[tryRecover,an]⟩
           have OM:k9 gP ({(default:Frame) with fn:=fn,kind:=.normal,roundOf:=some i.a1}:Frame) (some l):=⟨i,cg.le _ _ ar,rfl⟩
           have vI:fh gP [] b8.defers:=cT
           have ad:=mM af (hdr er bQ.size) (yq af) (some l) bV bO {(default:Frame) with fn:=fn,kind:=.normal,roundOf:=some i.a1} r1 [] .none _ gP cA b8 [] (c::cs) (c::cs) OM s2 cq cJ (jH.mono cg.le) vI oJ
           have aq:=ad.of_steps ah cJ (Steps.trans s1 (.one bY)) (bN.trans ah b9 cg dr)
           exact OI ar rfl rfl aq (λcK an=>by simp[tryRecover,an]) bL ah
end
end a8
namespace a8
open Go
section
variable {P:Program}
def p2:List String:=["internal/abi.NoEscape","internal/bytealg.MakeNoZero","internal/bytealg.IndexByteString","maps.clone"]
def yx(P:Program):Prop:=∀(g:FuncId) (gw:Func),P.funcs[g]? =some gw->gw.body=none->gw.name∈p2->Extern.findNext gw=none
theorem GF:∀(n t:Nat) (acc:Array Value),(Extern.BytealgMakeNoZero.digits n t acc).size=acc.size+n
 |0,t,acc=>rfl
 |n+1,t,acc=>by rw[Extern.BytealgMakeNoZero.digits,GF n];simp;omega
theorem ON{fn:Func}(aH:fn.name= "internal/abi.NoEscape"):Extern.find fn=some Extern.AbiNoEscape.same:=by
 have aa:Extern.allGenericRows.lookup "internal/abi.NoEscape" =none:=by rfl
 have ad:Extern.allTypedRows.lookup "internal/abi.NoEscape" =none:=by rfl
 have aq:Extern.allRows.lookup "internal/abi.NoEscape" =some Extern.AbiNoEscape.same:=by rfl
 simp[Extern.find,aH,aa,ad,aq]
theorem OO{fn:Func}(aH:fn.name= "internal/bytealg.MakeNoZero"):Extern.find fn=some (Extern.BytealgMakeNoZero.makeNoZero fn.params fn.resultTypes):=by
 have aa:Extern.allGenericRows.lookup "internal/bytealg.MakeNoZero" =none:=by rfl
 have ad:Extern.allTypedRows.lookup "internal/bytealg.MakeNoZero" =some Extern.BytealgMakeNoZero.makeNoZero:=by rfl
 simp[Extern.find,aH,aa,ad]
theorem OP{fn:Func}(aH:fn.name= "internal/bytealg.IndexByteString"):Extern.find fn=some Extern.BytealgIndexByte.indexByte:=by
 have aa:Extern.allGenericRows.lookup "internal/bytealg.IndexByteString" =none:=by rfl
 have ad:Extern.allTypedRows.lookup "internal/bytealg.IndexByteString" =none:=by rfl
 have aq:Extern.allRows.lookup "internal/bytealg.IndexByteString" =some Extern.BytealgIndexByte.indexByte:=by rfl
 simp[Extern.find,aH,aa,ad,aq]
theorem OQ{fn:Func}(aH:fn.name= "maps.clone"):Extern.find fn=some Extern.MapsClone.clone:=by
 have aa:Extern.allGenericRows.lookup "maps.clone" =none:=by rfl
 have ad:Extern.allTypedRows.lookup "maps.clone" =none:=by rfl
 have aq:Extern.allRows.lookup "maps.clone" =some Extern.MapsClone.clone:=by rfl
 simp[Extern.find,aH,aa,ad,aq]
theorem GG(c:Nat):∀(l:List UInt8) (i:Nat),my c l i=match l.findIdx? (λb=>Nat.beq b.toNat c) with
  |some j=>((i+j:Nat):Int)
  |none=>-1
 |[],i=>rfl
 |b::l,i=>by
  rw[my,List.findIdx?_cons]
  cases Nat.beq b.toNat c with
  |true=>simp
  |false=>
   simp only[GG c l (i+1)]
   cases l.findIdx? (λb=>Nat.beq b.toNat c) with
   |none=>rfl
   |some j=>
    simp only[Option.map_some]
    have:((i+(j+1):Nat):Int)=((i+1+j:Nat):Int):=by congr 1;omega
    exact this.symm
theorem OR(b:ByteArray)(p:UInt8->Bool):(List.range b.size).find? (λi=>p b[i]!)=b.data.toList.findIdx? p:=by
 have bh:b.data.toList.length=b.size:=Array.length_toList
 have gQ:∀(i:Nat) (ag:i<b.data.toList.length),b[i]! =b.data.toList[i]:=λi ag=>by
  have ey:i<b.size:=by omega
  rw[getElem!_pos b i ey];rfl
 cases hf:b.data.toList.findIdx? p with
 |none=>
  rw[List.find?_eq_none]
  intro i ag
  have ey:i<b.data.toList.length:=by rw[bh];simpa using ag
  rw[gQ i ey]
  have:=List.findIdx?_eq_none_iff.1 hf _ (List.getElem_mem ey)
  rw[this];exact Bool.false_ne_true
 |some j=>
  obtain⟨aF,aL,bX⟩:=List.findIdx?_eq_some_iff_getElem.1 hf
  rw[List.find?_range_eq_some]
  refine⟨?_,by simp;omega,λi ag=>?_⟩
  · rw[gQ j aF];exact aL
  · rw[gQ i (by omega)]
    have:=bX i ag
    simpa using this
theorem OS{α:Type}(n:Int)(f:Int->α)(g:Array Value->α):Extern.BytealgMakeNoZero.makeNoZero.match_3 (λ_=>α) #[.int .i64 n] f g=f n:=rfl
theorem OT{α:Type}(t:TypeId)(r:Nat)(f:TypeId->Nat->α)(e:TypeId->α)(g:Array Value->α):Extern.MapsClone.clone.match_2 (λ_=>α) #[.iface t (.map (some r))] f e g=f t r:=rfl
theorem OU{α:Type}(b c:Value)(f:Value->Value->α)(g:Array Value->α):Extern.BytealgIndexByte.indexByte.match_2 (λ_=>α) #[b,c] f g=f b c:=rfl
theorem OV{f:FuncId}{fn:Func}(hf:P.funcs[f]? =some fn)(ae:fn.body=none)(ti:yx P){args:List I}{H aI:ab}{v:I}(h:px P fn fn.name args H=some (v,aI))
  {μ:bb}{w:World}{vs:List Value}(ah:bc μ H w)(aD:bP μ args vs):
  ∃u w',(callFunc f ⟨vs⟩).run P w=.ok (.value u) w'/\Ends μ H w (.ret v aI) (.returned u) w':=by
 have call:∀e:Array Value->Sem Value,fn.name∈p2->Extern.find fn=some e->(callFunc f ⟨vs⟩).run P w=(do let v<-e ⟨vs⟩;pure (.value v):Sem Next).run P w:=by
  intro e hm he
  have aH:=ti f fn hf ae hm
  have BS:(fn.name== "runtime.NumGoroutine")=false:=by
   simp only[p2,List.mem_cons,List.mem_nil_iff,or_false] at hm
   rcases hm with h|h|h|h<;>rw[h]<;>decide
  rw[run_callFunc_extern hf BS (by rw[ae];rfl) aH he];simp only[Sem.run_bind];rfl
 unfold px at h
 split at h
 · rename_i n
   split at h
   · rename_i mQ
     split at h
     · rename_i t bm
       split at h
       · rename_i e hu
         split at h
         · rename_i hle
           cases h
           have x6:n<=1099511627776:=by simpa using hle
           obtain⟨u,us,rfl,aa,ad⟩:=aD
           cases aa;cases ad
           have bh:∀(t:TypeId),(Question.appendCap n 0 t).forced=false:=λ_=>rfl
           obtain⟨cap,hj,GH⟩:∃cap,(Question.appendCap n 0 e).cut (w.tape w.drawn (Question.appendCap n 0 e))=cap/\n<=cap:=⟨_,rfl,by simp[Question.cut]⟩
           obtain⟨GI,l5⟩:∃x,(Question.extern "internal/bytealg.MakeNoZero.bytes" 0).cut (w.drew.tape w.drew.drawn (Question.extern "internal/bytealg.MakeNoZero.bytes" 0))=x:=⟨_,rfl⟩
           have ak:=GF cap GI #[]
           have p3:=ah.drew.drew
           obtain⟨r1,r2⟩:=p3.alloc (.cells (List.replicate n .bad) e .aS 0 0) (.cells (Extern.BytealgMakeNoZero.digits cap GI #[]) e) cap
            ⟨_,0,0,World.heap_alloc_new _ _,λj v aF=>by
              have qY:j<n:=by
               rcases Nat.lt_or_ge j n with h|h
               · exact h
               · rw[List.getElem?_eq_none (by simpa using h)] at aF;cases aF
              rw[List.getElem?_replicate,if_pos qY] at aF
              cases aF
              refine⟨_,Array.getElem?_eq_getElem (by rw[Nat.zero_add,ak];simp;omega),trivial⟩,by rw[ak];simp,by simpa using GH,λj _ _ h=>by omega⟩
           refine⟨_,_,?_,eG μ H.n ⟨w.drew.drew.heap.size,0,cap⟩,_,rfl,⟨_,fl _ _ _,cap,rfl,GH,by simp⟩,r1,bN.trans ah ah.drew bN.drew (bN.trans ah.drew p3 bN.drew r2)⟩
           rw[call _ (by rw[mQ];simp[p2]) (OO mQ)]
           have OW:¬((Int.ofNat n<0||Int.ofNat n>2^48)=true):=by
            have ad:(2:Int)^48=281474976710656:=by rfl
            have aq:Int.ofNat n=(n:Int):=rfl
            rw[ad,aq];simp only[Bool.or_eq_true,decide_eq_true_eq];omega
           have OX:(Question.extern "internal/bytealg.MakeNoZero.bytes" 0).forced=false:=rfl
           have vM:(Int.ofNat n).toNat=n:=rfl
           delta Extern.BytealgMakeNoZero.makeNoZero
           rw[OS]
           simp only[Sem.run_bind,bm,Sem.run_pure,bE hu,Result.andThen_ok]
           rw[if_neg OW]
           simp only[Sem.run_bind,run_choose,vM,bh,OX,Bool.false_eq_true,if_false,World.drew_eq,hj,Result.andThen_ok,run_askRoom,l5,Sem.run_pure]
           rfl
         · cases h
       · cases h
     · cases h
   · cases h
 · rename_i x _
   obtain⟨u,us,rfl,aa,ad⟩:=aD
   cases ad
   split at h
   · rename_i mQ
     cases h
     refine⟨u,w,?_,μ,u,rfl,aa,ah,bN.refl _ _ _⟩
     rw[call _ (by rw[mQ];simp[p2]) (ON mQ)]
     rfl
   · split at h
     · rename_i mQ
       split at h
       · rename_i t r
         split at h
         · rename_i es c aj
           cases h
           obtain⟨y,rfl,i,ag,rfl⟩:=aa
           obtain⟨ents,ax,av⟩:=ah.rel _ _ i aj ag
           have hle:=ah.mB ⟨w.heap.size,0,0⟩
           obtain⟨r1,r2⟩:=ah.alloc (.map es c) (.map ⟨ents⟩ c) 0 ⟨ents,World.heap_alloc_new _ _,av.mono hle⟩
           refine⟨_,_,?_,eG μ H.n ⟨w.heap.size,0,0⟩,.iface _ (.map (some w.heap.size)),rfl,⟨.map (some w.heap.size),rfl,⟨w.heap.size,0,0⟩,fl _ _ _,rfl⟩,r1,r2⟩
           rw[call _ (by rw[mQ];simp[p2]) (OQ mQ)]
           have hD:(getObj i.a1).run P w=.ok (.map ⟨ents⟩ c) w:=by simp[getObj,Sem.run,ax]
           simp only[Sem.run_bind]
           rw[show(⟨[Value.iface _ (Value.map (some i.a1))]⟩:Array Value)=#[.iface _ (.map (some i.a1))] from rfl]
           delta Extern.MapsClone.clone
           rw[OT]
           simp only[Sem.run_bind,hD,Result.andThen_ok,run_newObj,Sem.run_pure]
           rfl
         · cases h
       · cases h
     · cases h
 · rename_i s c
   split at h
   · rename_i mQ
     split at h
     · rename_i af
       cases h
       have nC:c<256:=by simpa using af
       obtain⟨u,us,rfl,aa,ad⟩:=aD
       obtain⟨s9,Ya,rfl,aq,aC⟩:=ad
       cases aq;cases aC
       obtain⟨t,rfl,rfl⟩:=aa
       refine⟨_,w,?_,μ,_,rfl,rfl,ah,bN.refl _ _ _⟩
       rw[call _ (by rw[mQ];simp[p2]) (OP mQ)]
       have l5:(Int.ofNat c).toNat.toUInt8=UInt8.ofNat c:=rfl
       have heq:∀b:UInt8,(b==UInt8.ofNat c)=Nat.beq b.toNat c:=λb=>by
        rw[Bool.eq_iff_iff,beq_iff_eq,Nat.beq_eq,<-UInt8.toNat_inj]
        simp[Nat.mod_eq_of_lt nC]
       delta Extern.BytealgIndexByte.indexByte
       rw[OU]
       simp only[Sem.run_bind,Extern.Bytes.bytesOf,Extern.Bytes.asByte,Sem.run_pure,Result.andThen_ok,l5,heq]
       have hf:=OR t (λb=>Nat.beq b.toNat c)
       rw[hf,GG]
       cases t.data.toList.findIdx? (λb=>Nat.beq b.toNat c) with
       |none=>rfl
       |some j=>
        simp only[Nat.zero_add]
        rfl
     · cases h
   · cases h
 · cases h
def l6(P:Program)(intr:Nat->List I->ab->Option (I×ab)):Prop:=
 ∀f args H v aI,intr f args H=some (v,aI)->∀μ w (vs:List Value),bc μ H w->gm P μ->bP μ args vs->rk P f vs w (Ends μ H w (.ret v aI))
theorem OY(P:Program):l6 P (λ_ _ _=>none):=λ_ _ _ _ _ h=>by cases h
theorem OZ{call:dB->List I->ab->a7}(af:h6 P call)(hdr:∀need bx,k_ P need bx call)(dx:te P)(ti:yx P){f:Nat}{args:List I}{H:ab}(bL:(oq P call f args H).jG=true)
  {μ:bb}{w:World}{vs:List Value}(ah:bc μ H w)(aj:gm P μ)(aD:bP μ args vs):rk P f vs w (Ends μ H w (oq P call f args H)):=by
 unfold oq at bL⊢
 cases hf:P.funcs[f]? with
 |none=>rw[hf] at bL;cases bL
 |some fn=>
  rw[hf] at bL
  simp only at bL⊢
  cases ae:fn.body with
  |none=>
   rw[ae] at bL
   simp only at bL⊢
   cases J:px P fn fn.name args H with
   |none=>rw[J] at bL;cases bL
   |some p=>
    obtain⟨v,aI⟩:=p
    obtain⟨u,w',aa,ad⟩:=OV hf ae ti J ah aD
    exact .inl ⟨u,w',aa,ad⟩
  |some c=>
   rw[ae] at bL
   simp only at bL⊢
   obtain⟨ld,oH⟩:=dx f fn c hf ae
   exact .inr ⟨yu hf ae oH _ _,OF af hdr dx hf ae aD ah aj bL⟩
theorem GJ{intr:Nat->List I->ab->Option (I×ab)}(ag:l6 P intr)(hdr:∀call,h6 P call->∀need bx,k_ P need bx call)(dx:te P)(ti:yx P):∀n,h6 P (et P intr n)
 |0=>⟨λf args H aj=>(by cases aj),λl args H aj=>(by cases aj)⟩
 |n+1=>by
  have a3:=GJ ag hdr dx ti n
  refine⟨λf args H bL μ w vs ah aj aD=>?_,λl args H bL μ w i vs ah aj ar aD=>?_⟩
  · simp only[et] at bL⊢
    cases J:intr f args H with
    |some p=>
     obtain⟨v,aI⟩:=p
     exact ag f args H v aI J μ w vs ah aj aD
    |none=>
     rw[J] at bL
     exact OZ a3 (hdr _ a3) dx ti bL ah aj aD
  · simp only[et] at bL⊢
    exact OJ a3 (hdr _ a3) bL ah aj ar aD
end
end a8
namespace a8
open Go
def ru(ops:Array Oper)(S:List Nat):List Nat->Prop
 |[]=>∀i,i<ops.size->i∈S
 |i::rest=>i<ops.size/\i∉S/\(∀o,ops[i]? =some o->∀e∈o.after,Region.binds .any e=true->e.on∈S)/\ru ops (i::S) rest
theorem filter_lt{p q:Nat->Bool}(BT:∀x,q x=true->p x=true):∀(l:List Nat) {i:Nat},i∈l->p i=true->q i=false->(l.filter q).length<(l.filter p).length
 |[],i,h,_,_=>by cases h
 |a::l,i,h,aL,aE=>by
  have hle:∀l:List Nat,(l.filter q).length<=(l.filter p).length:=λl=>by
   induction l with
   |nil=>simp
   |cons b l a3=>
    simp only[List.filter_cons]
    cases ae:q b with
    |true=>simp[BT b ae];exact a3
    |false=>cases p b<;>simp<;>omega
  rcases List.mem_cons.1 h with rfl|h
  · have:=hle l
    simp only[List.filter_cons,aL,aE,if_true,Bool.false_eq_true,if_false,List.length_cons];omega
  · have a3:=filter_lt BT l h aL aE
    simp only[List.filter_cons]
    cases ae:q a with
    |true=>simp[BT a ae];exact a3
    |false=>cases p a<;>simp<;>omega
theorem O0{ops:Array Oper}(nN:∀o i,ops[i]? =some o->mz o i=true){listed:Array Bool}(bh:listed.size=ops.size)(ai:Region.ready .any ops listed=[]):∀i,i<ops.size->listed.getD i true=true:=by
 intro i
 induction i using Nat.strongRecOn with
 |ind i a3=>
  intro ag
  cases ar:listed.getD i true with
  |true=>rfl
  |false=>
   have aQ:ops[i]? =some ops[i]:=Array.getElem?_eq_getElem ag
   have:i∈Region.ready .any ops listed:=mem_ready.2 ⟨ar,ops[i],aQ,λe he ae=>by
    have:=nN _ _ aQ
    unfold mz at this
    rw[List.all_eq_true] at this
    have ad:=this e (by simpa using he)
    simp only[ae,Bool.not_true,Bool.false_or,Nat.blt_eq] at ad
    have aq:=a3 e.on ad (by omega)
    have bX:e.on<listed.size:=by omega
    simp[bX] at aq⊢
    exact aq⟩
   rw[ai] at this;cases this
theorem GK{ops:Array Oper}(nN:∀o i,ops[i]? =some o->mz o i=true):∀(fuel t:Nat) (listed:Array Bool) (S:List Nat),listed.size=ops.size->(∀i,i<ops.size->(listed.getD i true=true<->i∈S))->
  ((List.range ops.size).filter λi=>!listed.getD i true).length<=fuel->ru ops S (Region.linearise.go .any ops fuel t listed [])
 |0,t,listed,S,bh,hl,hf=>by
  simp only[Region.linearise.go,List.reverse_nil,ru]
  intro i ag
  rw[<-hl i ag]
  have h0:((List.range ops.size).filter λi=>!listed.getD i true)=[]:=List.length_eq_zero_iff.1 (Nat.le_zero.1 hf)
  rw[List.filter_eq_nil_iff] at h0
  have:=h0 i (List.mem_range.2 ag)
  simpa using this
 |fuel+1,t,listed,S,bh,hl,hf=>by
  simp only[Region.linearise.go]
  change ru ops S (match(Region.ready .any ops listed)[t %(Region.ready .any ops listed).length]? with
   |some i=>Region.linearise.go .any ops fuel (t/(Region.ready .any ops listed).length) (listed.setIfInBounds i true) [i]
   |none=>[].reverse)
  cases ag:(Region.ready .any ops listed)[t %(Region.ready .any ops listed).length]? with
  |none=>
   have oK:Region.ready .any ops listed=[]:=by
    cases ai:Region.ready .any ops listed with
    |nil=>rfl
    |cons x xs=>
     rw[ai] at ag
     have bX:t %(x::xs).length<(x::xs).length:=Nat.mod_lt _ (by simp)
     rw[List.getElem?_eq_getElem bX] at ag;cases ag
   simp only[List.reverse_nil,ru]
   exactλi h=>(hl i h).1 (O0 nN bh oK i h)
  |some i=>
   simp only[]
   rw[linearise_go_acc,List.reverse_singleton,List.singleton_append]
   obtain⟨aa,o,ad,aq⟩:=mem_ready.1 (List.mem_of_getElem? ag)
   have bX:i<ops.size:=(Array.getElem?_eq_some_iff.1 ad).1
   have A5:i<listed.size:=by omega
   have oD:∀j d,(listed.setIfInBounds i true).getD j d=if j=i then true else listed.getD j d:=λj d=>by
    simp only[Array.getD_eq_getD_getElem?,Array.getElem?_setIfInBounds]
    by_cases e:i=j
    · subst e;simp[A5]
    · rw[if_neg e,if_neg (λh=>e h.symm)]
   refine⟨bX,λh=>?_,λo' hn e he ae=>?_,GK nN fuel _ _ _ (by simpa using bh) (λj aF=>?_) ?_⟩
   · have:=(hl i bX).2 h
     rw[aa] at this;cases this
   · rw[ad] at hn;cases hn
     have aC:=aq e he ae
     have mR:e.on<listed.size:=by
      rcases Nat.lt_or_ge e.on listed.size with h|h
      · exact h
      · simp[Array.getElem?_eq_none h] at aC
     rw[<-hl e.on (by omega)]
     simp[mR] at aC⊢
     exact aC
   · rw[oD,List.mem_cons]
     by_cases e:j=i
     · simp[e]
     · rw[if_neg e,hl j aF];simp[e]
   · have Yb:((List.range ops.size).filter λj=>!(listed.setIfInBounds i true).getD j true).length<((List.range ops.size).filter λj=>!listed.getD j true).length:=
       filter_lt (λx J=>by
        rw[oD] at J
        by_cases e:x=i
        · rw[if_pos e] at J;cases J
        · rw[if_neg e] at J;exact J) _ (List.mem_range.2 bX) (by rw[aa];rfl) (by rw[oD,if_pos rfl];rfl)
     omega
theorem O1{ops:Array Oper}(nN:∀o i,ops[i]? =some o->mz o i=true)(t:Nat):ru ops [] (Region.schedule true ops t):=by
 simp only[Region.schedule,Bool.true_or,if_true,Region.linearise]
 refine GK nN ops.size t _ [] (by simp) (λi ag=>by simp[ag]) ?_
 refine Nat.le_trans (List.length_filter_le _ _) (by simp)
section
variable {P:Program} {g fr:Operand->I}
theorem BU{o:Option Operand}(h:∀x∈o.toArray,g x=fr x):o.map g=o.map fr:=by
 cases o with
 |none=>rfl
 |some x=>simp[h x (by simp)]
theorem vN(o:Oper)(H:ab)(h:∀x∈o.op.operands,g x=fr x):cj P o g H=cj P o fr H:=by
 obtain⟨dst,op,type,pos,after,guard⟩:=o
 have yy:∀ps:Array (Nat×Operand),(∀x∈ps.map (·.2),g x=fr x)->(ps.toList.map λp=>(p.1,g p.2))=(ps.toList.map λp=>(p.1,fr p.2)):=λps aL=>
  List.map_congr_left λp hm=>by rw[aL p.2 (Array.mem_map.2 ⟨p,by simpa using hm,rfl⟩)]
 cases op<;>simp only[Op.operands] at h<;>unfold cj
 case build t ps=>simp only[yy ps λx J=>h x (by simpa using J)]
 case buildSlice t n ps=>simp only[yy ps λx J=>h x (by simpa using J)]
 case makeFunc fn first captured=>
  simp only[List.map_congr_left (l:=first.toList) λx J=>h x (by simp at J;simp[J]),List.map_congr_left (l:=captured.toList) λx J=>h x (by simp at J;simp[J])]
 case call c=>
  have aw:c.args.toList.map g=c.args.toList.map fr:=List.map_congr_left λx J=>h x (by simp at J;simp[Call.operands,J])
  simp only[aw]
  cases af:c.callee with
  |value f=>have hf:g f=fr f:=h f (by simp[Call.operands,af]);simp only[hf]
  |invoke r m=>have ai:g r=fr r:=h r (by simp[Call.operands,af]);simp only[ai]
  |builtin b=>rfl
 case defer c=>
  have aw:c.args.toList.map g=c.args.toList.map fr:=List.map_congr_left λx J=>h x (by simp at J;simp[Call.operands,J])
  simp only[aw]
  cases af:c.callee with
  |value f=>have hf:g f=fr f:=h f (by simp[Call.operands,af]);simp only[hf]
  |invoke r m=>rfl
  |builtin b=>rfl
 case makeMap t r=>cases r<;>simp_all
 case slice t x aY ag mx=>
  have ax:aY.map g=aY.map fr:=BU λy aO=>h y (by simp at aO;simp[aO])
  have av:ag.map g=ag.map fr:=BU λy aO=>h y (by simp at aO;simp[aO])
  have bq:mx.map g=mx.map fr:=BU λy aO=>h y (by simp at aO;simp[aO])
  have dD:g x=fr x:=h x (by simp)
  have iR:∀o:Option Operand,(o.map λo=>kindName (g o))=(o.map g).map kindName:=λo=>by cases o<;>rfl
  have iS:∀o:Option Operand,(o.map λo=>kindName (fr o))=(o.map fr).map kindName:=λo=>by cases o<;>rfl
  simp only[ax,av,bq,dD,iR,iS]
 all_goals (first|rfl|(simp_all;done))
theorem vO(o:Op)(b:Nat)(h:∀x∈o.operands,g x=fr x):iO P o g b=iO P o fr b:=by
 have yy:∀ps:Array (Nat×Operand),(∀x∈ps.map (·.2),g x=fr x)->(ps.toList.map λp=>(p.1,g p.2))=(ps.toList.map λp=>(p.1,fr p.2)):=λps aL=>
  List.map_congr_left λp hm=>by rw[aL p.2 (Array.mem_map.2 ⟨p,by simpa using hm,rfl⟩)]
 cases o<;>simp only[Op.operands] at h<;>unfold iO
 case buildSlice t n ps=>simp only[yy ps λx J=>h x (by simpa using J)]
 case makeMap t r=>cases r<;>rfl
 all_goals (first|rfl|(simp_all;done))
theorem O2{o:Oper}{H aI:ab}{v:I}(an:kindOf P o.op=.pure)(h:cj P o g H=.val v aI):aI=H:=by
 have fQ:∀{w:String} {x:Option I},eS H w x=.val v aI->aI=H:=λ{w x} e=>by
  cases x with
  |none=>cases e
  |some y=>cases e;rfl
 obtain⟨dst,op,type,pos,after,guard⟩:=o
 cases op<;>simp only[kindOf] at an<;>(try (cases an;done))<;>unfold cj at h<;>simp only at h
 case move=>cases h;rfl
 case assign=>cases h;rfl
 case pick=>
  split at h
  · cases h;rfl
  · cases h;rfl
  · cases h
 case build=>
  repeat' (first|contradiction|(cases h;rfl)|(cases h;done)|split at h)
 case load=>
  repeat' (first|contradiction|(cases h;rfl)|(cases h;done)|exact fQ h|split at h)
 case nilCheck=>repeat' (first|contradiction|(cases h;rfl)|(cases h;done)|exact fQ h|split at h)
 case binOp=>exact fQ h
 case unOp=>repeat' (first|contradiction|(cases h;rfl)|(cases h;done)|exact fQ h|split at h)
 case convert s d x=>
  have cF:∀e,P.underlying d≠some (.slice e):=λe he=>by rw[he] at an;cases an
  unfold e8 at h
  repeat' (first|exact absurd (by assumption) (cF _)|(cases h;rfl)|(cases h;done)|split at h)
 case makeInterface=>repeat' (first|contradiction|(cases h;rfl)|(cases h;done)|exact fQ h|split at h)
 case makeFunc=>repeat' (first|contradiction|(cases h;rfl)|(cases h;done)|exact fQ h|split at h)
 case makeMap r=>cases r<;>cases an
 case slice=>exact fQ h
 case fieldAddr=>repeat' (first|contradiction|(cases h;rfl)|(cases h;done)|exact fQ h|split at h)
 case field=>repeat' (first|contradiction|(cases h;rfl)|(cases h;done)|exact fQ h|split at h)
 case indexAddr=>repeat' (first|contradiction|(cases h;rfl)|(cases h;done)|exact fQ h|split at h)
 case index=>repeat' (first|contradiction|(cases h;rfl)|(cases h;done)|exact fQ h|split at h)
 case lookup=>exact fQ h
 case typeAssert=>repeat' (first|contradiction|(cases h;rfl)|(cases h;done)|exact fQ h|split at h)
 case extract=>repeat' (first|contradiction|(cases h;rfl)|(cases h;done)|exact fQ h|split at h)
 case call c=>
  cases af:c.callee with
  |value f=>rw[af] at an;cases an
  |invoke r m=>rw[af] at an;cases an
  |builtin b=>
   rw[af] at an h
   simp only at h
   cases b<;>simp only at an<;>(try (cases an;done))<;>unfold g5 at h<;>simp only at h
   all_goals repeat' (first|contradiction|(cases h;rfl)|(cases h;done)|exact fQ h|split at h)
end
end a8
namespace a8
open Go
def jL(ops:Array Oper)(S:List Nat)(j:Nat):Prop:=∀o,ops[j]? =some o->∀e∈o.after,Region.binds .any e=true->e.on∈S
def vP(ops:Array Oper)(S:List Nat):Prop:=∀j∈S,jL ops S j
def Sound(ops:Array Oper)(j m:Nat):Prop:=∀S,vP ops S->jL ops S j->∀b,Nat.testBit m b=true->b∈S
def vQ(ops:Array Oper)(n:Nat)(fy:List Nat):Prop:=∀j,j<n->∃m,nth (n-1-j) fy=some m/\Sound ops j m
theorem O3(a b:Nat)(h:Nat.testBit (1<<<a) b=true):b=a:=by
 rw[Nat.shiftLeft_eq,Nat.one_mul,Nat.testBit_two_pow] at h
 exact(of_decide_eq_true h).symm
theorem GL{fy:List Nat}{n:Nat}:∀(l:List Edge) (s b:Nat),Nat.testBit (l.foldl (λs e=>match Region.binds .any e with
  |true=>s|||1<<<e.on|||(nth (n-1-e.on) fy).getD 0
  |false=>s) s) b=true->Nat.testBit s b=true\/∃e∈l,Region.binds .any e=true/\(b=e.on\/Nat.testBit ((nth (n-1-e.on) fy).getD 0) b=true)
 |[],s,b,h=>.inl h
 |e::l,s,b,h=>by
  rw[List.foldl_cons] at h
  rcases GL l _ b h with h|⟨cn,aa,ad⟩
  · cases ae:Region.binds .any e with
    |false=>rw[ae] at h;exact .inl h
    |true=>
     rw[ae] at h
     simp only[Nat.testBit_or,Bool.or_eq_true] at h
     rcases h with(h|h)|h
     · exact .inl h
     · exact .inr ⟨e,by simp,ae,.inl (O3 _ _ h)⟩
     · exact .inr ⟨e,by simp,ae,.inr h⟩
  · exact .inr ⟨cn,by simp[aa],ad⟩
theorem O4{ops:Array Oper}{fy:List Nat}{n:Nat}{o:Oper}(aQ:ops[n]? =some o)(ae:mz o n=true)(hm:vQ ops n fy):Sound ops n (u1 fy n o):=by
 intro S hl ai b h
 unfold u1 at h
 rw[<-Array.foldl_toList] at h
 rcases GL _ _ _ h with h|⟨e,aa,ad,aq⟩
 · simp at h
 · have he:e∈o.after:=by simpa using aa
   have mR:=ai o aQ e he ad
   rcases aq with rfl|aq
   · exact mR
   · have bX:e.on<n:=by
       unfold mz at ae
       rw[List.all_eq_true] at ae
       have:=ae e aa
       simpa[ad] using this
     obtain⟨m,yz,yA⟩:=hm e.on bX
     rw[yz] at aq
     exact yA S hl (hl _ mR) b aq
theorem vQ.cons{ops:Array Oper}{fy:List Nat}{n m:Nat}(h:vQ ops n fy)(hs:Sound ops n m):vQ ops (n+1) (m::fy):=by
 intro j aF
 by_cases e:j=n
 · subst e;exact⟨m,by simp[nth],hs⟩
 · obtain⟨oI,aa,ad⟩:=h j (by omega)
   refine⟨oI,?_,ad⟩
   have:n+1-1-j=(n-1-j)+1:=by omega
   rw[this];exact aa
theorem GM:∀(l:List Oper) (n:Nat) (loc:List (Nat×Acc)) (k:Nat) (o:Oper),l[k]? =some o->hQ (l.take (k+1)) n loc=gg o (n+k) (hQ (l.take k) n loc)
 |[],n,loc,k,o,h=>by simp at h
 |x::l,n,loc,0,o,h=>by simp at h;subst h;simp[hQ]
 |x::l,n,loc,k+1,o,h=>by
  have ao:l[k]? =some o:=by simpa using h
  have a3:=GM l (n+1) (gg x n loc) k o ao
  simp only[List.take_succ_cons,hQ]
  rw[a3]
  have:n+1+k=n+(k+1):=by omega
  rw[this]
theorem vR{ops:Array Oper}:∀(l:List Oper) (n:Nat) (loc:List (Nat×Acc)) (fy:List Nat),(∀k,l[k]? =ops[n+k]?)->(∀s∈ei l n loc fy,mz s.o s.i=true)->vQ ops n fy->∀(k:Nat) (o:Oper),l[k]? =some o->
  ∃s,(ei l n loc fy)[k]? =some s/\s.i=n+k/\s.o=o/\s.loc=hQ (l.take k) n loc/\Sound ops (n+k) s.ed
 |[],n,loc,fy,ar,he,hm,k,o,h=>by simp at h
 |x::l,n,loc,fy,ar,he,hm,k,o,h=>by
  simp only[ei] at he⊢
  have J:ops[n]? =some x:=by have:=ar 0;simpa using this.symm
  have ae:mz x n=true:=he ⟨n,x,u1 fy n x,loc⟩ (by simp)
  have hs:=O4 J ae hm
  cases k with
  |zero=>
   simp at h;subst h
   exact⟨_,rfl,rfl,rfl,rfl,hs⟩
  |succ k=>
   obtain⟨s,aa,ad,aq,aC,bC⟩:=vR l (n+1) (gg x n loc) (u1 fy n x::fy) (λj=>by have:=ar (j+1);simp at this;rw[this];congr 1;omega) (λs hs=>he s (by simp[hs])) (hm.cons hs) k o (by simpa using h)
   exact⟨s,by simpa using aa,by omega,aq,by simpa[hQ] using aC,by rw[show n+(k+1)=n+1+k by omega];exact bC⟩
theorem BV:∀(l:List Oper) (n:Nat) (loc:List (Nat×Acc)) (fy:List Nat),(ei l n loc fy).length=l.length
 |[],_,_,_=>rfl
 |x::l,n,loc,fy=>by simp[ei,BV l]
theorem tj{ops:Array Oper}:∀{l:List DStep},ou ops l=true->∀s∈l,mz s.o s.i=true
 |[],_,s,h=>by cases h
 |x::l,ak,s,h=>by
  simp only[ou,Bool.and_eq_true] at ak
  rcases List.mem_cons.1 h with rfl|h
  · exact ak.1.1
  · exact tj ak.2 s h
theorem GN{ops:Array Oper}{s:DStep}:∀{l:List DStep},xM ops s l=true->∀a6∈l,(∃t,s.o.dst=some t/\t∈kB ops a6.o)\/(∃t,a6.o.dst=some t/\t∈kB ops s.o)->Nat.testBit a6.ed s.i=true
 |[],_,a6,h=>by cases h
 |x::l,ak,a6,h=>by
  simp only[xM,Bool.and_eq_true] at ak
  rcases List.mem_cons.1 h with rfl|h
  · intro aH
    have aa:=ak.1
    split at aa
    · exact aa
    · rename_i af
      exfalso
      rw[Bool.or_eq_false_iff] at af
      rcases aH with⟨t,e,hm⟩|⟨t,e,hm⟩
      · have:=af.1;rw[e] at this;simp[hm] at this
      · have:=af.2;rw[e] at this;simp[hm] at this
  · exact GN ak.2 a6 h
theorem GO{ops:Array Oper}:∀{l:List DStep},ou ops l=true->∀(i j:Nat) (s a6:DStep),i<j->l[i]? =some s->l[j]? =some a6->(∃t,s.o.dst=some t/\t∈kB ops a6.o)\/(∃t,a6.o.dst=some t/\t∈kB ops s.o)->Nat.testBit a6.ed s.i=true
 |[],_,i,j,s,a6,_,h,_=>by simp at h
 |x::l,ak,i,j,s,a6,rv,aa,ad=>by
  simp only[ou,Bool.and_eq_true] at ak
  cases j with
  |zero=>omega
  |succ j=>
   have tk:l[j]? =some a6:=by simpa using ad
   cases i with
   |zero=>
    simp at aa;subst aa
    exact GN ak.1.2 a6 (List.mem_of_getElem? tk)
   |succ i=>exact GO ak.2 i j s a6 (by omega) (by simpa using aa) tk
structure ry where
 env:List I
 d:List bz
 q:bu
 h:ab
 aX:List (Nat×Nat×ab)
section
variable {P:Program} {need:Nat} {inR:Bool} {call:dB->List I->ab->a7} {ops:Array Oper} {r:aN} {cm:Nat}
def kJ(P:Program)(need:Nat)(r:aN)(s:DStep)(env:List I):Operand->I:=λx=>c1 s.i env r (cl P need s.loc x)
inductive rz(P:Program)(need:Nat)(inR:Bool)(call:dB->List I->ab->a7)(ops:Array Oper)(r:aN)(cm:Nat)(s:DStep)(st:ry):ry->Prop where
 |tl (an:kindOf P s.o.op=.alloc) (hw:dC (fN P need ops r s.i st.env s)=some false):rz P need inR call ops r cm s st {st with env:=.aJ []::st.env}
 |alloc {v:I} {cE:cX} (an:kindOf P s.o.op=.alloc) (hw:dC (fN P need ops r s.i st.env s)=some true) (aw:iO P s.o.op (kJ P need r s st.env) (cm+s.i)=some (v,cE)):
   rz P need inR call ops r cm s st {st with env:=v::st.env,h:=st.h.set (cm+s.i) (some cE)}
 |pure {v:I} {aW:List bz} {a0:bu} {ao:ab} (an:kindOf P s.o.op=.pure) (he:dc P inR call (fN P need ops r s.i st.env s) s.o (kJ P need r s st.env) st.d st.q st.h=.ok v aW a0 ao):
   rz P need inR call ops r cm s st {st with env:=v::st.env}
 |du {v:I} {aW:List bz} {a0:bu} {ao:ab} (an:kindOf P s.o.op=.du) (aQ:∀e m h0 l,st.aX=(e,m,h0)::l->Nat.testBit s.ed e=true)
   (he:dc P inR call (fN P need ops r s.i st.env s) s.o (kJ P need r s st.env) st.d st.q st.h=.ok v aW a0 ao):rz P need inR call ops r cm s st ⟨v::st.env,aW,a0,ao,(s.i,s.ed,st.h)::st.aX⟩
theorem O5{s:DStep}{rest:List DStep}{st:ry}{x:AQ}(h:fg P need inR call ops r cm (s::rest) st.env st.d st.q st.h st.aX=x)(hf:∀w,x≠ .fail w):
  (∃bG,rz P need inR call ops r cm s st bG/\fg P need inR call ops r cm rest bG.env bG.d bG.q bG.h bG.aX=x)\/
  (kindOf P s.o.op=.du/\(∀e m h0 l,st.aX=(e,m,h0)::l->Nat.testBit s.ed e=true)/\rest.all (λa6=>Nat.testBit a6.ed s.i)=true/\
   ∃v aW a0 ao,dc P inR call (fN P need ops r s.i st.env s) s.o (kJ P need r s st.env) st.d st.q st.h=.bK v aW a0 ao/\x=.bK v st.env aW a0 ao ((s.i,s.ed,st.h)::st.aX)):=by
 simp only[fg] at h
 split at h
 · rename_i an
   split at h
   · exact absurd h.symm (hf _)
   · rename_i hw;exact .inl ⟨_,.tl an hw,h⟩
   · rename_i hw
     split at h
     · rename_i v cE aw;exact .inl ⟨_,.alloc an hw aw,h⟩
     · exact absurd h.symm (hf _)
 · rename_i an
   split at h
   · rename_i he;exact .inl ⟨_,.pure an he,h⟩
   · exact absurd h.symm (hf _)
   · exact absurd h.symm (hf _)
 · rename_i an
   split at h
   · exact absurd h.symm (hf _)
   · rename_i aQ
     have hn:∀e m h0 l,st.aX=(e,m,h0)::l->Nat.testBit s.ed e=true:=λe m h0 l hs=>by rw[hs] at aQ;exact aQ
     split at h
     · rename_i he;exact .inl ⟨_,.du an hn he,h⟩
     · rename_i he
       split at h
       · rename_i dx;exact .inr ⟨an,hn,dx,_,_,_,_,he,h.symm⟩
       · exact absurd h.symm (hf _)
     · exact absurd h.symm (hf _)
theorem GP:∀(l:List DStep) (st:ry) (x:AQ),fg P need inR call ops r cm l st.env st.d st.q st.h st.aX=x->(∀w,x≠ .fail w)->
  ∃(f:Nat->ry) (N:Nat),f 0=st/\N<=l.length/\(∀k s,k<N->l[k]? =some s->rz P need inR call ops r cm s (f k) (f (k+1)))/\
   ((N=l.length/\x=.ok (f N).env (f N).d (f N).q (f N).h (f N).aX)\/
    (∃s,l[N]? =some s/\kindOf P s.o.op=.du/\(∀e m h0 l,(f N).aX=(e,m,h0)::l->Nat.testBit s.ed e=true)/\(∀k a6,N<k->l[k]? =some a6->Nat.testBit a6.ed s.i=true)/\
     ∃v aW a0 ao,dc P inR call (fN P need ops r s.i (f N).env s) s.o (kJ P need r s (f N).env) (f N).d (f N).q (f N).h=.bK v aW a0 ao/\x=.bK v (f N).env aW a0 ao ((s.i,s.ed,(f N).h)::(f N).aX)))
 |[],st,x,h,hf=>⟨λ_=>st,0,rfl,Nat.le_refl _,λk s an=>by omega,.inl ⟨rfl,h.symm⟩⟩
 |s::l,st,x,h,hf=>by
  rcases O5 h hf with⟨bG,aa,ad⟩|⟨aa,ad,aq,aC⟩
  · obtain⟨f,N,al,aA,aU,bB⟩:=GP l bG x ad hf
    refine⟨λk=>match k with|0=>st|k+1=>f k,N+1,rfl,by simpa using aA,λk a6 an hs=>?_,?_⟩
    · cases k with
      |zero=>simp at hs;subst hs;simp only[Nat.zero_add,al];exact aa
      |succ k=>exact aU k a6 (by omega) (by simpa using hs)
    · rcases bB with⟨ax,av⟩|⟨s2,ax,av,bq,dD,iR⟩
      · exact .inl ⟨by simp[ax],av⟩
      · refine .inr ⟨s2,by simpa using ax,av,bq,λk a6 an hs=>?_,iR⟩
        cases k with
        |zero=>omega
        |succ k=>exact dD k a6 (by omega) (by simpa using hs)
  · refine⟨λ_=>st,0,rfl,by simp,λk s an=>by omega,.inr ⟨s,rfl,aa,ad,λk a6 an hs=>?_,aC⟩⟩
    cases k with
    |zero=>omega
    |succ k=>
     rw[List.all_eq_true] at aq
     exact aq a6 (List.mem_of_getElem? (by simpa using hs))
mutual
theorem beq_eq:∀(a c:I),I.beq a c=true->a=c
 |.bool a,c,h=>by
  cases c<;>simp only[I.beq] at h<;>first|(cases h;done)|(simp at h;subst h;rfl)
 |.int k n,c,h=>by
  cases c<;>simp only[I.beq] at h<;>first|(cases h;done)|(simp[cW] at h;obtain⟨rfl,rfl⟩:=h;rfl)
 |.str s,c,h=>by
  cases c<;>simp only[I.beq] at h<;>first|(cases h;done)|(rw[nF] at h;simp at h;subst h;rfl)
 |.br,c,h=>by cases c<;>simp only[I.beq] at h<;>first|(cases h;done)|rfl
 |.ptr x y,c,h=>by
  cases c<;>simp only[I.beq] at h<;>first|(cases h;done)|(rw[Bool.and_eq_true,Nat.beq_eq,Nat.beq_eq] at h;obtain⟨rfl,rfl⟩:=h;rfl)
 |.bd,c,h=>by cases c<;>simp only[I.beq] at h<;>first|(cases h;done)|rfl
 |.slice x y z cap,c,h=>by
  cases c<;>simp only[I.beq] at h<;>(try (cases h;done))
  rename_i O6 Ms Yc O7
  simp only[Bool.and_eq_true,Nat.beq_eq] at h
  obtain⟨⟨⟨rfl,rfl⟩,rfl⟩,h⟩:=h
  cases cap<;>cases O7<;>simp only[c7.beq] at h<;>first|(cases h;done)|(rw[Nat.beq_eq] at h;subst h;rfl)|rfl
 |.g2,c,h=>by cases c<;>simp only[I.beq] at h<;>first|(cases h;done)|rfl
 |.map x,c,h=>by
  cases c<;>simp only[I.beq] at h<;>first|(cases h;done)|(rw[Nat.beq_eq] at h;subst h;rfl)
 |.eY,c,h=>by cases c<;>simp only[I.beq] at h<;>first|(cases h;done)|rfl
 |.fn x as bs,c,h=>by
  cases c<;>simp only[I.beq] at h<;>(try (cases h;done))
  simp only[Bool.and_eq_true,Nat.beq_eq] at h
  obtain⟨⟨rfl,aa⟩,ad⟩:=h
  rw[tm _ _ aa,tm _ _ ad]
 |.cS x,c,h=>by
  cases c<;>simp only[I.beq] at h<;>first|(cases h;done)|(rw[Nat.beq_eq] at h;subst h;rfl)
 |.ea,c,h=>by cases c<;>simp only[I.beq] at h<;>first|(cases h;done)|rfl
 |.iface t v,c,h=>by
  cases c<;>simp only[I.beq] at h<;>(try (cases h;done))
  simp only[Bool.and_eq_true,Nat.beq_eq] at h
  obtain⟨rfl,aa⟩:=h
  rw[beq_eq _ _ aa]
 |.agg cs,c,h=>by
  cases c<;>simp only[I.beq] at h<;>(try (cases h;done))
  rw[tm _ _ h]
 |.aJ cs,c,h=>by
  cases c<;>simp only[I.beq] at h<;>(try (cases h;done))
  rw[tm _ _ h]
 |.bad,c,h=>by cases c<;>simp only[I.beq] at h<;>cases h
theorem tm:∀(a c:List I),I.lN a c=true->a=c
 |[],[],_=>rfl
 |[],_::_,h=>by simp[I.lN] at h
 |_::_,[],h=>by simp[I.lN] at h
 |x::a,y::c,h=>by
  simp only[I.lN,Bool.and_eq_true] at h
  rw[beq_eq _ _ h.1,tm _ _ h.2]
end
end
end a8
