/-
  THE ABSTRACT EVALUATOR (code, functions, rounds, calls): a deterministic semantics of loaded code, and the proof that its runs are runs of the program in the model, whatever the tape draws. No condition.
-/
import Derived.Test.YtfooahfebojldaaGreatDoorAeb
import Derived.Defers
import Derived.Laws.Externs
import Derived.Orders
set_option linter.unusedVariables false
set_option linter.unusedSimpArgs false
namespace aB
open Go
def qw(P:Program)(need:Nat)(ops:Array Oper):List Oper->List (Nat×Acc)->Nat->List Step
 |[],_,_=>[]
 |o::rest,loc,m=>
  match aliasOf o with
  |some (t,x)=>qw P need ops rest ((t,cL P need loc x)::loc) m
  |none=>⟨jr P need ops loc o,o,loc,m⟩::qw P need ops rest (k3 o m loc) (m+1)
def oe(P:Program)(need:Nat)(ops:Array Oper):List Oper->List (Nat×Acc)->Nat->List (Nat×Acc)
 |[],loc,_=>loc
 |o::rest,loc,m=>
  match aliasOf o with
  |some (t,x)=>oe P need ops rest ((t,cL P need loc x)::loc) m
  |none=>oe P need ops rest (k3 o m loc) (m+1)
theorem Br(P:Program)(need:Nat)(ops:Array Oper):∀(l:List Oper) (loc:List (Nat×Acc)) (st:List Step) (m:Nat),tt P need ops l loc st m=⟨st.reverse++qw P need ops l loc m,oe P need ops l loc m⟩
 |[],loc,st,m=>by simp[tt,qw,oe]
 |o::rest,loc,st,m=>by
  unfold tt qw oe
  cases ba:aliasOf o with
  |some p=>obtain⟨t,x⟩:=p;simp only[ba];exact Br P need ops rest _ st m
  |none=>simp only[ba];rw[Br P need ops rest];simp
section
variable {P:Program} {need:Nat}
theorem nt(t u:Nat)(a:Acc)(l:List (Nat×Acc)):hO t ((u,a)::l)=if t=u then some a else hO t l:=by
 rw[hO]
 by_cases h:t=u
 · subst h;simp
 · have:Nat.beq t u=false:=by
     cases af:Nat.beq t u with
     |false=>rfl
     |true=>exact absurd (Nat.eq_of_beq_eq_true af) h
   rw[this,if_neg h]
def Acc.below(m:Nat):Acc->Prop
 |.env j=>j<m
 |_=>True
theorem NK{m:Nat}{env:List I}{r:aR}{v:I}{a:Acc}(h:a.below m):dF (m+1) (v::env) r a=dF m env r a:=by
 cases a with
 |env j=>
  simp only[Acc.below] at h
  have:m+1-1-j=(m-1-j)+1:=by omega
  simp only[dF,this,nth]
 |reg p=>rfl
 |val v=>rfl
theorem NL{m:Nat}{env:List I}{r:aR}{v:I}:dF (m+1) (v::env) r (.env m)=v:=by
 simp[dF,nth]
def Bs(m:Nat)(loc:List (Nat×Acc)):Prop:=∀t a,hO t loc=some a->a.below m
theorem yF{m:Nat}{loc:List (Nat×Acc)}(h:Bs m loc)(x:Operand):(cL P need loc x).below m:=by
 cases x with
 |tmp t=>
  simp only[cL]
  cases hf:hO t loc with
  |some a=>exact h t a hf
  |none=>simp only[];cases Nat.testBit need t<;>trivial
 |const v=>trivial
 |global g=>simp only[cL];cases Nat.blt g P.globals.size<;>trivial
 |func f=>trivial
theorem Acc.Gh{m n:Nat}(h:m<=n){a:Acc}(ba:a.below m):a.below n:=by
 cases a with
 |env j=>exact Nat.lt_of_lt_of_le ba h
 |reg p=>trivial
 |val v=>trivial
structure iz(P:Program)(need:Nat)(μ:bg)(r:aR)(m:Nat)(env:List I)(loc:List (Nat×Acc))(b9:Array Value):Prop where
 tJ:Bs m loc
 rel:∀t,a9 μ (dF m env r (cL P need loc (.tmp t))) (b9.getD t undef)
theorem iz.mono{μ aM:bg}{r:aR}{m:Nat}{env:List I}{loc:List (Nat×Acc)}{b9:Array Value}(hle:eF μ aM)(h:iz P need μ r m env loc b9):iz P need aM r m env loc b9:=⟨h.tJ,λt=>(h.rel t).mono hle⟩
theorem iz.eval{μ:bg}{r:aR}{m:Nat}{env:List I}{loc:List (Nat×Acc)}{a:Act}(h:iz P need μ r m env loc a.tmps)(ak:ha P μ)(x:Operand):a9 μ (dF m env r (cL P need loc x)) (a.eval x):=by
 cases x with
 |tmp t=>exact h.rel t
 |const v=>exact jw μ v
 |global g=>
  simp only[cL,Act.eval]
  cases af:Nat.blt g P.globals.size with
  |false=>exact trivial
  |true=>
   obtain⟨i,aa,ad,aw⟩:=ak g (by simpa using af)
   obtain⟨iw,i0,yx⟩:=i
   simp only at ad aw
   subst ad;subst aw
   exact⟨_,aa,rfl⟩
 |func f=>exact⟨[],[],rfl,rfl,rfl⟩
theorem iz.init{μ:bg}{r:aR}{b9:Array Value}(h:ib need μ r b9):iz P need μ r 0 [] [] b9:=
 ⟨λt a h=>by simp[hO] at h,λt=>by
  simp only[cL,hO]
  cases af:Nat.testBit need t with
  |true=>exact h t af
  |false=>trivial⟩
theorem vY{b9:Array Value}{d t:Nat}{u:Value}(aA:d<b9.size):(b9.setIfInBounds d u).getD t undef=if t=d then u else b9.getD t undef:=by
 simp only[Array.getD_eq_getD_getElem?,Array.getElem?_setIfInBounds]
 by_cases h:d=t
 · subst h;simp[aA]
 · rw[if_neg h,if_neg (λe=>h e.symm)]
theorem iz.alias{μ:bg}{r:aR}{m:Nat}{env:List I}{loc:List (Nat×Acc)}{a:Act}(h:iz P need μ r m env loc a.tmps)(ak:ha P μ){t:Nat}(aU:t<a.tmps.size)(x:Operand):
  iz P need μ r m env ((t,cL P need loc x)::loc) (a.put (some t) (a.eval x)).tmps:=by
 refine⟨λu b hu=>?_,λu=>?_⟩
 · rw[nt] at hu
   split at hu
   · cases hu;exact yF h.tJ x
   · exact h.tJ u b hu
 · simp only[cL,nt,Act.put]
   rw[vY aU]
   by_cases e:u=t
   · simp only[e,if_true];exact h.eval ak x
   · simp only[e,if_false];exact h.rel u
theorem iz.step{μ:bg}{r:aR}{m:Nat}{env:List I}{loc:List (Nat×Acc)}{a:Act}(h:iz P need μ r m env loc a.tmps){o:Oper}(aU:∀t,o.dst=some t->t<a.tmps.size){v:I}{u:Value}(aC:a9 μ v u):
  iz P need μ r (m+1) (v::env) (k3 o m loc) (a.put o.dst u).tmps:=by
 have old:∀t,a9 μ (dF (m+1) (v::env) r (cL P need loc (.tmp t))) (a.tmps.getD t undef):=λt=>by
  rw[NK (yF h.tJ _)];exact h.rel t
 unfold k3
 cases aA:o.dst with
 |none=>exact⟨λt b af=>Acc.Gh (Nat.le_succ m) (h.tJ t b af),old⟩
 |some d=>
  refine⟨λt b af=>?_,λt=>?_⟩
  · rw[nt] at af
    split at af
    · cases af;exact Nat.lt_succ_self m
    · exact Acc.Gh (Nat.le_succ m) (h.tJ t b af)
  · simp only[Act.put]
    rw[vY (aU d aA)]
    by_cases e:t=d
    · simp only[cL,nt,e,if_true,NL];exact aC
    · have:=old t
      simp only[cL,nt,e,if_false] at this⊢
      exact this
theorem Gi{ops:Array Oper}{b9:Array Value}{j t:Nat}(h:(ops[j]?).bind (·.dst)=some t):yielded ops b9 j=match b9.getD t undef with
  |.bool b=>some b
  |_=>none:=by
 unfold yielded
 rw[h,Option.bind_some]
 rw[Array.getD_eq_getD_getElem?]
 cases aj:b9[t]? with
 |none=>rfl
 |some v=>simp only[Option.getD_some];cases v<;>rfl
theorem NM{μ:bg}{ops:Array Oper}{loc:List (Nat×Acc)}{o:Oper}{acc:Acc->I}{b9:Array Value}(kD:∀t,a9 μ (acc (cL P need loc (.tmp t))) (b9.getD t undef))(mM:∀v,acc (.val v)=v):
  ∀od,eb (match jr P need ops loc o with|none=>none|some (a,b)=>some (acc a,b))=some od->Region.wanted o (yielded ops b9)=od:=by
 intro od h
 unfold jr at h
 unfold Region.wanted
 cases ak:o.guard with
 |none=>rw[ak] at h;simp only[eb] at h;cases h;rfl
 |some p=>
  obtain⟨j,b⟩:=p
  rw[ak] at h
  simp only at h⊢
  cases aU:(ops[j]?).bind (·.dst) with
  |none=>rw[aU] at h;simp only[mM,eb] at h;cases h
  |some t=>
   rw[aU] at h
   simp only at h
   have ai:=kD t
   rw[Gi aU]
   generalize acc (cL P need loc (.tmp t))=v at h ai
   unfold eb at h
   split at h
   · rename_i he;cases he
   · rename_i he;cases he;cases h
     have Bt:b9.getD t undef=_:=ai
     rw[Bt];rfl
   · rename_i he;cases he;cases h
     obtain⟨l,aq,qx⟩:=ai
     cases qx
     rw[aq];rfl
   · cases h
def Bu:List Item->Prop
 |.call _ _ _ _::_=>False
 |_=>True
def og(P:Program)(need cd:Nat)(μ:bg)(r:aR)(H:J)(w:World)(b:Frame)(k:List Item)(cs0:List Frame)(eV:Machine)(loc:List (Nat×Acc)):lL->Prop
 |.ok env bx bG aT=>∃aM w' db bX,Steps P eV (lone (b.atR db k) bX w')/\iz P need aM r env.length env loc db.tmps/\db.tmps.size=cd/\bn aM aT w'/\b5 μ H w aM aT w'/\fW aM bx db.defers/\hA aM b.kind cs0 bG bX
 |.b1 v bx bG aT=>∃aM w' db bX u bV,Steps P eV (lone {b.atR db bV with mode:=.panicking [{v:=u,recovered:=false}]} bX w')/\Bu bV/\a9 aM v u/\
   (∀t,hO t loc=none->Nat.testBit need t=true->a9 aM (r.get (gw t)) (db.tmps.getD t undef))/\db.tmps.size=cd/\bn aM aT w'/\b5 μ H w aM aT w'/\fW aM bx db.defers/\hA aM b.kind cs0 bG bX
 |.fail _=>True
theorem og.of_steps{cd:Nat}{μ fR:bg}{r:aR}{H H1:J}{w dw:World}{b:Frame}{k:List Item}{cs0:List Frame}{eV cM:Machine}{loc:List (Nat×Acc)}{x:lL}(aj:bn μ H w)(k6:bn fR H1 dw)(h:Steps P eV cM)(ba:b5 μ H w fR H1 dw)
  (aa:og P need cd fR r H1 dw b k cs0 cM loc x):og P need cd μ r H w b k cs0 eV loc x:=by
 cases x with
 |ok env d q aT=>
  obtain⟨aM,w',db,bX,s1,s2,bq,bL,cB,dN⟩:=aa
  exact⟨aM,w',db,bX,h.trans s1,s2,bq,bL,b5.trans aj k6 ba cB,dN⟩
 |b1 v d q aT=>
  obtain⟨aM,w',db,bX,u,bV,s1,hb,s2,bq,bL,cB,dN,eP⟩:=aa
  exact⟨aM,w',db,bX,u,bV,h.trans s1,hb,s2,bq,bL,cB,b5.trans aj k6 ba dN,eP⟩
 |fail s=>trivial
theorem Bv{ops:Array Oper}:∀(l:List Oper) (loc:List (Nat×Acc)) (m t:Nat),hO t (oe P need ops l loc m)=none->hO t loc=none
 |[],loc,m,t,h=>h
 |o::rest,loc,m,t,h=>by
  unfold oe at h
  cases ba:aliasOf o with
  |some p=>
   obtain⟨u,x⟩:=p
   rw[ba] at h
   have:=Bv rest _ m t h
   rw[nt] at this
   split at this
   · cases this
   · exact this
  |none=>
   rw[ba] at h
   have:=Bv rest _ _ t h
   unfold k3 at this
   split at this
   · rw[nt] at this
     split at this
     · cases this
     · exact this
   · exact this
theorem NN{o:Oper}{t:Nat}{x:Operand}(h:aliasOf o=some (t,x)):o.guard=none/\o.dst=some t/\∀ck,execOp ck o=pure (.value (ck x)):=by
 unfold aliasOf at h
 split at h
 · rename_i aa ad aw;cases h;exact⟨aa,ad,λck=>by simp[execOp,aw]⟩
 · rename_i aa ad aw;cases h;exact⟨aa,ad,λck=>by simp[execOp,aw]⟩
 · cases h
theorem yG(a:Act)(dst:Option Tmp)(u:Value):(a.put dst u).tmps.size=a.tmps.size:=by cases dst<;>simp[Act.put]
theorem Bw{call:aF->List I->J->ao}(ag:lh P call){cd:Nat}{ops:Array Oper}(oh:∀o∈ops.toList,∀t,o.dst=some t->t<cd){b:Frame}{inR:Bool}(cY:inR=b.roundOf.isSome){r:aR}{k:List Item}{cs0:List Frame}:
  ∀(l:List Oper) (i0:Nat) (loc:List (Nat×Acc)) (m:Nat) (env:List I) (d:List bP) (q:bE) (μ:bg) (H:J) (w:World) (a:Act) (cs:List Frame),ops.toList.drop i0=l->env.length=m->
   iz P need μ r m env loc a.tmps->a.tmps.size=cd->bn μ H w->ha P μ->fW μ d a.defers->hA μ b.kind cs0 q cs->
   og P need cd μ r H w b k cs0 (lone (b.atR a (.inRegion ops (List.range' i0 l.length)::k)) cs w) (oe P need ops l loc m) (js P need inR call r (qw P need ops l loc m) env d q H)
 |[],i0,loc,m,env,d,q,μ,H,w,a,cs,aq,hm,r0,bH,aj,ak,aA,bp=>by
  subst hm
  exact⟨μ,w,a,cs,.one stepR_region_end,r0,bH,aj,b5.refl _ _ _,aA,bp⟩
 |o::rest,i0,loc,m,env,d,q,μ,H,w,a,cs,aq,hm,r0,bH,aj,ak,aA,bp=>by
  have a7:ops[i0]? =some o:=by
   have:=congrArg List.head? aq
   simpa[List.head?_drop] using this
  have qa:ops.toList.drop (i0+1)=rest:=by
   have:=congrArg List.tail aq
   simpa[List.tail_drop] using this
  have mN:o∈ops.toList:=by
   rw[<-Array.getElem?_toList] at a7
   exact List.mem_of_getElem? a7
  have Gj:∀t,o.dst=some t->t<a.tmps.size:=λt h=>by rw[bH];exact oh o mN t h
  rw[List.length_cons,List.range'_succ]
  unfold qw oe
  cases ba:aliasOf o with
  |some p=>
   obtain⟨t,x⟩:=p
   simp only
   obtain⟨c9,dJ,gA⟩:=NN ba
   have hw:Region.wanted o (yielded ops a.tmps)=true:=by simp[Region.wanted,c9]
   have cf:=stepGR_op (P:=P) (b:=b) (a:=a) (k:=k) (cs:=cs) (w:=w) (rest:=List.range' (i0+1) rest.length) a7 hw
   have vV:o.semAt b.roundOf a.eval=execOp a.eval o:=by
    refine Oper.semAt_eq _ _ _ λc e=>?_
    have:=gA a.eval
    unfold aliasOf at ba
    rw[e] at ba
    split at ba
    · rename_i h;cases h
    · rename_i h;cases h
    · cases ba
   rw[vV] at cf
   obtain⟨al,_⟩:=Bm cf
   have hs:=al (a.eval x) w (by rw[gA];rfl)
   have ns:(b.atR a (.inRegion ops (i0::List.range' (i0+1) rest.length)::k)).finish (a.eval x)=b.atR (a.put (some t) (a.eval x)) (.inRegion ops (List.range' (i0+1) rest.length)::k):=by
    rw[Frame.finish_atR,a7]
    simp only[Option.bind_some,dJ]
   rw[ns] at hs
   have bd:=Bw (k:=k) ag oh cY rest (i0+1) ((t,cL P need loc x)::loc) m env d q μ H w (a.put (some t) (a.eval x)) cs qa hm (r0.alias ak (Gj t dJ) x) ((yG _ _ _).trans bH) aj ak (by rw[put_defers];exact aA) bp
   exact bd.of_steps aj aj hs (b5.refl _ _ _)
  |none=>
   simp only[js]
   have fT:=Ge (P:=P) ag aj ak (b:=b) (a:=a) (ops:=ops) (i:=i0) (rest:=List.range' (i0+1) rest.length) (k:=k) (cs0:=cs0) (cs:=cs) a7 (gd:=match jr P need ops loc o with|none=>none|some (x,c)=>some (dF m env r x,c))
    (NM (acc:=dF m env r) r0.rel (λv=>rfl)) (g:=λx=>dF m env r (cL P need loc x)) (λx=>r0.eval ak x) aA bp cY
   generalize dG P inR call (match jr P need ops loc o with|none=>none|some (x,c)=>some (dF m env r x,c)) o (λx=>dF m env r (cL P need loc x)) d q H=res at fT⊢
   cases res with
   |ok v bx bG aT=>
    obtain⟨aM,w',u,rZ,bX,s1,s2,bq,bL,cB,dN⟩:=fT
    have NO:=(r0.mono bL.le).step (a:=a) (o:=o) Gj s2
    have bd:=Bw (k:=k) ag oh cY rest (i0+1) (k3 o m loc) (m+1) (v::env) bx bG aM aT w' {tmps:=(a.put o.dst u).tmps,defers:=rZ} bX qa (by simp[hm]) NO ((yG _ _ _).trans bH) bq (ak.mono bL.le) cB dN
    exact bd.of_steps aj bq s1 bL
   |b1 v bx bG aT=>
    obtain⟨aM,w',u,s1,s2,bq,bL,cB,dN⟩:=fT
    refine⟨aM,w',a,cs,u,_,s1,trivial,s2,λt aU aI=>?_,bH,bq,bL,cB,dN⟩
    have h0:=Bv (P:=P) (need:=need) (ops:=ops) rest _ _ t aU
    have aa:hO t loc=none:=by
     unfold k3 at h0
     split at h0
     · rw[nt] at h0
       split at h0
       · cases h0
       · exact h0
     · exact h0
    have:=(r0.mono bL.le).rel t
    simp only[cL,aa,aI,dF] at this
    exact this
   |fail s=>trivial
end
end aB
namespace aB
open Go
section
variable {P:Program} {need:Nat}
theorem Gk(need m:Nat)(env:List I)(g8:aR):∀(loc:List (Nat×Acc)) (r:aR) (t:Nat),Nat.testBit need t=true->
  (oV need m env g8 loc r).get (gw t)=match hO t loc with|some a=>dF m env g8 a|none=>r.get (gw t)
 |[],r,t,aU=>rfl
 |(u,a)::l,r,t,aU=>by
  rw[nt]
  simp only[oV]
  by_cases e:t=u
  · subst e
    simp only[aU,if_true,aR.b2]
  · have bd:=Gk need m env g8 l r t aU
    cases hu:Nat.testBit need u with
    |true=>simp only[aR.b2,if_neg e,bd]
    |false=>simp only[if_neg e,bd]
theorem Gl:∀(loc:List (Nat×Acc)) (r:aR) (t:Nat),(tu loc r).get (gw t)=match hO t loc with|some a=>.bad|none=>r.get (gw t)
 |[],r,t=>rfl
 |(u,a)::l,r,t=>by
  rw[nt]
  simp only[tu,aR.b2]
  by_cases e:t=u
  · simp only[e,if_true]
  · simp only[if_neg e,Gl l r t]
theorem iz.outs{μ:bg}{r:aR}{m:Nat}{env:List I}{loc:List (Nat×Acc)}{b9:Array Value}(h:iz P need μ r m env loc b9):ib need μ (oV need m env r loc r) b9:=by
 intro t aU
 rw[Gk need m env r loc r t aU]
 have:=h.rel t
 simp only[cL,aU] at this
 cases hf:hO t loc with
 |some a=>rw[hf] at this;exact this
 |none=>rw[hf] at this;exact this
theorem r3{e:bw}{r:aR}{d:List bP}{q:bE}{h:J}{f:aR->List bP->bE->J->iu}(he:e≠ .nrm):oX (.ok e r d q h) f=.ok e r d q h:=by
 cases e<;>first|rfl|exact absurd rfl he
def qy(P:Program)(μ:bg)(eV:Machine)(b:Frame)(k:List Item)(cs:List Frame)(a:Act)(w:World):bw->Prop
 |.nrm=>Steps P eV (lone (b.atR a k) cs w)
 |.exit id=>∃bV,exitTo id bV=exitTo id k/\Steps P eV (lone (b.atR a (.code (.exit id)::bV)) cs w)
 |.ret=>∃bV,Steps P eV (lone (b.atR a (.code .ret::bV)) cs w)
 |.goto _=>False
 |.b1 v=>∃bV u,(a9 μ v u/\Bu bV)/\Steps P eV (lone {b.atR a bV with mode:=.panicking [{v:=u,recovered:=false}]} cs w)
theorem qy.of_steps{μ:bg}{eV cM:Machine}{b:Frame}{k:List Item}{cs:List Frame}{a:Act}{w:World}{e:bw}(h:Steps P eV cM)(an:qy P μ cM b k cs a w e):qy P μ eV b k cs a w e:=by
 cases e with
 |nrm=>exact h.trans an
 |exit id=>obtain⟨bV,aa,ad⟩:=an;exact⟨bV,aa,h.trans ad⟩
 |ret=>obtain⟨bV,ad⟩:=an;exact⟨bV,h.trans ad⟩
 |goto l=>exact an
 |b1 v=>obtain⟨bV,u,aa,ad⟩:=an;exact⟨bV,u,aa,h.trans ad⟩
theorem qy.pass{μ:bg}{eV:Machine}{b:Frame}{x:Item}{k:List Item}{cs:List Frame}{a:Act}{w:World}{e:bw}(ab:∀id,x≠ .inBlock id)(he:e≠ .nrm)(h:qy P μ eV b (x::k) cs a w e):qy P μ eV b k cs a w e:=by
 cases e with
 |nrm=>exact absurd rfl he
 |exit id=>
  obtain⟨bV,aa,ad⟩:=h
  refine⟨bV,aa.trans ?_,ad⟩
  cases x<;>first|rfl|exact absurd rfl (ab _)
 |ret=>exact h
 |goto l=>exact h
 |b1 v=>exact h
def mO(P:Program)(need cd:Nat)(μ:bg)(H:J)(w:World)(b:Frame)(k:List Item)(cs0:List Frame)(eV:Machine):iu->Prop
 |.ok e r' bx bG aT=>∃aM w' db bX,qy P aM eV b k bX db w' e/\ib need aM r' db.tmps/\db.tmps.size=cd/\bn aM aT w'/\b5 μ H w aM aT w'/\fW aM bx db.defers/\hA aM b.kind cs0 bG bX
 |.fail _=>True
theorem mO.of_steps{cd:Nat}{μ fR:bg}{H H1:J}{w dw:World}{b:Frame}{k:List Item}{cs0:List Frame}{eV cM:Machine}{x:iu}(aj:bn μ H w)(k6:bn fR H1 dw)(h:Steps P eV cM)(ba:b5 μ H w fR H1 dw)
  (aa:mO P need cd fR H1 dw b k cs0 cM x):mO P need cd μ H w b k cs0 eV x:=by
 cases x with
 |ok e r d q aT=>
  obtain⟨aM,w',db,bX,s1,s2,bq,bL,cB,dN⟩:=aa
  exact⟨aM,w',db,bX,s1.of_steps h,s2,bq,bL,b5.trans aj k6 ba cB,dN⟩
 |fail s=>trivial
def nu(μ:bg)(b:Frame):Option Nat->Prop
 |none=>b.roundOf=none
 |some l=>∃i,μ l=some i/\b.roundOf=some i.bb
theorem nu.mono{μ aM:bg}(hle:eF μ aM){b:Frame}{rd:Option Nat}(h:nu μ b rd):nu aM b rd:=by
 cases rd with
 |none=>exact h
 |some l=>obtain⟨i,aa,ad⟩:=h;exact⟨i,hle _ _ aa,ad⟩
theorem nu.isSome{μ:bg}{b:Frame}{rd:Option Nat}(h:nu μ b rd):rd.isSome=b.roundOf.isSome:=by
 cases rd with
 |none=>have:b.roundOf=none:=h;simp[this]
 |some l=>obtain⟨i,aa,ad⟩:=h;simp[ad]
def qz(P:Program)(need cd:Nat)(call:aF->List I->J->ao):Prop:=
 ∀(ops:Array Oper) (id:Nat),(∀o∈ops.toList,∀t,o.dst=some t->t<cd)->oZ ops (eN ops.toList 0 [] [])=true->
  ∀(b:Frame) (inR:Bool) (r:aR) (d:List bP) (q:bE) (H:J) (μ:bg) (w:World) (a:Act) (k:List Item) (cs0 cs:List Frame),inR=b.roundOf.isSome->ib need μ r a.tmps->a.tmps.size=cd->bn μ H w->ha P μ->fW μ d a.defers->hA μ b.kind cs0 q cs->
   og P need cd μ r H w b k cs0 (lone (b.atR a (.code (.region id ops true)::k)) cs w) (hX ops.toList 0 []) (rB P need inR call ops r d q H)
def Gm(P:Program)(need cd:Nat)(call:aF->List I->J->ao):Prop:=
 ∀(f:Operand) (ps:Array Nat) (as cj:Code),hY cd (.rangeFunc f ps as cj)=true->∀(b:Frame) (rd:Option Nat) (r:aR) (d:List bP) (q:bE) (H:J) (μ:bg) (w:World) (a:Act) (k:List Item) (cs0 cs:List Frame),nu μ b rd->ib need μ r a.tmps->a.tmps.size=cd->bn μ H w->ha P μ->fW μ d a.defers->hA μ b.kind cs0 q cs->
  mO P need cd μ H w b k cs0 (lone (b.atR a (.code (.rangeFunc f ps as cj)::k)) cs w) (ds P need rd call (.rangeFunc f ps as cj) r d q H)
theorem NP{b:Frame}{a:Act}{c:Code}{k:List Item}{cs:List Frame}{w:World}:step P (lone (b.atR a (.inScope c::k)) cs w)=.next (lone (b.atR a k) cs w):=
 step_lone_go (by simp[stepG,stepG.exec,Frame.atR])
theorem Gn{b:Frame}{a:Act}{c:Code}{k:List Item}{cs:List Frame}{w:World}:step P (lone (b.atR a (.code (.scope c)::k)) cs w)=.next (lone (b.atR a (.code c::.inScope c::k)) cs w):=
 step_lone_go (by simp[stepG,stepG.exec,Frame.atR])
theorem og.code{cd:Nat}{μ:bg}{r:aR}{H:J}{w:World}{b:Frame}{k:List Item}{cs0:List Frame}{eV:Machine}{loc:List (Nat×Acc)}{x:lL}(h:og P need cd μ r H w b k cs0 eV loc x):
  mO P need cd μ H w b k cs0 eV (oW need r loc x):=by
 cases x with
 |ok env d q aT=>
  obtain⟨aM,w',db,bX,s1,s2,bq,bL,cB,dN⟩:=h
  exact⟨aM,w',db,bX,s1,s2.outs,bq,bL,cB,dN⟩
 |b1 v d q aT=>
  obtain⟨aM,w',db,bX,u,bV,s1,hb,s2,bq,bL,cB,dN,eP⟩:=h
  refine⟨aM,w',db,bX,⟨bV,u,⟨s2,hb⟩,s1⟩,λt aU=>?_,bL,cB,dN,eP⟩
  rw[Gl]
  cases hf:hO t loc with
  |some x=>trivial
  |none=>exact bq t hf aU
 |fail s=>trivial
def Gp(P:Program)(need cd:Nat)(call:aF->List I->J->ao)(rd:Option Nat)(c:Code):Prop:=
 ∀(b:Frame) (r:aR) (d:List bP) (q:bE) (H:J) (μ:bg) (w:World) (a:Act) (k:List Item) (cs0 cs:List Frame),nu μ b rd->ib need μ r a.tmps->a.tmps.size=cd->bn μ H w->ha P μ->fW μ d a.defers->hA μ b.kind cs0 q cs->
  mO P need cd μ H w b k cs0 (lone (b.atR a (.code c::k)) cs w) (ds P need rd call c r d q H)
theorem Gq{cd:Nat}{call:aF->List I->J->ao}{rd:Option Nat}{c:Code}(g_:Gp P need cd call rd c)(b:Frame)(k:List Item)(cs0:List Frame):∀(n:Nat) (r:aR) (d:List bP) (q:bE) (H:J) (μ:bg) (w:World) (a:Act) (cs:List Frame),nu μ b rd->ib need μ r a.tmps->a.tmps.size=cd->bn μ H w->ha P μ->fW μ d a.defers->hA μ b.kind cs0 q cs->
  mO P need cd μ H w b k cs0 (lone (b.atR a (.code c::.inLoop c::k)) cs w) (n3 (ds P need rd call c) n r d q H)
 |0,r,d,q,H,μ,w,a,cs,cZ,ai,bH,aj,ak,aA,bp=>trivial
 |n+1,r,d,q,H,μ,w,a,cs,cZ,ai,bH,aj,ak,aA,bp=>by
  have aa:=g_ b r d q H μ w a (.inLoop c::k) cs0 cs cZ ai bH aj ak aA bp
  unfold n3
  cases ab:ds P need rd call c r d q H with
  |fail s=>trivial
  |ok e r' bx bG aT=>
   rw[ab] at aa
   obtain⟨aM,w',db,bX,s1,s2,bq,bL,cB,dN,eP⟩:=aa
   by_cases he:e=.nrm
   · subst he
     have bd:=Gq g_ b k cs0 n r' bx bG aT aM w' db bX (cZ.mono cB.le) s2 bq bL (ak.mono cB.le) dN eP
     exact bd.of_steps aj bL (Steps.trans s1 (.one stepR_inLoop)) cB
   · rw[r3 he]
     exact⟨aM,w',db,bX,s1.pass (λid h=>by cases h) he,s2,bq,bL,cB,dN,eP⟩
theorem oi{cd:Nat}{call:aF->List I->J->ao}(ag:lh P call)(hdr:qz P need cd call)(mK:Gm P need cd call)(rd:Option Nat):∀(c:Code),hY cd c=true->Gp P need cd call rd c
 |.skip,_=>λb r d q H μ w a k cs0 cs cZ ai bH aj ak aA bp=>⟨μ,w,a,cs,.one stepR_skip,ai,bH,aj,b5.refl _ _ _,aA,bp⟩
 |.label l,_=>λb r d q H μ w a k cs0 cs cZ ai bH aj ak aA bp=>⟨μ,w,a,cs,.one stepR_label,ai,bH,aj,b5.refl _ _ _,aA,bp⟩
 |.exit id,_=>λb r d q H μ w a k cs0 cs cZ ai bH aj ak aA bp=>⟨μ,w,a,cs,⟨k,rfl,Steps.refl _ _⟩,ai,bH,aj,b5.refl _ _ _,aA,bp⟩
 |.ret,_=>λb r d q H μ w a k cs0 cs cZ ai bH aj ak aA bp=>⟨μ,w,a,cs,⟨k,Steps.refl _ _⟩,ai,bH,aj,b5.refl _ _ _,aA,bp⟩
 |.goto l,_=>λb r d q H μ w a k cs0 cs cZ ai bH aj ak aA bp=>trivial
 |.refuse s,_=>λb r d q H μ w a k cs0 cs cZ ai bH aj ak aA bp=>trivial
 |.region id ops draw,di=>λb r d q H μ w a k cs0 cs cZ ai bH aj ak aA bp=>by
  simp only[hY,Bool.and_eq_true,List.all_eq_true] at di
  have oh:∀o∈ops.toList,∀t,o.dst=some t->t<cd:=λo a7 t aU=>by
   have:=di.1 o a7
   rw[aU] at this
   simpa using this
  cases draw with
  |false=>
   have h:=Bw (P:=P) (need:=need) (k:=k) ag oh (b:=b) (inR:=rd.isSome) cZ.isSome (r:=r) (cs0:=cs0) ops.toList 0 [] 0 [] d q μ H w a cs rfl rfl (iz.init ai) bH aj ak aA bp
   have aq:List.range' 0 ops.toList.length=List.range ops.size:=by rw[List.range_eq_range'];simp
   rw[aq] at h
   have ad:=og.code h
   have iQ:n2 P need ops=⟨qw P need ops ops.toList [] 0,oe P need ops ops.toList [] 0⟩:=by
    unfold n2;rw[Br];simp
   simp only[ds,iQ]
   exact mO.of_steps aj aj (.one stepR_region) (b5.refl _ _ _) ad
  |true=>
   have NQ:oZ ops (eN ops.toList 0 [] [])=true:=by simpa using di.2
   have h:=hdr ops id oh NQ b rd.isSome r d q H μ w a k cs0 cs cZ.isSome ai bH aj ak aA bp
   simp only[ds]
   exact og.code h
 |.seq x y,di=>λb r d q H μ w a k cs0 cs cZ ai bH aj ak aA bp=>by
  simp only[hY,Bool.and_eq_true] at di
  have aa:=oi ag hdr mK rd x di.1 b r d q H μ w a (.code y::k) cs0 cs cZ ai bH aj ak aA bp
  simp only[ds]
  cases ab:ds P need rd call x r d q H with
  |fail s=>trivial
  |ok e r' bx bG aT=>
   rw[ab] at aa
   obtain⟨aM,w',db,bX,s1,s2,bq,bL,cB,dN,eP⟩:=aa
   by_cases he:e=.nrm
   · subst he
     have ad:=oi ag hdr mK rd y di.2 b r' bx bG aT aM w' db k cs0 bX (cZ.mono cB.le) s2 bq bL (ak.mono cB.le) dN eP
     exact ad.of_steps aj bL (Steps.head stepR_seq s1) cB
   · rw[r3 he]
     exact⟨aM,w',db,bX,(s1.pass (λid h=>by cases h) he).of_steps (.one stepR_seq),s2,bq,bL,cB,dN,eP⟩
 |.cond c x y,di=>λb r d q H μ w a k cs0 cs cZ ai bH aj ak aA bp=>by
  simp only[hY,Bool.and_eq_true] at di
  simp only[ds]
  have fS:=(iz.init (P:=P) ai).eval (a:=a) ak c
  split
  · rename_i kB
    rw[kB] at fS
    have h:=oi ag hdr mK rd x di.1 b r d q H μ w a k cs0 cs cZ ai bH aj ak aA bp
    exact h.of_steps aj aj (.one (stepR_cond (t:=true) fS)) (b5.refl _ _ _)
  · rename_i kB
    rw[kB] at fS
    have h:=oi ag hdr mK rd y di.2 b r d q H μ w a k cs0 cs cZ ai bH aj ak aA bp
    exact h.of_steps aj aj (.one (stepR_cond (t:=false) fS)) (b5.refl _ _ _)
  · trivial
 |.block id c,di=>λb r d q H μ w a k cs0 cs cZ ai bH aj ak aA bp=>by
  have aa:=oi ag hdr mK rd c di b r d q H μ w a (.inBlock id::k) cs0 cs cZ ai bH aj ak aA bp
  simp only[ds]
  cases ab:ds P need rd call c r d q H with
  |fail s=>trivial
  |ok e r' bx bG aT=>
   rw[ab] at aa
   obtain⟨aM,w',db,bX,s1,s2,bq,bL,cB,dN,eP⟩:=aa
   cases e with
   |nrm=>exact⟨aM,w',db,bX,Steps.head stepR_block (Steps.trans s1 (.one stepR_inBlock)),s2,bq,bL,cB,dN,eP⟩
   |exit i=>
    obtain⟨bV,ax,ay⟩:=s1
    by_cases yH:i=id
    · simp only[yH,if_true]
      subst yH
      have bF:exitTo i bV=some k:=by rw[ax];simp[exitTo]
      exact⟨aM,w',db,bX,Steps.head stepR_block (Steps.trans ay (.one (stepR_exit bF))),s2,bq,bL,cB,dN,eP⟩
    · simp only[if_neg yH]
      have:(id==i)=false:=by simp;exactλh=>yH h.symm
      exact⟨aM,w',db,bX,⟨bV,ax.trans (by simp[exitTo,this]),Steps.head stepR_block ay⟩,s2,bq,bL,cB,dN,eP⟩
   |ret=>obtain⟨bV,ay⟩:=s1;exact⟨aM,w',db,bX,⟨bV,Steps.head stepR_block ay⟩,s2,bq,bL,cB,dN,eP⟩
   |goto l=>exact s1.elim
   |b1 v=>obtain⟨bV,u,ax,ay⟩:=s1;exact⟨aM,w',db,bX,⟨bV,u,ax,Steps.head stepR_block ay⟩,s2,bq,bL,cB,dN,eP⟩
 |.loop c,di=>λb r d q H μ w a k cs0 cs cZ ai bH aj ak aA bp=>by
  have h:=Gq (oi ag hdr mK rd c di) b k cs0 100000 r d q H μ w a cs cZ ai bH aj ak aA bp
  simp only[ds]
  exact h.of_steps aj aj (.one stepR_loop) (b5.refl _ _ _)
 |.scope c,di=>λb r d q H μ w a k cs0 cs cZ ai bH aj ak aA bp=>by
  have aa:=oi ag hdr mK rd c di b r d q H μ w a (.inScope c::k) cs0 cs cZ ai bH aj ak aA bp
  simp only[ds]
  cases ab:ds P need rd call c r d q H with
  |fail s=>trivial
  |ok e r' bx bG aT=>
   rw[ab] at aa
   obtain⟨aM,w',db,bX,s1,s2,bq,bL,cB,dN,eP⟩:=aa
   by_cases he:e=.nrm
   · subst he
     exact⟨aM,w',db,bX,Steps.head Gn (Steps.trans s1 (.one NP)),s2,bq,bL,cB,dN,eP⟩
   · exact⟨aM,w',db,bX,(s1.pass (λid h=>by cases h) he).of_steps (.one Gn),s2,bq,bL,cB,dN,eP⟩
 |.rangeFunc f ps as cj,di=>λb r d q H μ w a k cs0 cs cZ ai bH aj ak aA bp=>mK f ps as cj di b rd r d q H μ w a k cs0 cs cZ ai bH aj ak aA bp
end
end aB
namespace aB
open Go
section
variable {P:Program} {need:Nat}
theorem NR{w iS:World}{cs:List Frame}{b:Frame}{a:Act}{l:Nat}{k:List Item}{s:Sem Next}{yI:Frame}
  (cf:(stepG P true {frame:=yI,callers:=cs,status:=.running,dying:=none} iS).bare=(stepG.apply P true (b.atR a (.inRangeFunc l::k)) cs none s w).bare):
  (∀v w',s.run P w=.ok (.value v) w'->Steps P (lone yI cs iS) (lone ((b.atR a (.inRangeFunc l::k)).finish v) cs w'))/\
  (∀f args w',s.run P w=.ok (.enter f args) w'->Steps P (lone yI cs iS) (lone (Frame.enter P f args .normal) (b.atR a (.inRangeFunc l::k)::cs) w'))/\
  (∀ob f tmps assign body w',s.run P w=.ok (.round ob f tmps assign body) w'->Steps P (lone yI cs iS) (lone (Frame.round ob f tmps assign body .normal) (b.atR a (.inRangeFunc l::k)::cs) w')):=by
 refine⟨λv w' ai=>.one (step_lone_go ?_),λf args w' ai=>.one (step_lone_go ?_),λl f tmps assign body w' ai=>.one (step_lone_go ?_)⟩
 · rw[cf];simp[stepG.apply,ai]
 · rw[cf];simp[stepG.apply,ai,Frame.atR]
 · rw[cf];simp[stepG.apply,ai]
theorem NS{b:Frame}{a:Act}{f:Operand}{ps:Array Nat}{as cj:Code}{k:List Item}{cs:List Frame}{w dw:World}{l:Nat}{mark:List Deferred}(he:(Instr.enterLoop b.fn a.tmps ps as cj b.roundOf).run P w=.ok (l,mark) dw):
  (stepG P true {frame:=b.atR a (.code (.rangeFunc f ps as cj)::k),callers:=cs,status:=.running,dying:=none} w).bare=
   (stepG.apply P true (b.atR {tmps:=a.tmps,defers:=mark++a.defers} (.inRangeFunc l::k)) cs none (do let d<-Deferred.ofValue (a.eval f) #[.func (.yield l) #[] #[]];invoke d.target d.args) dw).bare:=by
 have Gr:=Frame.eval_atR b {tmps:=a.tmps,defers:=mark++a.defers} (.inRangeFunc l::k)
 simp only[Frame.atR] at Gr
 have NT:({tmps:=a.tmps,defers:=mark++a.defers}:Act).eval=a.eval:=funext λx=>by cases x<;>rfl
 simp only[stepG,stepG.exec,Frame.atR,Sem.runT_eq,he,GStep.bare_after]
 have NU:resolve a.eval {callee:=.value f,args:=#[.const (.func (.yield l) #[] #[])],argTypes:=#[]} 0=Deferred.ofValue (a.eval f) #[.func (.yield l) #[] #[]]:=by simp[resolve,Act.eval]
 rw[Gr,NT,NU]
theorem NV{b:Frame}{a:Act}{l:Nat}{k:List Item}{cs:List Frame}{w w':World}{mP:Option Code}(he:(Instr.endLoop l).run P w=.ok mP w'):
  step P (lone (b.atR a (.endRangeFunc l::k)) cs w)=.next (lone (b.atR a ((mP.map Item.code).toList++k)) cs w'):=
 step_lone_go (by simp[stepG,stepG.exec,Frame.atR,Sem.runT_eq,he])
theorem NW{cd:Nat}{b:Frame}{a:Act}{r:aR}{ps:Array Nat}{as cj:Code}(di:hY cd as=true/\hY cd cj=true/\∀t∈ps.toList,t<cd){μ:bg}{H:J}{w:World}{rd:Option Nat}(cZ:nu μ b rd)(ai:ib need μ r a.tmps)(bH:a.tmps.size=cd)(aj:bn μ H w)
  {d:List bP}(aA:fW μ d a.defers){l:Nat}{bx:List bP}{H1:J}
  (aq:l=nf rd H.n)(he:vn need rd r ps.toList as cj d H=some (bx,H1)):
  ∃aM w' mark i,(Instr.enterLoop b.fn a.tmps ps as cj b.roundOf).run P w=.ok (i.bb,mark) w'/\aM l=some i/\bn aM H1 w'/\b5 μ H w aM H1 w'/\fW aM bx (mark++a.defers):=by
 subst bH
 unfold nf at aq
 unfold vn at he
 cases rd with
 |none=>
  have af:b.roundOf=none:=cZ
  cases he
  obtain⟨r1,r2⟩:=aj.alloc (.defrd (some [])) (.deferred (some [])) 0 ⟨[],World.heap_alloc_new _ _,rfl⟩
  have hu:fH μ H.n ⟨w.heap.size,0,0⟩ H.n=some ⟨w.heap.size,0,0⟩:=fI _ _ _
  have yJ:=r1.nm ⟨(w.alloc (.deferred (some []))).heap.size,0,0⟩
  obtain⟨aV,aY⟩:=r1.alloc (.loop .ready none need r ps.toList as cj H.n) (.loop {state:=.ready,pending:=none,fn:=b.fn,tmps:=a.tmps,params:=ps,assign:=as,body:=cj,defers:=w.heap.size}) 0
   ⟨a.tmps,⟨w.heap.size,0,0⟩,b.fn,yJ _ _ hu,World.heap_alloc_new _ _,ai.mono (r2.le.trans yJ),di.1,di.2.1,di.2.2⟩
  refine⟨_,_,[{target:=.collected w.heap.size,args:=#[]}],⟨(w.alloc (.deferred (some []))).heap.size,0,0⟩,?_,?_,aV,b5.trans aj r1 r2 aY,⟨_,_,rfl,.collected _ ⟨w.heap.size,0,0⟩ (yJ _ _ hu),aA.mono (r2.le.trans yJ)⟩⟩
  · rw[af]
    simp only[Instr.enterLoop,Sem.run_bind,run_newObj,Result.andThen_ok,Sem.run_pure]
    rfl
  · rw[aq];exact fI _ _ _
 |some ng=>
  obtain⟨j,aG,af⟩:=cZ
  simp only at aq he
  subst aq
  cases ak:H.get ng with
  |none=>rw[ak] at he;cases he
  |some Bx=>
  rw[ak] at he
  cases Bx<;>try (cases he;done)
  case loop oj Gs X3 X4 Gt Gu Gv dR=>
   cases he
   obtain⟨b9,g9,fn,ax,ay,_⟩:=aj.rel _ _ j ak aG
   have hle:=aj.nm ⟨w.heap.size,0,0⟩
   obtain⟨aV,aY⟩:=aj.alloc (.loop .ready none need r ps.toList as cj dR) (.loop {state:=.ready,pending:=none,fn:=b.fn,tmps:=a.tmps,params:=ps,assign:=as,body:=cj,defers:=g9.bb}) 0
    ⟨a.tmps,g9,b.fn,hle _ _ ax,World.heap_alloc_new _ _,ai.mono hle,di.1,di.2.1,di.2.2⟩
   refine⟨_,_,[],⟨w.heap.size,0,0⟩,?_,?_,aV,aY,aA.mono hle⟩
   · rw[af]
     have oc:(Instr.getLoop j.bb).run P w=.ok {state:=oj,pending:=Gs,fn:=fn,tmps:=b9,params:=⟨Gt⟩,assign:=Gu,body:=Gv,defers:=g9.bb} w:=by
      have:(getObj j.bb).run P w=.ok (.loop {state:=oj,pending:=Gs,fn:=fn,tmps:=b9,params:=⟨Gt⟩,assign:=Gu,body:=Gv,defers:=g9.bb}) w:=by simp[getObj,Sem.run,ay]
      simp only[Instr.getLoop,Sem.run_bind,this];rfl
     simp only[Instr.enterLoop,Sem.run_bind,oc,Result.andThen_ok,Sem.run_pure,run_newObj]
     rfl
   · exact fI _ _ _
theorem NX{μ:bg}{H:J}{w:World}(aj:bn μ H w){l:Nat}{i:dY}(aq:μ l=some i){st:LoopState}{fw:Option Code}{gy:Nat}{rg:aR}{ps:List Nat}{as cj:Code}{dR:Nat}(ak:H.get l=some (.loop st fw gy rg ps as cj dR))(cf:st≠ .busy):
  ∃w',(Instr.endLoop i.bb).run P w=.ok fw w'/\bn μ (H.set l (some (.loop .exhausted fw gy rg ps as cj dR))) w'/\b5 μ H w μ (H.set l (some (.loop .exhausted fw gy rg ps as cj dR))) w':=by
 obtain⟨b9,g9,fn,ax,ay,bF⟩:=aj.rel _ _ i ak aq
 have cu:=(aj.lt _ _ aq).2
 obtain⟨r1,r2⟩:=aj.update (w':={w with heap:=w.heap.setIfInBounds i.bb (.loop {state:=.exhausted,pending:=fw,fn:=fn,tmps:=b9,params:=⟨ps⟩,assign:=as,body:=cj,defers:=g9.bb})}) (o':=.loop .exhausted fw gy rg ps as cj dR) ak rfl aq (by simp) (λr ai=>by simp[Array.getElem?_setIfInBounds];intro e;exact absurd e.symm ai) rfl rfl rfl
  ⟨b9,g9,fn,ax,by simp[cu],bF⟩
 refine⟨_,?_,r1,r2⟩
 have gN:(getObj i.bb).run P w=.ok (.loop {state:=st,pending:=fw,fn:=fn,tmps:=b9,params:=⟨ps⟩,assign:=as,body:=cj,defers:=g9.bb}) w:=by simp[getObj,Sem.run,ay]
 have eU:(setObj i.bb (.loop {state:=.exhausted,pending:=fw,fn:=fn,tmps:=b9,params:=⟨ps⟩,assign:=as,body:=cj,defers:=g9.bb})).run P w=.ok () {w with heap:=w.heap.setIfInBounds i.bb (.loop {state:=.exhausted,pending:=fw,fn:=fn,tmps:=b9,params:=⟨ps⟩,assign:=as,body:=cj,defers:=g9.bb})}:=by simp[setObj,Sem.run,ay]
 have af:(st==LoopState.busy)=false:=by cases st<;>first|rfl|exact absurd rfl cf
 simp only[Instr.endLoop,Instr.getLoop,Sem.run_bind,gN,Result.andThen_ok,Sem.run_pure,af,Bool.false_eq_true,if_false,eU]
theorem By{cd:Nat}{call:aF->List I->J->ao}(ag:lh P call):Gm P need cd call:=by
 intro f ps as cj di b rd r d q H μ w a k cs0 cs cZ ai bH aj ak aA bp
 simp only[hY,Bool.and_eq_true,List.all_eq_true] at di
 have NY:∀t∈ps.toList,t<cd:=λt aU=>by simpa using di.1.1 t aU
 have fS:=(iz.init (P:=P) ai).eval (a:=a) ak f
 simp only[ds]
 cases cf:vn need rd r ps.toList as cj d H with
 |none=>trivial
 |some p=>
  obtain⟨bx,H1⟩:=p
  simp only
  obtain⟨fR,dw,mark,i,aa,ad,aw,aQ,bS⟩:=NW (P:=P) (b:=b) (a:=a) (ps:=ps) ⟨di.1.2,di.2,NY⟩ cZ ai bH aj aA rfl cf
  have NZ:=fS.mono aQ.le
  have N0:=NS (P:=P) (f:=f) (k:=k) (cs:=cs) aa
  obtain⟨al,ar,aZ⟩:=NR N0
  have kB:=F9 (P:=P) (w:=dw) aw NZ (args:=[.b8 (nf rd H.n)]) (vs:=[.func (.yield i.bb) #[] #[]]) ⟨_,_,rfl,⟨i,ad,rfl⟩,rfl⟩
  have fin:∀(res:ao),qv P (lone (b.atR a (.code (.rangeFunc f ps as cj)::k)) cs w) (b.atR {tmps:=a.tmps,defers:=mark++a.defers} (.inRangeFunc i.bb::k)) cs (Ends fR H1 dw res)->
    mO P need cd μ H w b k cs0 (lone (b.atR a (.code (.rangeFunc f ps as cj)::k)) cs w) (kA (nf rd H.n) r bx q res):=by
   intro res aq
   obtain⟨e,vZ,fs,iT⟩:=aq
   cases res with
   |fail s=>trivial
   |b1 v a3=>
    obtain⟨aM,u,rfl,aV,aY,cw⟩:=fs
    exact⟨aM,vZ,{tmps:=a.tmps,defers:=mark++a.defers},cs,⟨.inRangeFunc i.bb::k,u,⟨aV,trivial⟩,iT⟩,ai.mono (aQ.le.trans cw.le),bH,aY,b5.trans aj aw aQ cw,bS.mono cw.le,bp.mono (aQ.le.trans cw.le)⟩
   |ret v a3=>
    obtain⟨aM,u,rfl,aV,aY,cw⟩:=fs
    have ns:(b.atR {tmps:=a.tmps,defers:=mark++a.defers} (.inRangeFunc i.bb::k)).finish u=b.atR {tmps:=a.tmps,defers:=mark++a.defers} (.endRangeFunc i.bb::k):=rfl
    simp only[ns] at iT
    unfold kA
    simp only
    cases lX:a3.get (nf rd H.n) with
    |none=>trivial
    |some Bx=>
     cases Bx<;>try trivial
     case loop st fw gy rg N1 x9 x_ dR=>
      simp only
      by_cases af:st=.busy
      · subst af;trivial
      · obtain⟨Gw,ax,ay,bF⟩:=NX (P:=P) aY (cw.le _ _ ad) lX af
        have jy:=Steps.trans iT (.one (NV (b:=b) (a:={tmps:=a.tmps,defers:=mark++a.defers}) (k:=k) (cs:=cs) ax))
        have hle:=aQ.le.trans (cw.le.trans bF.le)
        have nv:=b5.trans aj aY (b5.trans aj aw aQ cw) bF
        have done:∀(e:bw),qy P aM (lone (b.atR a (.code (.rangeFunc f ps as cj)::k)) cs w) b k cs {tmps:=a.tmps,defers:=mark++a.defers} Gw e->
          mO P need cd μ H w b k cs0 (lone (b.atR a (.code (.rangeFunc f ps as cj)::k)) cs w) (.ok e r bx q (a3.set (nf rd H.n) (some (.loop .exhausted fw gy rg N1 x9 x_ dR)))):=λe he=>
         ⟨aM,Gw,{tmps:=a.tmps,defers:=mark++a.defers},cs,he,ai.mono hle,bH,ay,nv,bS.mono (cw.le.trans bF.le),bp.mono hle⟩
        have X5:∀X:iu,(match st with|.busy=>iu.fail "rangeFunc: busy" |_=>X)=X:=λX=>by cases st<;>first|rfl|exact absurd rfl af
        cases st<;>first
         |exact absurd rfl af
         |(cases fw with
          |none=>exact done .nrm jy
          |some c=>
           cases c<;>first
            |trivial
            |exact done .ret ⟨k,jy⟩
            |exact done (.exit _) ⟨k,rfl,jy⟩)
  cases Gx:rA (dF 0 [] r (cL P need [] f)) [.b8 (nf rd H.n)] H1 with
  |call g args aE=>
   rw[Gx] at kB
   obtain⟨rfl,vs,ax,ay⟩:=kB
   simp only
   cases bY:(call (.fn g) args aE).kG with
   |false=>obtain⟨s,hs⟩:=yD bY;rw[hs];trivial
   |true=>
    apply fin
    rcases ag.fn g args aE bY fR dw vs aw (ak.mono aQ.le) ay with⟨v,w',aV,aY⟩|⟨aV,aY⟩
    · rw[<-ax] at aV
      exact⟨_,_,aY,al _ _ aV⟩
    · rw[<-ax] at aV
      exact(Gc (Bo bY) aY _ _).of_steps (ar _ _ _ aV)
  |b8 bB args aE=>
   rw[Gx] at kB
   obtain⟨rfl,dW,vs,qx,ax,ay⟩:=kB
   simp only
   cases bY:(call (.b8 bB) args aE).kG with
   |false=>obtain⟨s,hs⟩:=yD bY;rw[hs];trivial
   |true=>
    apply fin
    obtain⟨X6,tmps,x9,x_,aV,aY⟩:=ag.b8 bB args aE bY fR dw dW vs aw (ak.mono aQ.le) qx ay
    rw[<-ax] at aV
    exact(aY _ _).of_steps (aZ _ _ _ _ _ _ aV)
  |val v aE=>trivial
  |b1 v aE=>trivial
  |jn x=>trivial
  |ry=>trivial
  |fail s=>trivial
end
end aB
namespace aB
open Go
section
variable {P:Program}
theorem Bz:∀(l:List I) (i:Nat) (r:aR) (t:Nat),(nh i l r).get (gw t)=if i<=t/\t<i+l.length then(l[t-i]?).getD .bad else r.get (gw t)
 |[],i,r,t=>by
  simp only[nh,List.length_nil]
  rw[if_neg (by omega)]
 |v::l,i,r,t=>by
  simp only[nh,Bz l (i+1),aR.b2,List.length_cons]
  by_cases h:i+1<=t/\t<i+1+l.length
  · rw[if_pos h,if_pos (by omega)]
    have:t-i=(t-(i+1))+1:=by omega
    rw[this];simp
  · rw[if_neg h]
    by_cases e:t=i
    · subst e;rw[if_pos rfl,if_pos (by omega)];simp
    · rw[if_neg e,if_neg (by omega)]
theorem N2{need:Nat}{μ:bg}{args:List I}{vs:List Value}(h:b4 μ args vs)(n:Nat):ib need μ (nh 0 args .leaf) (⟨vs⟩++Array.replicate n undef):=by
 intro t _
 rw[Bz]
 have aq:=h.length
 by_cases aU:t<args.length
 · rw[if_pos (by omega)]
   simp only[Nat.sub_zero]
   obtain⟨v,aC,ai⟩:=h.get (List.getElem?_eq_getElem aU)
   rw[List.getElem?_eq_getElem aU]
   rw[Array.getD_eq_getD_getElem?,Array.getElem?_append_left (by simp;omega)]
   simp only[List.getElem?_toArray,aC,Option.getD_some]
   exact ai
 · rw[if_neg (by omega),aR.mA];trivial
theorem N3{need:Nat}{μ:bg}{H:J}{w:World}(aj:bn μ H w){r:aR}{b9:Array Value}(ai:ib need μ r b9){x:ResultVar}{v:I}(h:p1 P need r H x=some v):
  ∃u,((match x with|.tmp t=>pure (b9.getD t undef)|.cell a t=>do loadVar t (<-asAddr (b9.getD a undef)):Sem Value)).run P w=.ok u w/\a9 μ v u:=by
 unfold p1 at h
 cases x with
 |tmp t=>
  simp only at h
  split at h
  · rename_i af;cases h;exact⟨_,rfl,ai t af⟩
  · cases h
 |cell t ty=>
  simp only at h
  split at h
  · rename_i af
    have aa:=ai t af
    split at h
    · rename_i b off n a_ ba aI
      rw[a_] at aa
      obtain⟨i,ae,aC⟩:=aa
      split at h
      · rename_i cs aq
        cases h
        obtain⟨us,aV,aY⟩:=p8 (P:=P) aj ae aq
        refine⟨.agg ⟨us⟩,?_,us,rfl,aY⟩
        simp[aC,asAddr,loadVar,tC ba,run_sizeOf aI,aV]
      · cases h
    · rename_i b off a_ ba
      rw[a_] at aa
      obtain⟨i,ae,aC⟩:=aa
      obtain⟨u,aV,aY⟩:=AP (P:=P) aj ae h
      refine⟨u,?_,aY⟩
      simp only[aC,asAddr,loadVar,Sem.run_bind,Sem.run_pure,Result.andThen_ok,tC ba,Bool.false_eq_true,if_false,aV]
    · cases h
  · cases h
theorem BA{need:Nat}{μ:bg}{H:J}{w:World}(aj:bn μ H w){r:aR}{b9:Array Value}(ai:ib need μ r b9):∀(l:List ResultVar) (vs:List I),mz (p1 P need r H) l=some vs->
  ∃us:List Value,(l.mapM (λx=>(match x with|.tmp t=>pure (b9.getD t undef)|.cell a t=>do loadVar t (<-asAddr (b9.getD a undef)):Sem Value))).run P w=.ok us w/\b4 μ vs us
 |[],vs,h=>by cases h;exact⟨[],rfl,rfl⟩
 |x::l,vs,h=>by
  simp only[mz] at h
  split at h
  · rename_i v yK aa ad
    cases h
    obtain⟨u,aV,aY⟩:=N3 aj ai aa
    obtain⟨us,cw,jQ⟩:=BA aj ai l yK ad
    refine⟨u::us,?_,⟨_,_,rfl,aY,jQ⟩⟩
    rw[List.mapM_cons]
    simp only[Sem.run_bind]
    rw[aV]
    simp only[Result.andThen_ok,Sem.run_bind,cw,Sem.run_pure]
  · cases h
theorem Gy{need:Nat}{μ:bg}{H:J}{w:World}(aj:bn μ H w){fn:Func}{r:aR}{b9:Array Value}(ai:ib need μ r b9){v:I}(h:oY P need fn r H=some v):
  ∃u,(results fn b9).run P w=.ok u w/\a9 μ v u:=by
 unfold oY at h
 have hR:∀us:List Value,(fn.results.toList.mapM (λx=>(match x with|.tmp t=>pure (b9.getD t undef)|.cell a t=>do loadVar t (<-asAddr (b9.getD a undef)):Sem Value))).run P w=.ok us w->
   (results fn b9).run P w=.ok (if h:(⟨us⟩:Array Value).size=1 then(⟨us⟩:Array Value)[0] else .tuple ⟨us⟩) w:=by
  intro us lb
  have hm:(fn.results.mapM (λx=>(match x with|.tmp t=>pure (b9.getD t undef)|.cell a t=>do loadVar t (<-asAddr (b9.getD a undef)):Sem Value))).run P w=.ok ⟨us⟩ w:=by
   rw[Array.mapM_eq_mapM_toList]
   simp only[map_eq_pure_bind,Sem.run_bind]
   rw[lb];rfl
  unfold results
  simp only[Sem.run_bind]
  refine Eq.trans (congrArg (λq=>Result.andThen q _) hm) ?_
  rfl
 split at h
 · rename_i v' ba
   cases h
   obtain⟨us,aV,aY⟩:=BA aj ai _ _ ba
   obtain⟨u,qg,rfl,cw,jQ⟩:=aY
   cases jQ
   exact⟨_,hR _ aV,cw⟩
 · rename_i vs dk ba
   cases h
   obtain⟨us,aV,aY⟩:=BA aj ai _ _ ba
   refine⟨_,hR _ aV,?_⟩
   have:¬((⟨us⟩:Array Value).size=1):=by
    intro e
    have aq:=aY.length
    have cR:us.length=1:=e
    rw[cR] at aq
    obtain⟨x,ab⟩:=List.length_eq_one_iff.1 aq
    exact dk x ab
   rw[dif_neg this]
   exact⟨us,rfl,aY⟩
 · cases h
theorem Gz{call:aF->List I->J->ao}(ag:lh P call)(hdr:∀need cd,qz P need cd call){f:FuncId}{fn:Func}(hf:P.funcs[f]? =some fn){kind:CallKind}{c:Code}(af:fn.body=some c)(di:hY fn.ntmps c=true)
  {args:List I}{vs:List Value}{q:bE}{H:J}{μ:bg}{w:World}{cs0 cs:List Frame}(aC:b4 μ args vs)(aj:bn μ H w)(ak:ha P μ)(bp:hA μ kind cs0 q cs):
  mO P (dM fn) fn.ntmps μ H w {(default:Frame) with fn:=f,kind:=kind} [] cs0 (lone (Frame.enter P f ⟨vs⟩ kind) cs w) (lM P call fn args q H):=by
 unfold lM
 rw[af]
 simp only
 cases hle:Nat.ble args.length fn.ntmps with
 |false=>trivial
 |true=>
  have A5:args.length<=fn.ntmps:=by simpa using hle
  have hlen:=aC.length
  simp only
  have N4:Frame.enter P f ⟨vs⟩ kind=({(default:Frame) with fn:=f,kind:=kind}:Frame).atR {tmps:=⟨vs⟩++Array.replicate (fn.ntmps-vs.length) undef,defers:=[]} [.code c]:=by
   simp[Frame.enter,Frame.atR,hf,af]
   rfl
  rw[N4]
  exact oi ag (hdr _ _) (By ag) none c di {(default:Frame) with fn:=f,kind:=kind} (nh 0 args .leaf) [] q H μ w {tmps:=⟨vs⟩++Array.replicate (fn.ntmps-vs.length) undef,defers:=[]} [] cs0 cs rfl (N2 aC _) (by simp;omega) aj ak rfl bp
def v3(P:Program):Prop:=∀(g:FuncId) (fV:Func) (gc:Code),P.funcs[g]? =some fV->fV.body=some gc->hY fV.ntmps gc=true/\(fV.name== "runtime.NumGoroutine")=false
theorem BB{f:FuncId}{fn:Func}{c:Code}(hf:P.funcs[f]? =some fn)(af:fn.body=some c)(aI:(fn.name== "runtime.NumGoroutine")=false)(args:Array Value)(w:World):(callFunc f args).run P w=.ok (.enter f args) w:=by
 have N5:¬fn.name= "runtime.NumGoroutine" :=by simpa using aI
 simp[callFunc,hf,N5,af]
def mQ(μ:bg):Option I->FrameMode->Prop
 |none,m=>m=.returning
 |some v,m=>∃u,m=.panicking [{v:=u,recovered:=false}]/\a9 μ v u
theorem mQ.mono{μ aM:bg}(hle:eF μ aM){ec:Option I}{m:FrameMode}(h:mQ μ ec m):mQ aM ec m:=by
 cases ec with
 |none=>exact h
 |some v=>obtain⟨u,aa,ad⟩:=h;exact⟨u,aa,ad.mono hle⟩
theorem mQ.run{μ:bg}{ec:Option I}{m:FrameMode}(h:mQ μ ec m):m≠ .run:=by
 cases ec with
 |none=>intro e;cases h.symm.trans e
 |some v=>obtain⟨u,aa,_⟩:=h;intro e;cases aa.symm.trans e
theorem mQ.q{μ:bg}{ec:Option I}{c:Frame}{cs:List Frame}(h:mQ μ ec c.mode):hA μ .deferred (c::cs) (tw ec) (c::cs):=by
 cases ec with
 |none=>
  refine⟨rfl,λcz av=>?_⟩
  have an:c.mode=.returning:=h
  simp only[tryRecover,av,an]
 |some v=>obtain⟨u,aa,ad⟩:=h;exact⟨rfl,rfl,c,cs,u,rfl,aa,ad⟩
theorem N6{μ:bg}{H:J}{w:World}(aj:bn μ H w){r:Nat}{i:dY}(ae:μ r=some i){cs:List bP}(ak:H.get r=some (.defrd (some cs))):
  ∃w' l,(Instr.takeDeferred i.bb).run P w=.ok l w'/\fW μ cs l/\bn μ (H.set r (some (.defrd none))) w'/\b5 μ H w μ (H.set r (some (.defrd none))) w':=by
 obtain⟨l,ax,ay⟩:=aj.rel _ _ i ak ae
 have cu:=(aj.lt _ _ ae).2
 obtain⟨r1,r2⟩:=aj.update (w':={w with heap:=w.heap.setIfInBounds i.bb (.deferred none)}) (o':=.defrd none) ak rfl ae (by simp) (λr ai=>by simp[Array.getElem?_setIfInBounds];intro e;exact absurd e.symm ai) rfl rfl rfl
  (show({w with heap:=w.heap.setIfInBounds i.bb (.deferred none)}:World).heap[i.bb]? =some (.deferred none) by simp[cu])
 refine⟨_,l,?_,ay,r1,r2⟩
 have gN:(getObj i.bb).run P w=.ok (.deferred (some l)) w:=by simp[getObj,Sem.run,ax]
 have eU:(setObj i.bb (.deferred none)).run P w=.ok () {w with heap:=w.heap.setIfInBounds i.bb (.deferred none)}:=by simp[setObj,Sem.run,ax]
 simp only[Instr.takeDeferred,Sem.run_bind,gN,Result.andThen_ok,eU,Sem.run_pure]
end
end aB
namespace aB
open Go
section
variable {P:Program}
theorem step_take{cz:Frame}{cs:List Frame}{w w':World}{b:Nat}{args:Array Value}{aW calls:List Deferred}(hm:cz.mode≠ .run)(aA:cz.defers={target:=.collected b,args:=args}::aW)(aU:(Instr.takeDeferred b).run P w=.ok calls w'):
  step P (lone cz cs w)=.next (lone {cz with defers:=calls++aW} cs w'):=by
 refine step_lone_go ?_
 cases BC:cz.mode with
 |run=>exact absurd BC hm
 |returning=>simp[stepG,unwind,BC,aA,Sem.runT_eq,aU]
 |panicking chain=>simp[stepG,unwind,BC,aA,Sem.runT_eq,aU]
theorem Ends.trans{μ fR:bg}{H H1:J}{w dw:World}{x:ao}{e:Ending}{w':World}(aj:bn μ H w)(k6:bn fR H1 dw)(ba:b5 μ H w fR H1 dw)(h:Ends fR H1 dw x e w'):Ends μ H w x e w':=by
 cases x with
 |ret v aT=>obtain⟨aM,u,aa,ad,aw,aQ⟩:=h;exact⟨aM,u,aa,ad,aw,b5.trans aj k6 ba aQ⟩
 |b1 v aT=>obtain⟨aM,u,aa,ad,aw,aQ⟩:=h;exact⟨aM,u,aa,ad,aw,b5.trans aj k6 ba aQ⟩
 |fail s=>trivial
theorem BD{call:aF->List I->J->ao}(ag:lh P call)(hdr:∀need cd,qz P need cd call)(e7:v3 P){need:Nat}{fn:Func}{r:aR}:
  ∀(k:Nat) (ec:Option I) (aW:List bP) (H:J) (μ:bg) (w:World) (cz:Frame) (cs:List Frame),(jv P call need fn r k ec aW H).kG=true->bn μ H w->ha P μ->ib need μ r cz.tmps->P.funcs[cz.fn]? =some fn->cz.kind=.normal->
   fW μ aW cz.defers->mQ μ ec cz.mode->∃e w' BE,Ends μ H w (jv P call need fn r k ec aW H) e w'/\Steps P (lone cz cs w) (lone BE cs w')/\BE.fn=cz.fn/\BE.leaving P w' e
 |0,ec,aW,H,μ,w,cz,cs,bY,aj,ak,ai,hf,av,aA,a_=>by cases bY
 |k+1,ec,[],H,μ,w,cz,cs,bY,aj,ak,ai,hf,av,aA,a_=>by
  have o7:cz.defers=[]:=aA
  cases ec with
  |none=>
   simp only[jv] at bY⊢
   cases hR:oY P need fn r H with
   |none=>rw[hR] at bY;cases bY
   |some v=>
    obtain⟨u,aV,aY⟩:=Gy (P:=P) aj ai hR
    exact⟨.returned u,w,cz,⟨μ,u,rfl,aY,aj,b5.refl _ _ _⟩,Steps.refl _ _,rfl,a_,o7,av,fn,hf,aV⟩
  |some v=>
   obtain⟨u,aa,ad⟩:=a_
   exact⟨.panicked _,w,cz,⟨μ,u,rfl,ad,aj,b5.refl _ _ _⟩,Steps.refl _ _,rfl,aa,o7,fn,hf⟩
 |k+1,ec,.collected b::aW,H,μ,w,cz,cs,bY,aj,ak,ai,hf,av,aA,a_=>by
  obtain⟨qq,dl,vQ,aa,ad⟩:=aA
  cases aa with
  |collected _ i ae=>
  simp only[jv] at bY⊢
  cases BF:H.get b with
  |none=>rw[BF] at bY;cases bY
  |some o=>
   rw[BF] at bY
   cases o<;>try (cases bY;done)
   case defrd calls=>
    cases calls with
    |none=>cases bY
    |some N7=>
     simp only at bY⊢
     obtain⟨w',l,ax,ay,bF,en⟩:=N6 (P:=P) aj ae BF
     have hs:=step_take (cs:=cs) a_.run vQ ax
     obtain⟨e,cT,lY,r1,r2,gB,h1⟩:=BD ag hdr e7 k ec (N7++aW) _ μ w' {cz with defers:=l++dl} cs bY bF ak ai hf av (ay.append ad) a_
     refine⟨e,cT,lY,?_,Steps.head hs r2,gB,h1⟩
     exact Ends.trans aj bF en r1
 |k+1,ec,.call g args::aW,H,μ,w,cz,cs,bY,aj,ak,ai,hf,av,aA,a_=>by
  obtain⟨qq,dl,vQ,aa,ad⟩:=aA
  cases aa with
  |call _ _ cap vs v5=>
  simp only[jv] at bY⊢
  cases qA:P.funcs[g]? with
  |none=>rw[qA] at bY;cases bY
  |some fV=>
   rw[qA] at bY
   simp only at bY⊢
   cases yL:fV.body with
   |none=>
    have:lM P call fV args (tw ec) H=.fail "no body" :=by simp[lM,yL]
    rw[this] at bY;cases bY
   |some gc=>
    obtain⟨v7,yM⟩:=e7 g fV gc qA yL
    have bp:hA μ .deferred ({cz with defers:=dl}::cs) (tw ec) ({cz with defers:=dl}::cs):=mQ.q (c:={cz with defers:=dl}) a_
    have af:=Gz (P:=P) ag hdr qA (kind:=.deferred) yL v7 (args:=args) (vs:=vs++cap) (q:=tw ec) v5 aj ak bp
    have hinv:(invoke (.fn (.func g) ⟨cap⟩) ⟨vs⟩).run P w=.ok (.enter g ⟨vs++cap⟩) w:=by
     have:=BB (P:=P) qA yL yM (⟨vs⟩++⟨cap⟩) w
     simpa[invoke] using this
    have N8:=step_defer (P:=P) (cs:=cs) a_.run vQ (d:={target:=.fn (.func g) ⟨cap⟩,args:=⟨vs⟩}) rfl hinv
    cases ab:lM P call fV args (tw ec) H with
    |fail s=>rw[ab] at bY;cases bY
    |ok e r' bx bG aT=>
     rw[ab] at bY af
     obtain⟨aM,w',db,bX,s1,s2,bq,bL,cB,dN,eP⟩:=af
     simp only[EW] at bY⊢
     cases hR:oY P (dM fV) fV r' aT with
     |none=>rw[hR] at bY;cases e<;>cases bx<;>cases bY
     |some X7=>
      rw[hR] at bY
      obtain⟨u,aV,aY⟩:=Gy (P:=P) bL s2 hR
      have main:∀(he:e=.nrm\/e=.ret) (o7:bx=[]) (gC:(jv P call need fn r k (vo bG ec) aW aT).kG=true),
        ∃ay cT lY,Ends μ H w (jv P call need fn r k (vo bG ec) aW aT) ay cT/\Steps P (lone cz cs w) (lone lY cs cT)/\lY.fn=cz.fn/\lY.leaving P cT ay:=by
       intro he o7 gC
       subst o7
       have v8:db.defers=[]:=dN
       have v9:∃todo,Steps P (lone (Frame.enter P g ⟨vs++cap⟩ .deferred) ({cz with defers:=dl}::cs) w) (lone {({(default:Frame) with fn:=g,kind:=.deferred}:Frame).atR db todo with mode:=.returning} bX w'):=by
        rcases he with rfl|rfl
        · exact⟨_,Steps.trans s1 (.one (stepR_end rfl))⟩
        · obtain⟨bV,v_⟩:=s1
          exact⟨_,Steps.trans v_ (.one (stepR_ret rfl))⟩
       obtain⟨todo,v9⟩:=v9
       have gN:({({(default:Frame) with fn:=g,kind:=.deferred}:Frame).atR db todo with mode:=.returning}:Frame).going P w' (.returned u):=⟨rfl,v8,fV,qA,aV⟩
       have caller:∃m,bX={({cz with defers:=dl}:Frame) with mode:=m}::cs/\mQ aM (vo bG ec) (settle m):=by
        have b6:mQ aM ec (settle cz.mode):=by
         have wa:=a_.mono cB.le
         cases ec with
         |none=>have:cz.mode=.returning:=wa;rw[this];rfl
         |some v=>obtain⟨u,aa,ad⟩:=wa;rw[aa];exact⟨u,rfl,ad⟩
        cases bG with
        |none=>exact⟨cz.mode,eP.1,b6⟩
        |act v=>exact⟨cz.mode,eP.1,b6⟩
        |done v=>
         obtain⟨_,c,rest,u,ax,ay,bF,en⟩:=eP
         cases ax
         exact⟨_,en,rfl⟩
       obtain⟨m,rfl,N9⟩:=caller
       have aw:=step_going_returned (P:=P) (c:={({cz with defers:=dl}:Frame) with mode:=m}) (cs:=cs) rfl gN
       obtain⟨ay,cT,lY,r1,r2,gB,h1⟩:=BD ag hdr e7 k (vo bG ec) aW aT aM w' {cz with defers:=dl,mode:=settle m} cs gC bL (ak.mono cB.le) (ai.mono cB.le) hf av (ad.mono cB.le) N9
       exact⟨ay,cT,lY,Ends.trans aj bL cB r1,Steps.head N8 (Steps.trans v9 (Steps.head aw r2)),gB,h1⟩
      cases bx with
      |cons x xs=>cases e<;>cases bY
      |nil=>
       cases e with
       |nrm=>exact main (.inl rfl) rfl bY
       |ret=>exact main (.inr rfl) rfl bY
       |exit id=>cases bY
       |goto l=>cases bY
       |b1 v=>cases bY
theorem N_{P:Program}{m yN:Machine}{e:Ending}(h:Steps P m yN)(he:e≠ .outgrown):Comes P m yN e:=by
 cases e with
 |outgrown=>exact absurd rfl he
 |_=>exact h
theorem Oa{call:aF->List I->J->ao}(ag:lh P call)(hdr:∀need cd,qz P need cd call)(e7:v3 P){f:FuncId}{fn:Func}{c:Code}(hf:P.funcs[f]? =some fn)(af:fn.body=some c)
  {args:List I}{vs:List Value}{H:J}{μ:bg}{w:World}(aC:b4 μ args vs)(aj:bn μ H w)(ak:ha P μ)(bY:(lN P call fn (lM P call fn args .none H)).kG=true):
  Calls P f ⟨vs⟩ w (Ends μ H w (lN P call fn (lM P call fn args .none H))):=by
 intro cs
 obtain⟨v7,yM⟩:=e7 f fn c hf af
 have bp:hA μ .normal cs .none cs:=⟨rfl,λcz av=>by simp[tryRecover,av]⟩
 have gX:=Gz (P:=P) ag hdr hf (kind:=.normal) af v7 aC aj ak bp
 generalize ab:lM P call fn args .none H=x at bY gX⊢
 cases x with
 |fail s=>cases bY
 |ok e r d q aT=>
  obtain⟨aM,w',db,bX,s1,s2,bq,bL,cB,dN,eP⟩:=gX
  have g_:bX=cs:=by
   cases q with
   |none=>exact eP.1
   |act v=>exact eP.1
   |done v=>exact absurd eP.1 (by intro h;cases h)
  subst g_
  have main:∀(ec:Option I) (cz:Frame),cz.fn=f->cz.tmps=db.tmps->cz.defers=db.defers->cz.kind=.normal->mQ aM ec cz.mode->Steps P (lone (Frame.enter P f ⟨vs⟩ .normal) bX w) (lone cz bX w')->
    (jv P call (dM fn) fn r 100 ec d aT).kG=true->∃e cT lY,Ends μ H w (jv P call (dM fn) fn r 100 ec d aT) e cT/\Comes P (lone (Frame.enter P f ⟨vs⟩ .normal) bX w) (lone lY bX cT) e/\lY.fn=f/\lY.leaving P cT e:=by
   intro ec cz aa ad aw aQ bS dm gC
   subst aa
   obtain⟨ay,cT,lY,r1,r2,gB,h1⟩:=BD ag hdr e7 100 ec d aT aM w' cz bX gC bL (ak.mono cB.le) (by rw[ad];exact s2) hf aQ (by rw[aw];exact dN) bS
   have GA:=Ends.trans aj bL cB r1
   exact⟨ay,cT,lY,GA,N_ (dm.trans r2) (λe=>Bo gC _ (e▸GA)),gB,h1⟩
  cases e with
  |nrm=>exact main none {({(default:Frame) with fn:=f,kind:=.normal}:Frame).atR db [] with mode:=.returning} rfl rfl rfl rfl rfl (Steps.trans s1 (.one (stepR_end rfl))) bY
  |ret=>obtain⟨bV,v_⟩:=s1;exact main none {({(default:Frame) with fn:=f,kind:=.normal}:Frame).atR db (.code .ret::bV) with mode:=.returning} rfl rfl rfl rfl rfl (Steps.trans v_ (.one (stepR_ret rfl))) bY
  |b1 v=>obtain⟨bV,u,aa,ad⟩:=s1;exact main (some v) _ rfl rfl rfl rfl ⟨u,rfl,aa.1⟩ ad bY
  |exit id=>cases bY
  |goto l=>cases bY
end
end aB
namespace aB
open Go
section
variable {P:Program}
theorem GB{need:Nat}{μ:bg}:∀(ps:List Nat) (args:List I) (vs:List Value) (r g8:aR) (b9:Array Value),(∀t∈ps,t<b9.size)->ib need μ r b9->b4 μ args vs->rC ps args r=some g8->
  ib need μ g8 ((ps.zip vs).foldl (λb9 (p:Nat×Value)=>b9.setIfInBounds p.1 p.2) b9)/\((ps.zip vs).foldl (λb9 (p:Nat×Value)=>b9.setIfInBounds p.1 p.2) b9).size=b9.size/\ps.length=vs.length
 |[],[],vs,r,g8,b9,a_,ai,aC,h=>by cases aC;cases h;exact⟨ai,rfl,rfl⟩
 |t::bJ,v::args,vs,r,g8,b9,a_,ai,aC,h=>by
  obtain⟨u,us,rfl,aa,ad⟩:=aC
  simp only[rC] at h
  have rU:ib need μ (r.set (gw t) v) (b9.setIfInBounds t u):=λs hs=>by
   rw[aR.b2,vY (a_ t (by simp))]
   by_cases e:s=t
   · rw[if_pos e,if_pos e];exact aa
   · rw[if_neg e,if_neg e];exact ai s hs
  obtain⟨aV,aY,cw⟩:=GB bJ args us _ g8 (b9.setIfInBounds t u) (λs hs=>by simp;exact a_ s (by simp[hs])) rU ad h
  exact⟨aV,by rw[List.zip_cons_cons,List.foldl_cons];rw[aY];simp,by simp[cw]⟩
 |[],_::_,vs,r,g8,b9,a_,ai,aC,h=>by cases h
 |_::_,[],vs,r,g8,b9,a_,ai,aC,h=>by cases h
theorem BG{μ:bg}{H:J}{w:World}(aj:bn μ H w){l:Nat}{i:dY}(aq:μ l=some i){st:LoopState}{fw:Option Code}{gy:Nat}{rg:aR}{ps:List Nat}{as cj:Code}{dR:Nat}(ak:H.get l=some (.loop st fw gy rg ps as cj dR)):
  ∃b9 g9 fn,μ dR=some g9/\(Instr.getLoop i.bb).run P w=.ok {state:=st,pending:=fw,fn:=fn,tmps:=b9,params:=⟨ps⟩,assign:=as,body:=cj,defers:=g9.bb} w/\ib gy μ rg b9/\hY b9.size as=true/\hY b9.size cj=true/\(∀t∈ps,t<b9.size)/\
   ∀ca tK,∃w',(setObj i.bb (.loop {state:=ca,pending:=tK,fn:=fn,tmps:=b9,params:=⟨ps⟩,assign:=as,body:=cj,defers:=g9.bb})).run P w=.ok () w'/\
    bn μ (H.set l (some (.loop ca tK gy rg ps as cj dR))) w'/\b5 μ H w μ (H.set l (some (.loop ca tK gy rg ps as cj dR))) w':=by
 obtain⟨b9,g9,fn,ax,ay,bF,en,k9,fC⟩:=aj.rel _ _ i ak aq
 have cu:=(aj.lt _ _ aq).2
 have gN:(getObj i.bb).run P w=.ok (.loop {state:=st,pending:=fw,fn:=fn,tmps:=b9,params:=⟨ps⟩,assign:=as,body:=cj,defers:=g9.bb}) w:=by simp[getObj,Sem.run,ay]
 refine⟨b9,g9,fn,ax,?_,bF,en,k9,fC,λca tK=>?_⟩
 · simp only[Instr.getLoop,Sem.run_bind,gN,Result.andThen_ok,Sem.run_pure]
 · obtain⟨r1,r2⟩:=aj.update (w':={w with heap:=w.heap.setIfInBounds i.bb (.loop {state:=ca,pending:=tK,fn:=fn,tmps:=b9,params:=⟨ps⟩,assign:=as,body:=cj,defers:=g9.bb})}) (o':=.loop ca tK gy rg ps as cj dR) ak rfl aq (by simp) (λr ai=>by simp[Array.getElem?_setIfInBounds];intro e;exact absurd e.symm ai) rfl rfl rfl
     ⟨b9,g9,fn,ax,by simp[cu],bF,en,k9,fC⟩
   exact⟨_,by simp[setObj,Sem.run,ay],r1,r2⟩
theorem Ob{b:Frame}{a:Act}{bV:List Item}{c:Frame}{cs:List Frame}{w:World}{chain:List PanicEntry}(aA:a.defers=[])(aI:Bu bV):
  step P (lone {b.atR a bV with mode:=.panicking chain} (c::cs) w)=.next (lone (c.raise chain) cs w):=by
 have Oc:({b.atR a bV with mode:=.panicking chain}:Frame).catches P=false:=by
  unfold Frame.catches
  cases hf:P.funcs[b.fn]? with
  |some fn=>simp[Frame.atR,hf]
  |none=>
   cases bV with
   |nil=>simp[Frame.atR,hf]
   |cons x t=>cases x<;>first|exact aI.elim|simp[Frame.atR,hf]
 refine step_lone_go ?_
 have GC:=Oc
 simp only[Frame.atR,aA] at GC⊢
 simp[stepG,unwind,GC]
theorem Od{μ:bg}{H:J}{w:World}{l:Nat}{i:dY}(aq:μ l=some i){b:Frame}(af:b.roundOf=some i.bb)(av:b.kind=.normal){need cd:Nat}{c:Frame}{cs:List Frame}{eV:Machine}{x:iu}(ab:mO P need cd μ H w b [] (c::cs) eV x)(X8:∀cz:Frame,cz.kind=b.kind->tryRecover cz (c::cs)=none)(bY:(tx l x).kG=true)(aj:bn μ H w):
  qv P eV c cs (Ends μ H w (tx l x)):=by
 cases x with
 |fail s=>cases bY
 |ok e r d q aT=>
  obtain⟨aM,w',db,bX,s1,s2,bq,bL,cB,dN,eP⟩:=ab
  have g_:bX=c::cs:=by
   cases q with
   |none=>exact eP.1
   |act v=>exact eP.1
   |done v=>exact absurd (av.symm.trans eP.1) (by intro h;cases h)
  subst g_
  cases d with
  |cons y eS=>cases bY
  |nil=>
   have v8:db.defers=[]:=dN
   simp only[tx] at bY⊢
   cases ak:aT.get l with
   |none=>rw[ak] at bY;cases bY
   |some o=>
    rw[ak] at bY
    cases o<;>try (cases bY;done)
    case loop st fw gy rg ps as cj dR=>
     cases st<;>try (cases bY;done)
     simp only at bY⊢
     obtain⟨b9,g9,fn,al,ar,_,_,_,_,aZ⟩:=BG (P:=P) bL (cB.le _ _ aq) ak
     have fin:∀mP:Option Code,∃cT,(Instr.endRound i.bb mP).run P w'=.ok (.bool mP.isNone) cT/\bn aM (aT.set l (some (.loop (if mP.isNone then .ready else .done) mP gy rg ps as cj dR))) cT/\b5 aM aT w' aM (aT.set l (some (.loop (if mP.isNone then .ready else .done) mP gy rg ps as cj dR))) cT:=λmP=>by
      obtain⟨cT,aV,aY,cw⟩:=aZ (if mP.isNone then .ready else .done) mP
      refine⟨cT,?_,aY,cw⟩
      simp only[Instr.endRound,Sem.run_bind,ar,Result.andThen_ok,aV,Sem.run_pure]
     cases e with
     |nrm=>
      obtain⟨cT,aV,aY,cw⟩:=fin none
      exact⟨.returned (.bool true),cT,⟨aM,_,rfl,rfl,aY,b5.trans aj bL cB cw⟩,Steps.trans s1 (.one (stepR_round_end af av aV))⟩
     |ret=>
      obtain⟨bV,s1⟩:=s1
      obtain⟨cT,aV,aY,cw⟩:=fin (some .ret)
      exact⟨.returned (.bool false),cT,⟨aM,_,rfl,rfl,aY,b5.trans aj bL cB cw⟩,Steps.trans s1 (.one (stepR_round_ret af av aV))⟩
     |exit id=>
      obtain⟨bV,v_,s1⟩:=s1
      obtain⟨cT,aV,aY,cw⟩:=fin (some (.exit id))
      exact⟨.returned (.bool false),cT,⟨aM,_,rfl,rfl,aY,b5.trans aj bL cB cw⟩,Steps.trans s1 (.one (stepR_round_exit af av (v_.trans rfl) aV))⟩
     |b1 v=>
      obtain⟨bV,u,⟨aa,ad⟩,s1⟩:=s1
      exact⟨.panicked _,w',⟨aM,u,rfl,aa,bL,cB⟩,Steps.trans s1 (.one (Ob v8 ad))⟩
     |goto t=>cases bY
theorem Oe{call:aF->List I->J->ao}(ag:lh P call)(hdr:∀need cd,qz P need cd call){l:Nat}{args:List I}{H:J}{μ:bg}{w:World}{i:dY}{vs:List Value}(bY:(n4 P call l args H).kG=true)(aj:bn μ H w)(oc:ha P μ)(aq:μ l=some i)(aC:b4 μ args vs):
  Gb P i.bb vs w (Ends μ H w (n4 P call l args H)):=by
 unfold n4 at bY⊢
 cases ak:H.get l with
 |none=>rw[ak] at bY;cases bY
 |some o=>
  rw[ak] at bY
  cases o<;>try (cases bY;done)
  case loop st fw gy rg ps as cj dR=>
   cases st<;>try (cases bY;done)
   simp only at bY⊢
   cases a4:rC ps args rg with
   |none=>rw[a4] at bY;cases bY
   |some g8=>
    rw[a4] at bY
    simp only at bY⊢
    obtain⟨b9,g9,fn,al,ar,aZ,cb,da,e2,hp⟩:=BG (P:=P) aj aq ak
    obtain⟨dn,fj,jU⟩:=GB ps args vs rg g8 b9 e2 aZ aC a4
    obtain⟨tL,GD⟩:∃tL,(ps.zip vs).foldl (λb9 (p:Nat×Value)=>b9.setIfInBounds p.1 p.2) b9=tL:=⟨_,rfl⟩
    rw[GD] at dn fj
    refine⟨fn,tL,as,cj,?_,λc cs=>?_⟩
    · simp only[Instr.yield,Sem.run_bind,ar,Result.andThen_ok]
      rw[if_neg (by simp;omega)]
      simp only[Sem.run_bind,Sem.run_pure,Result.andThen_ok]
      rw[<-GD]
      simp
    · have Of:Frame.round i.bb fn tL as cj .normal=({(default:Frame) with fn:=fn,kind:=.normal,roundOf:=some i.bb}:Frame).atR {tmps:=tL,defers:=[]} [.code as,.beginRound,.code cj]:=rfl
      rw[Of]
      have bp:hA μ .normal (c::cs) .none (c::cs):=⟨rfl,λcz av=>by simp[tryRecover,av]⟩
      have cZ:nu μ ({(default:Frame) with fn:=fn,kind:=.normal,roundOf:=some i.bb}:Frame) (some l):=⟨i,aq,rfl⟩
      have aa:=oi ag (hdr gy b9.size) (By ag) (some l) as cb {(default:Frame) with fn:=fn,kind:=.normal,roundOf:=some i.bb} g8 [] .none H μ w {tmps:=tL,defers:=[]} [.beginRound,.code cj] (c::cs) (c::cs) cZ dn fj aj oc rfl bp
      generalize ds P gy (some l) call as g8 [] .none H=x at aa bY⊢
      cases x with
      |fail s=>cases bY
      |ok e r1 d1 aV H1=>
       cases e<;>try (cases bY;done)
       case nrm=>
        cases d1<;>try (cases bY;done)
        case nil=>
         obtain⟨fR,dw,c9,iU,s1,s2,bq,bL,cB,dN,eP⟩:=aa
         have g_:iU=c::cs:=by
          cases aV with
          |none=>exact eP.1
          |act v=>exact eP.1
          |done v=>exact absurd eP.1 (by intro h;cases h)
         subst g_
         simp only[x8] at bY⊢
         cases eW:H1.get l with
         |none=>rw[eW] at bY;cases bY
         |some cH=>
          rw[eW] at bY
          cases cH<;>try (cases bY;done)
          case loop jW Og X9 X_ Ya Yb Yc Yd=>
           cases jW<;>try (cases bY;done)
           simp only at bY⊢
           obtain⟨Ye,Yf,Yg,bQ,cl,fr,o8,yO,wb,BH⟩:=BG (P:=P) bL (cB.le _ _ aq) eW
           obtain⟨cT,a5,bt,dP⟩:=BH .busy Og
           have vW:(Instr.beginRound i.bb).run P dw=.ok () cT:=by
            simp only[Instr.beginRound,Sem.run_bind,cl,Result.andThen_ok,a5,Sem.run_pure]
           have cf:=stepR_beginRound (P:=P) (b:={(default:Frame) with fn:=fn,kind:=.normal,roundOf:=some i.bb}) (a:=c9) (k:=[.code cj]) (cs:=c::cs) rfl vW
           have o9:hA fR .normal (c::cs) .none (c::cs):=⟨rfl,λcz av=>by simp[tryRecover,av]⟩
           have Oh:nu fR ({(default:Frame) with fn:=fn,kind:=.normal,roundOf:=some i.bb}:Frame) (some l):=⟨i,cB.le _ _ aq,rfl⟩
           have v8:fW fR [] c9.defers:=dN
           have ad:=oi ag (hdr gy b9.size) (By ag) (some l) cj da {(default:Frame) with fn:=fn,kind:=.normal,roundOf:=some i.bb} r1 [] .none _ fR cT c9 [] (c::cs) (c::cs) Oh s2 bq bt (oc.mono cB.le) v8 o9
           have aw:=ad.of_steps aj bt (Steps.trans s1 (.one cf)) (b5.trans aj bL cB dP)
           exact Od aq rfl rfl aw (λcz av=>by simp[tryRecover,av]) bY aj
end
end aB
namespace aB
open Go
section
variable {P:Program}
def qB:List String:=["internal/abi.NoEscape","internal/bytealg.MakeNoZero","internal/bytealg.IndexByteString","maps.clone"]
def yP(P:Program):Prop:=∀(g:FuncId) (fV:Func),P.funcs[g]? =some fV->fV.body=none->fV.name∈qB->Extern.findNext fV=none
theorem GF:∀(n t:Nat) (acc:Array Value),(Extern.BytealgMakeNoZero.digits n t acc).size=acc.size+n
 |0,t,acc=>rfl
 |n+1,t,acc=>by rw[Extern.BytealgMakeNoZero.digits,GF n];simp;omega
theorem Oi{fn:Func}(aI:fn.name= "internal/abi.NoEscape"):Extern.find fn=some Extern.AbiNoEscape.same:=by
 have aa:Extern.allGenericRows.lookup "internal/abi.NoEscape" =none:=by rfl
 have ad:Extern.allTypedRows.lookup "internal/abi.NoEscape" =none:=by rfl
 have aw:Extern.allRows.lookup "internal/abi.NoEscape" =some Extern.AbiNoEscape.same:=by rfl
 simp[Extern.find,aI,aa,ad,aw]
theorem Oj{fn:Func}(aI:fn.name= "internal/bytealg.MakeNoZero"):Extern.find fn=some (Extern.BytealgMakeNoZero.makeNoZero fn.params fn.resultTypes):=by
 have aa:Extern.allGenericRows.lookup "internal/bytealg.MakeNoZero" =none:=by rfl
 have ad:Extern.allTypedRows.lookup "internal/bytealg.MakeNoZero" =some Extern.BytealgMakeNoZero.makeNoZero:=by rfl
 simp[Extern.find,aI,aa,ad]
theorem Ok{fn:Func}(aI:fn.name= "internal/bytealg.IndexByteString"):Extern.find fn=some Extern.BytealgIndexByte.indexByte:=by
 have aa:Extern.allGenericRows.lookup "internal/bytealg.IndexByteString" =none:=by rfl
 have ad:Extern.allTypedRows.lookup "internal/bytealg.IndexByteString" =none:=by rfl
 have aw:Extern.allRows.lookup "internal/bytealg.IndexByteString" =some Extern.BytealgIndexByte.indexByte:=by rfl
 simp[Extern.find,aI,aa,ad,aw]
theorem Ol{fn:Func}(aI:fn.name= "maps.clone"):Extern.find fn=some Extern.MapsClone.clone:=by
 have aa:Extern.allGenericRows.lookup "maps.clone" =none:=by rfl
 have ad:Extern.allTypedRows.lookup "maps.clone" =none:=by rfl
 have aw:Extern.allRows.lookup "maps.clone" =some Extern.MapsClone.clone:=by rfl
 simp[Extern.find,aI,aa,ad,aw]
theorem GG(c:Nat):∀(l:List UInt8) (i:Nat),ni c l i=match l.findIdx? (λb=>Nat.beq b.toNat c) with
  |some j=>((i+j:Nat):Int)
  |none=>-1
 |[],i=>rfl
 |b::l,i=>by
  rw[ni,List.findIdx?_cons]
  cases Nat.beq b.toNat c with
  |true=>simp
  |false=>
   simp only[GG c l (i+1)]
   cases l.findIdx? (λb=>Nat.beq b.toNat c) with
   |none=>rfl
   |some j=>
    simp only[Option.map_some]
    have:((i+(j+1):Nat):Int)=((i+1+j:Nat):Int):=by congr 1;omega
    exact this.symm
theorem Om(b:ByteArray)(p:UInt8->Bool):(List.range b.size).find? (λi=>p b[i]!)=b.data.toList.findIdx? p:=by
 have bH:b.data.toList.length=b.size:=Array.length_toList
 have fi:∀(i:Nat) (ae:i<b.data.toList.length),b[i]! =b.data.toList[i]:=λi ae=>by
  have dV:i<b.size:=by omega
  rw[getElem!_pos b i dV];rfl
 cases hf:b.data.toList.findIdx? p with
 |none=>
  rw[List.find?_eq_none]
  intro i ae
  have dV:i<b.data.toList.length:=by rw[bH];simpa using ae
  rw[fi i dV]
  have:=List.findIdx?_eq_none_iff.1 hf _ (List.getElem_mem dV)
  rw[this];exact Bool.false_ne_true
 |some j=>
  obtain⟨aG,a_,cu⟩:=List.findIdx?_eq_some_iff_getElem.1 hf
  rw[List.find?_range_eq_some]
  refine⟨?_,by simp;omega,λi ae=>?_⟩
  · rw[fi j aG];exact a_
  · rw[fi i (by omega)]
    have:=cu i ae
    simpa using this
theorem On{α:Type}(n:Int)(f:Int->α)(g:Array Value->α):Extern.BytealgMakeNoZero.makeNoZero.match_3 (λ_=>α) #[.int .i64 n] f g=f n:=rfl
theorem Oo{α:Type}(t:TypeId)(r:Nat)(f:TypeId->Nat->α)(e:TypeId->α)(g:Array Value->α):Extern.MapsClone.clone.match_2 (λ_=>α) #[.iface t (.map (some r))] f e g=f t r:=rfl
theorem Oq{α:Type}(b c:Value)(f:Value->Value->α)(g:Array Value->α):Extern.BytealgIndexByte.indexByte.match_2 (λ_=>α) #[b,c] f g=f b c:=rfl
theorem Ot{f:FuncId}{fn:Func}(hf:P.funcs[f]? =some fn)(af:fn.body=none)(qC:yP P){args:List I}{H aT:J}{v:I}(h:tv P fn fn.name args H=some (v,aT))
  {μ:bg}{w:World}{vs:List Value}(aj:bn μ H w)(aC:b4 μ args vs):
  ∃u w',(callFunc f ⟨vs⟩).run P w=.ok (.value u) w'/\Ends μ H w (.ret v aT) (.returned u) w':=by
 have call:∀e:Array Value->Sem Value,fn.name∈qB->Extern.find fn=some e->(callFunc f ⟨vs⟩).run P w=(do let v<-e ⟨vs⟩;pure (.value v):Sem Next).run P w:=by
  intro e hm he
  have aI:=qC f fn hf af hm
  have wc:(fn.name== "runtime.NumGoroutine")=false:=by
   simp only[qB,List.mem_cons,List.mem_nil_iff,or_false] at hm
   rcases hm with h|h|h|h<;>rw[h]<;>decide
  rw[run_callFunc_extern hf wc (by rw[af];rfl) aI he];simp only[Sem.run_bind];rfl
 unfold tv at h
 split at h
 · rename_i n
   split at h
   · rename_i nw
     split at h
     · rename_i t aU
       split at h
       · rename_i e hu
         split at h
         · rename_i hle
           cases h
           have A5:n<=1099511627776:=by simpa using hle
           obtain⟨u,us,rfl,aa,ad⟩:=aC
           cases aa;cases ad
           have bH:∀(t:TypeId),(Question.appendCap n 0 t).forced=false:=λ_=>rfl
           obtain⟨cap,n_,GH⟩:∃cap,(Question.appendCap n 0 e).cut (w.tape w.drawn (Question.appendCap n 0 e))=cap/\n<=cap:=⟨_,rfl,by simp[Question.cut]⟩
           obtain⟨GI,mR⟩:∃x,(Question.extern "internal/bytealg.MakeNoZero.bytes" 0).cut (w.drew.tape w.drew.drawn (Question.extern "internal/bytealg.MakeNoZero.bytes" 0))=x:=⟨_,rfl⟩
           have aA:=GF cap GI #[]
           have GJ:=aj.drew.drew
           obtain⟨r1,r2⟩:=GJ.alloc (.cells (List.replicate n .bad) e .aS 0 0) (.cells (Extern.BytealgMakeNoZero.digits cap GI #[]) e) cap
            ⟨_,0,0,World.heap_alloc_new _ _,λj v aG=>by
              have rF:j<n:=by
               rcases Nat.lt_or_ge j n with h|h
               · exact h
               · rw[List.getElem?_eq_none (by simpa using h)] at aG;cases aG
              rw[List.getElem?_replicate,if_pos rF] at aG
              cases aG
              refine⟨_,Array.getElem?_eq_getElem (by rw[Nat.zero_add,aA];simp;omega),trivial⟩,by rw[aA];simp,by simpa using GH,λj _ _ h=>by omega⟩
           refine⟨_,_,?_,fH μ H.n ⟨w.drew.drew.heap.size,0,cap⟩,_,rfl,⟨_,fI _ _ _,cap,rfl,GH,by simp⟩,r1,b5.trans aj aj.drew b5.drew (b5.trans aj.drew GJ b5.drew r2)⟩
           rw[call _ (by rw[nw];simp[qB]) (Oj nw)]
           have Ou:¬((Int.ofNat n<0||Int.ofNat n>2^48)=true):=by
            have ad:(2:Int)^48=281474976710656:=by rfl
            have aw:Int.ofNat n=(n:Int):=rfl
            rw[ad,aw];simp only[Bool.or_eq_true,decide_eq_true_eq];omega
           have Ov:(Question.extern "internal/bytealg.MakeNoZero.bytes" 0).forced=false:=rfl
           have yQ:(Int.ofNat n).toNat=n:=rfl
           delta Extern.BytealgMakeNoZero.makeNoZero
           rw[On]
           simp only[Sem.run_bind,aU,Sem.run_pure,bN hu,Result.andThen_ok]
           rw[if_neg Ou]
           simp only[Sem.run_bind,run_choose,yQ,bH,Ov,Bool.false_eq_true,if_false,World.drew_eq,n_,Result.andThen_ok,run_askRoom,mR,Sem.run_pure]
           rfl
         · cases h
       · cases h
     · cases h
   · cases h
 · rename_i x _
   obtain⟨u,us,rfl,aa,ad⟩:=aC
   cases ad
   split at h
   · rename_i nw
     cases h
     refine⟨u,w,?_,μ,u,rfl,aa,aj,b5.refl _ _ _⟩
     rw[call _ (by rw[nw];simp[qB]) (Oi nw)]
     rfl
   · split at h
     · rename_i nw
       split at h
       · rename_i t r
         split at h
         · rename_i es c ak
           cases h
           obtain⟨y,rfl,i,ae,rfl⟩:=aa
           obtain⟨ents,ax,ay⟩:=aj.rel _ _ i ak ae
           have hle:=aj.nm ⟨w.heap.size,0,0⟩
           obtain⟨r1,r2⟩:=aj.alloc (.map es c) (.map ⟨ents⟩ c) 0 ⟨ents,World.heap_alloc_new _ _,ay.mono hle⟩
           refine⟨_,_,?_,fH μ H.n ⟨w.heap.size,0,0⟩,.iface _ (.map (some w.heap.size)),rfl,⟨.map (some w.heap.size),rfl,⟨w.heap.size,0,0⟩,fI _ _ _,rfl⟩,r1,r2⟩
           rw[call _ (by rw[nw];simp[qB]) (Ol nw)]
           have gN:(getObj i.bb).run P w=.ok (.map ⟨ents⟩ c) w:=by simp[getObj,Sem.run,ax]
           simp only[Sem.run_bind]
           rw[show(⟨[Value.iface _ (Value.map (some i.bb))]⟩:Array Value)=#[.iface _ (.map (some i.bb))] from rfl]
           delta Extern.MapsClone.clone
           rw[Oo]
           simp only[Sem.run_bind,gN,Result.andThen_ok,run_newObj,Sem.run_pure]
           rfl
         · cases h
       · cases h
     · cases h
 · rename_i s c
   split at h
   · rename_i nw
     split at h
     · rename_i ag
       cases h
       have n5:c<256:=by simpa using ag
       obtain⟨u,us,rfl,aa,ad⟩:=aC
       obtain⟨qo,Yh,rfl,aw,aQ⟩:=ad
       cases aw;cases aQ
       obtain⟨t,rfl,rfl⟩:=aa
       refine⟨_,w,?_,μ,_,rfl,rfl,aj,b5.refl _ _ _⟩
       rw[call _ (by rw[nw];simp[qB]) (Ok nw)]
       have mR:(Int.ofNat c).toNat.toUInt8=UInt8.ofNat c:=rfl
       have heq:∀b:UInt8,(b==UInt8.ofNat c)=Nat.beq b.toNat c:=λb=>by
        rw[Bool.eq_iff_iff,beq_iff_eq,Nat.beq_eq,<-UInt8.toNat_inj]
        simp[Nat.mod_eq_of_lt n5]
       delta Extern.BytealgIndexByte.indexByte
       rw[Oq]
       simp only[Sem.run_bind,Extern.Bytes.bytesOf,Extern.Bytes.asByte,Sem.run_pure,Result.andThen_ok,mR,heq]
       have hf:=Om t (λb=>Nat.beq b.toNat c)
       rw[hf,GG]
       cases t.data.toList.findIdx? (λb=>Nat.beq b.toNat c) with
       |none=>rfl
       |some j=>
        simp only[Nat.zero_add]
        rfl
     · cases h
   · cases h
 · cases h
def lj(P:Program)(intr:Nat->List I->J->Option (I×J)):Prop:=
 ∀f args H v aT,intr f args H=some (v,aT)->∀μ w (vs:List Value),bn μ H w->ha P μ->b4 μ args vs->tI P f vs w (Ends μ H w (.ret v aT))
theorem Ow{call:aF->List I->J->ao}(ag:lh P call)(hdr:∀need cd,qz P need cd call)(e7:v3 P)(qC:yP P){f:Nat}{args:List I}{H:J}(bY:(p2 P call f args H).kG=true)
  {μ:bg}{w:World}{vs:List Value}(aj:bn μ H w)(ak:ha P μ)(aC:b4 μ args vs):tI P f vs w (Ends μ H w (p2 P call f args H)):=by
 unfold p2 at bY⊢
 cases hf:P.funcs[f]? with
 |none=>rw[hf] at bY;cases bY
 |some fn=>
  rw[hf] at bY
  simp only at bY⊢
  cases af:fn.body with
  |none=>
   rw[af] at bY
   simp only at bY⊢
   cases ab:tv P fn fn.name args H with
   |none=>rw[ab] at bY;cases bY
   |some p=>
    obtain⟨v,aT⟩:=p
    obtain⟨u,w',aa,ad⟩:=Ot hf af qC ab aj aC
    exact .inl ⟨u,w',aa,ad⟩
  |some c=>
   rw[af] at bY
   simp only at bY⊢
   obtain⟨v7,yM⟩:=e7 f fn c hf af
   exact .inr ⟨BB hf af yM _ _,Oa ag hdr e7 hf af aC aj ak bY⟩
theorem GK{intr:Nat->List I->J->Option (I×J)}(ae:lj P intr)(hdr:∀call,lh P call->∀need cd,qz P need cd call)(e7:v3 P)(qC:yP P):∀n,lh P (fq P intr n)
 |0=>⟨λf args H ak=>(by cases ak),λl args H ak=>(by cases ak)⟩
 |n+1=>by
  have bd:=GK ae hdr e7 qC n
  refine⟨λf args H bY μ w vs aj ak aC=>?_,λl args H bY μ w i vs aj ak aq aC=>?_⟩
  · simp only[fq] at bY⊢
    cases ab:intr f args H with
    |some p=>
     obtain⟨v,aT⟩:=p
     exact ae f args H v aT ab μ w vs aj ak aC
    |none=>
     rw[ab] at bY
     exact Ow bd (hdr _ bd) e7 qC bY aj ak aC
  · simp only[fq] at bY⊢
    exact Oe bd (hdr _ bd) bY aj ak aq aC
end
end aB
namespace aB
open Go
def r4(ops:Array Oper)(S:List Nat):List Nat->Prop
 |[]=>∀i,i<ops.size->i∈S
 |i::rest=>i<ops.size/\i∉S/\(∀o,ops[i]? =some o->∀e∈o.after,Region.binds .any e=true->e.on∈S)/\r4 ops (i::S) rest
theorem filter_lt{p q:Nat->Bool}(BI:∀x,q x=true->p x=true):∀(l:List Nat) {i:Nat},i∈l->p i=true->q i=false->(l.filter q).length<(l.filter p).length
 |[],i,h,_,_=>by cases h
 |a::l,i,h,a_,bp=>by
  have hle:∀l:List Nat,(l.filter q).length<=(l.filter p).length:=λl=>by
   induction l with
   |nil=>simp
   |cons b l bd=>
    simp only[List.filter_cons]
    cases af:q b with
    |true=>simp[BI b af];exact bd
    |false=>cases p b<;>simp<;>omega
  rcases List.mem_cons.1 h with rfl|h
  · have:=hle l
    simp only[List.filter_cons,a_,bp,if_true,Bool.false_eq_true,if_false,List.length_cons];omega
  · have bd:=filter_lt BI l h a_ bp
    simp only[List.filter_cons]
    cases af:q a with
    |true=>simp[BI a af];exact bd
    |false=>cases p a<;>simp<;>omega
theorem Ox{ops:Array Oper}(qD:∀o i,ops[i]? =some o->nj o i=true){listed:Array Bool}(bH:listed.size=ops.size)(ai:Region.ready .any ops listed=[]):∀i,i<ops.size->listed.getD i true=true:=by
 intro i
 induction i using Nat.strongRecOn with
 |ind i bd=>
  intro ae
  cases aq:listed.getD i true with
  |true=>rfl
  |false=>
   have a7:ops[i]? =some ops[i]:=Array.getElem?_eq_getElem ae
   have:i∈Region.ready .any ops listed:=mem_ready.2 ⟨aq,ops[i],a7,λe he af=>by
    have:=qD _ _ a7
    unfold nj at this
    rw[List.all_eq_true] at this
    have ad:=this e (by simpa using he)
    simp only[af,Bool.not_true,Bool.false_or,Nat.blt_eq] at ad
    have aw:=bd e.on ad (by omega)
    have cu:e.on<listed.size:=by omega
    simp[cu] at aw⊢
    exact aw⟩
   rw[ai] at this;cases this
theorem GL{ops:Array Oper}(qD:∀o i,ops[i]? =some o->nj o i=true):∀(fuel t:Nat) (listed:Array Bool) (S:List Nat),listed.size=ops.size->(∀i,i<ops.size->(listed.getD i true=true<->i∈S))->
  ((List.range ops.size).filter λi=>!listed.getD i true).length<=fuel->r4 ops S (Region.linearise.go .any ops fuel t listed [])
 |0,t,listed,S,bH,iT,hf=>by
  simp only[Region.linearise.go,List.reverse_nil,r4]
  intro i ae
  rw[<-iT i ae]
  have h0:((List.range ops.size).filter λi=>!listed.getD i true)=[]:=List.length_eq_zero_iff.1 (Nat.le_zero.1 hf)
  rw[List.filter_eq_nil_iff] at h0
  have:=h0 i (List.mem_range.2 ae)
  simpa using this
 |fuel+1,t,listed,S,bH,iT,hf=>by
  simp only[Region.linearise.go]
  change r4 ops S (match(Region.ready .any ops listed)[t %(Region.ready .any ops listed).length]? with
   |some i=>Region.linearise.go .any ops fuel (t/(Region.ready .any ops listed).length) (listed.setIfInBounds i true) [i]
   |none=>[].reverse)
  cases ae:(Region.ready .any ops listed)[t %(Region.ready .any ops listed).length]? with
  |none=>
   have r5:Region.ready .any ops listed=[]:=by
    cases ai:Region.ready .any ops listed with
    |nil=>rfl
    |cons x xs=>
     rw[ai] at ae
     have cu:t %(x::xs).length<(x::xs).length:=Nat.mod_lt _ (by simp)
     rw[List.getElem?_eq_getElem cu] at ae;cases ae
   simp only[List.reverse_nil,r4]
   exactλi h=>(iT i h).1 (Ox qD bH r5 i h)
  |some i=>
   simp only[]
   rw[linearise_go_acc,List.reverse_singleton,List.singleton_append]
   obtain⟨aa,o,ad,aw⟩:=mem_ready.1 (List.mem_of_getElem? ae)
   have cu:i<ops.size:=(Array.getElem?_eq_some_iff.1 ad).1
   have AX:i<listed.size:=by omega
   have rU:∀j d,(listed.setIfInBounds i true).getD j d=if j=i then true else listed.getD j d:=λj d=>by
    simp only[Array.getD_eq_getD_getElem?,Array.getElem?_setIfInBounds]
    by_cases e:i=j
    · subst e;simp[AX]
    · rw[if_neg e,if_neg (λh=>e h.symm)]
   refine⟨cu,λh=>?_,λo' hB e he af=>?_,GL qD fuel _ _ _ (by simpa using bH) (λj aG=>?_) ?_⟩
   · have:=(iT i cu).2 h
     rw[aa] at this;cases this
   · rw[ad] at hB;cases hB
     have aQ:=aw e he af
     have yR:e.on<listed.size:=by
      rcases Nat.lt_or_ge e.on listed.size with h|h
      · exact h
      · simp[Array.getElem?_eq_none h] at aQ
     rw[<-iT e.on (by omega)]
     simp[yR] at aQ⊢
     exact aQ
   · rw[rU,List.mem_cons]
     by_cases e:j=i
     · simp[e]
     · rw[if_neg e,iT j aG];simp[e]
   · have Yi:((List.range ops.size).filter λj=>!(listed.setIfInBounds i true).getD j true).length<((List.range ops.size).filter λj=>!listed.getD j true).length:=
       filter_lt (λx ab=>by
        rw[rU] at ab
        by_cases e:x=i
        · rw[if_pos e] at ab;cases ab
        · rw[if_neg e] at ab;exact ab) _ (List.mem_range.2 cu) (by rw[aa];rfl) (by rw[rU,if_pos rfl];rfl)
     omega
theorem Oy{ops:Array Oper}(qD:∀o i,ops[i]? =some o->nj o i=true)(t:Nat):r4 ops [] (Region.schedule true ops t):=by
 simp only[Region.schedule,Bool.true_or,if_true,Region.linearise]
 refine GL qD ops.size t _ [] (by simp) (λi ae=>by simp[ae]) ?_
 refine Nat.le_trans (List.length_filter_le _ _) (by simp)
section
variable {P:Program} {g gD:Operand->I}
theorem BJ{o:Option Operand}(h:∀x∈o.toArray,g x=gD x):o.map g=o.map gD:=by
 cases o with
 |none=>rfl
 |some x=>simp[h x (by simp)]
theorem we(o:Oper)(H:J)(h:∀x∈o.op.operands,g x=gD x):cA P o g H=cA P o gD H:=by
 obtain⟨dst,op,type,pos,after,guard⟩:=o
 have yS:∀ps:Array (Nat×Operand),(∀x∈ps.map (·.2),g x=gD x)->(ps.toList.map λp=>(p.1,g p.2))=(ps.toList.map λp=>(p.1,gD p.2)):=λps a_=>
  List.map_congr_left λp hm=>by rw[a_ p.2 (Array.mem_map.2 ⟨p,by simpa using hm,rfl⟩)]
 cases op<;>simp only[Op.operands] at h<;>unfold cA
 case build t ps=>simp only[yS ps λx ab=>h x (by simpa using ab)]
 case buildSlice t n ps=>simp only[yS ps λx ab=>h x (by simpa using ab)]
 case makeFunc fn first captured=>
  simp only[List.map_congr_left (l:=first.toList) λx ab=>h x (by simp at ab;simp[ab]),List.map_congr_left (l:=captured.toList) λx ab=>h x (by simp at ab;simp[ab])]
 case call c=>
  have ba:c.args.toList.map g=c.args.toList.map gD:=List.map_congr_left λx ab=>h x (by simp at ab;simp[Call.operands,ab])
  simp only[ba]
  cases ag:c.callee with
  |value f=>have hf:g f=gD f:=h f (by simp[Call.operands,ag]);simp only[hf]
  |invoke r m=>have ai:g r=gD r:=h r (by simp[Call.operands,ag]);simp only[ai]
  |builtin b=>rfl
 case defer c=>
  have ba:c.args.toList.map g=c.args.toList.map gD:=List.map_congr_left λx ab=>h x (by simp at ab;simp[Call.operands,ab])
  simp only[ba]
  cases ag:c.callee with
  |value f=>have hf:g f=gD f:=h f (by simp[Call.operands,ag]);simp only[hf]
  |invoke r m=>rfl
  |builtin b=>rfl
 case makeMap t r=>cases r<;>simp_all
 case slice t x bk ae mx=>
  have ax:bk.map g=bk.map gD:=BJ λy a2=>h y (by simp at a2;simp[a2])
  have ay:ae.map g=ae.map gD:=BJ λy a2=>h y (by simp at a2;simp[a2])
  have bF:mx.map g=mx.map gD:=BJ λy a2=>h y (by simp at a2;simp[a2])
  have en:g x=gD x:=h x (by simp)
  have k9:∀o:Option Operand,(o.map λo=>kindName (g o))=(o.map g).map kindName:=λo=>by cases o<;>rfl
  have fC:∀o:Option Operand,(o.map λo=>kindName (gD o))=(o.map gD).map kindName:=λo=>by cases o<;>rfl
  simp only[ax,ay,bF,en,k9,fC]
 all_goals (first|rfl|(simp_all;done))
theorem wg(o:Op)(b:Nat)(h:∀x∈o.operands,g x=gD x):ju P o g b=ju P o gD b:=by
 have yS:∀ps:Array (Nat×Operand),(∀x∈ps.map (·.2),g x=gD x)->(ps.toList.map λp=>(p.1,g p.2))=(ps.toList.map λp=>(p.1,gD p.2)):=λps a_=>
  List.map_congr_left λp hm=>by rw[a_ p.2 (Array.mem_map.2 ⟨p,by simpa using hm,rfl⟩)]
 cases o<;>simp only[Op.operands] at h<;>unfold ju
 case buildSlice t n ps=>simp only[yS ps λx ab=>h x (by simpa using ab)]
 case makeMap t r=>cases r<;>rfl
 all_goals (first|rfl|(simp_all;done))
theorem Oz{o:Oper}{H aT:J}{v:I}(av:kindOf P o.op=.pure)(h:cA P o g H=.val v aT):aT=H:=by
 have gm:∀{w:String} {x:Option I},fp H w x=.val v aT->aT=H:=λ{w x} e=>by
  cases x with
  |none=>cases e
  |some y=>cases e;rfl
 obtain⟨dst,op,type,pos,after,guard⟩:=o
 cases op<;>simp only[kindOf] at av<;>(try (cases av;done))<;>unfold cA at h<;>simp only at h
 case move=>cases h;rfl
 case assign=>cases h;rfl
 case pick=>
  split at h
  · cases h;rfl
  · cases h;rfl
  · cases h
 case build=>
  repeat' (first|contradiction|(cases h;rfl)|(cases h;done)|split at h)
 case load=>
  repeat' (first|contradiction|(cases h;rfl)|(cases h;done)|exact gm h|split at h)
 case nilCheck=>repeat' (first|contradiction|(cases h;rfl)|(cases h;done)|exact gm h|split at h)
 case binOp=>exact gm h
 case unOp=>repeat' (first|contradiction|(cases h;rfl)|(cases h;done)|exact gm h|split at h)
 case convert s d x=>
  have dk:∀e,P.underlying d≠some (.slice e):=λe he=>by rw[he] at av;cases av
  unfold et at h
  repeat' (first|exact absurd (by assumption) (dk _)|(cases h;rfl)|(cases h;done)|split at h)
 case makeInterface=>repeat' (first|contradiction|(cases h;rfl)|(cases h;done)|exact gm h|split at h)
 case makeFunc=>repeat' (first|contradiction|(cases h;rfl)|(cases h;done)|exact gm h|split at h)
 case makeMap r=>cases r<;>cases av
 case slice=>exact gm h
 case fieldAddr=>repeat' (first|contradiction|(cases h;rfl)|(cases h;done)|exact gm h|split at h)
 case field=>repeat' (first|contradiction|(cases h;rfl)|(cases h;done)|exact gm h|split at h)
 case indexAddr=>repeat' (first|contradiction|(cases h;rfl)|(cases h;done)|exact gm h|split at h)
 case index=>repeat' (first|contradiction|(cases h;rfl)|(cases h;done)|exact gm h|split at h)
 case lookup=>exact gm h
 case typeAssert=>repeat' (first|contradiction|(cases h;rfl)|(cases h;done)|exact gm h|split at h)
 case extract=>repeat' (first|contradiction|(cases h;rfl)|(cases h;done)|exact gm h|split at h)
 case call c=>
  cases ag:c.callee with
  |value f=>rw[ag] at av;cases av
  |invoke r m=>rw[ag] at av;cases av
  |builtin b=>
   rw[ag] at av h
   simp only at h
   cases b<;>simp only at av<;>(try (cases av;done))<;>unfold hP at h<;>simp only at h
   all_goals repeat' (first|contradiction|(cases h;rfl)|(cases h;done)|exact gm h|split at h)
end
end aB
namespace aB
open Go
def kf(ops:Array Oper)(S:List Nat)(j:Nat):Prop:=∀o,ops[j]? =some o->∀e∈o.after,Region.binds .any e=true->e.on∈S
def yT(ops:Array Oper)(S:List Nat):Prop:=∀j∈S,kf ops S j
def Sound(ops:Array Oper)(j m:Nat):Prop:=∀S,yT ops S->kf ops S j->∀b,Nat.testBit m b=true->b∈S
def wh(ops:Array Oper)(n:Nat)(fQ:List Nat):Prop:=∀j,j<n->∃m,nth (n-1-j) fQ=some m/\Sound ops j m
theorem OA(a b:Nat)(h:Nat.testBit (1<<<a) b=true):b=a:=by
 rw[Nat.shiftLeft_eq,Nat.one_mul,Nat.testBit_two_pow] at h
 exact(of_decide_eq_true h).symm
theorem GM{fQ:List Nat}{n:Nat}:∀(l:List Edge) (s b:Nat),Nat.testBit (l.foldl (λs e=>match Region.binds .any e with
  |true=>s|||1<<<e.on|||(nth (n-1-e.on) fQ).getD 0
  |false=>s) s) b=true->Nat.testBit s b=true\/∃e∈l,Region.binds .any e=true/\(b=e.on\/Nat.testBit ((nth (n-1-e.on) fQ).getD 0) b=true)
 |[],s,b,h=>.inl h
 |e::l,s,b,h=>by
  rw[List.foldl_cons] at h
  rcases GM l _ b h with h|⟨cR,aa,ad⟩
  · cases af:Region.binds .any e with
    |false=>rw[af] at h;exact .inl h
    |true=>
     rw[af] at h
     simp only[Nat.testBit_or,Bool.or_eq_true] at h
     rcases h with(h|h)|h
     · exact .inl h
     · exact .inr ⟨e,by simp,af,.inl (OA _ _ h)⟩
     · exact .inr ⟨e,by simp,af,.inr h⟩
  · exact .inr ⟨cR,by simp[aa],ad⟩
theorem OB{ops:Array Oper}{fQ:List Nat}{n:Nat}{o:Oper}(a7:ops[n]? =some o)(af:nj o n=true)(hm:wh ops n fQ):Sound ops n (vm fQ n o):=by
 intro S iT ai b h
 unfold vm at h
 rw[<-Array.foldl_toList] at h
 rcases GM _ _ _ h with h|⟨e,aa,ad,aw⟩
 · simp at h
 · have he:e∈o.after:=by simpa using aa
   have yR:=ai o a7 e he ad
   rcases aw with rfl|aw
   · exact yR
   · have cu:e.on<n:=by
       unfold nj at af
       rw[List.all_eq_true] at af
       have:=af e aa
       simpa[ad] using this
     obtain⟨m,OC,OD⟩:=hm e.on cu
     rw[OC] at aw
     exact OD S iT (iT _ yR) b aw
theorem wh.cons{ops:Array Oper}{fQ:List Nat}{n m:Nat}(h:wh ops n fQ)(hs:Sound ops n m):wh ops (n+1) (m::fQ):=by
 intro j aG
 by_cases e:j=n
 · subst e;exact⟨m,by simp[nth],hs⟩
 · obtain⟨yN,aa,ad⟩:=h j (by omega)
   refine⟨yN,?_,ad⟩
   have:n+1-1-j=(n-1-j)+1:=by omega
   rw[this];exact aa
theorem GN:∀(l:List Oper) (n:Nat) (loc:List (Nat×Acc)) (k:Nat) (o:Oper),l[k]? =some o->hX (l.take (k+1)) n loc=k3 o (n+k) (hX (l.take k) n loc)
 |[],n,loc,k,o,h=>by simp at h
 |x::l,n,loc,0,o,h=>by simp at h;subst h;simp[hX]
 |x::l,n,loc,k+1,o,h=>by
  have an:l[k]? =some o:=by simpa using h
  have bd:=GN l (n+1) (k3 x n loc) k o an
  simp only[List.take_succ_cons,hX]
  rw[bd]
  have:n+1+k=n+(k+1):=by omega
  rw[this]
theorem wi{ops:Array Oper}:∀(l:List Oper) (n:Nat) (loc:List (Nat×Acc)) (fQ:List Nat),(∀k,l[k]? =ops[n+k]?)->(∀s∈eN l n loc fQ,nj s.o s.i=true)->wh ops n fQ->∀(k:Nat) (o:Oper),l[k]? =some o->
  ∃s,(eN l n loc fQ)[k]? =some s/\s.i=n+k/\s.o=o/\s.loc=hX (l.take k) n loc/\Sound ops (n+k) s.eE
 |[],n,loc,fQ,aq,he,hm,k,o,h=>by simp at h
 |x::l,n,loc,fQ,aq,he,hm,k,o,h=>by
  simp only[eN] at he⊢
  have ab:ops[n]? =some x:=by have:=aq 0;simpa using this.symm
  have af:nj x n=true:=he ⟨n,x,vm fQ n x,loc⟩ (by simp)
  have hs:=OB ab af hm
  cases k with
  |zero=>
   simp at h;subst h
   exact⟨_,rfl,rfl,rfl,rfl,hs⟩
  |succ k=>
   obtain⟨s,aa,ad,aw,aQ,bS⟩:=wi l (n+1) (k3 x n loc) (vm fQ n x::fQ) (λj=>by have:=aq (j+1);simp at this;rw[this];congr 1;omega) (λs hs=>he s (by simp[hs])) (hm.cons hs) k o (by simpa using h)
   exact⟨s,by simpa using aa,by omega,aw,by simpa[hX] using aQ,by rw[show n+(k+1)=n+1+k by omega];exact bS⟩
theorem BK:∀(l:List Oper) (n:Nat) (loc:List (Nat×Acc)) (fQ:List Nat),(eN l n loc fQ).length=l.length
 |[],_,_,_=>rfl
 |x::l,n,loc,fQ=>by simp[eN,BK l]
theorem tM{ops:Array Oper}:∀{l:List DStep},oZ ops l=true->∀s∈l,nj s.o s.i=true
 |[],_,s,h=>by cases h
 |x::l,aA,s,h=>by
  simp only[oZ,Bool.and_eq_true] at aA
  rcases List.mem_cons.1 h with rfl|h
  · exact aA.1.1
  · exact tM aA.2 s h
theorem GO{ops:Array Oper}{s:DStep}:∀{l:List DStep},ya ops s l=true->∀bC∈l,(∃t,s.o.dst=some t/\t∈k5 ops bC.o)\/(∃t,bC.o.dst=some t/\t∈k5 ops s.o)->Nat.testBit bC.eE s.i=true
 |[],_,bC,h=>by cases h
 |x::l,aA,bC,h=>by
  simp only[ya,Bool.and_eq_true] at aA
  rcases List.mem_cons.1 h with rfl|h
  · intro aI
    have aa:=aA.1
    split at aa
    · exact aa
    · rename_i ag
      exfalso
      rw[Bool.or_eq_false_iff] at ag
      rcases aI with⟨t,e,hm⟩|⟨t,e,hm⟩
      · have:=ag.1;rw[e] at this;simp[hm] at this
      · have:=ag.2;rw[e] at this;simp[hm] at this
  · exact GO aA.2 bC h
theorem GP{ops:Array Oper}:∀{l:List DStep},oZ ops l=true->∀(i j:Nat) (s bC:DStep),i<j->l[i]? =some s->l[j]? =some bC->(∃t,s.o.dst=some t/\t∈k5 ops bC.o)\/(∃t,bC.o.dst=some t/\t∈k5 ops s.o)->Nat.testBit bC.eE s.i=true
 |[],_,i,j,s,bC,_,h,_=>by simp at h
 |x::l,aA,i,j,s,bC,qE,aa,ad=>by
  simp only[oZ,Bool.and_eq_true] at aA
  cases j with
  |zero=>omega
  |succ j=>
   have tN:l[j]? =some bC:=by simpa using ad
   cases i with
   |zero=>
    simp at aa;subst aa
    exact GO aA.1.2 bC (List.mem_of_getElem? tN)
   |succ i=>exact GP aA.2 i j s bC (by omega) (by simpa using aa) tN
structure r6 where
 env:List I
 d:List bP
 q:bE
 h:J
 a1:List (Nat×Nat×J)
section
variable {P:Program} {need:Nat} {inR:Bool} {call:aF->List I->J->ao} {ops:Array Oper} {r:aR} {cE:Nat}
def lk(P:Program)(need:Nat)(r:aR)(s:DStep)(env:List I):Operand->I:=λx=>dF s.i env r (cL P need s.loc x)
inductive r7(P:Program)(need:Nat)(inR:Bool)(call:aF->List I->J->ao)(ops:Array Oper)(r:aR)(cE:Nat)(s:DStep)(st:r6):r6->Prop where
 |tO (av:kindOf P s.o.op=.alloc) (hw:eb (gi P need ops r s.i st.env s)=some false):r7 P need inR call ops r cE s st {st with env:=.aP []::st.env}
 |alloc {v:I} {cN:cp} (av:kindOf P s.o.op=.alloc) (hw:eb (gi P need ops r s.i st.env s)=some true) (ba:ju P s.o.op (lk P need r s st.env) (cE+s.i)=some (v,cN)):
   r7 P need inR call ops r cE s st {st with env:=v::st.env,h:=st.h.set (cE+s.i) (some cN)}
 |pure {v:I} {bx:List bP} {bG:bE} {an:J} (av:kindOf P s.o.op=.pure) (he:dG P inR call (gi P need ops r s.i st.env s) s.o (lk P need r s st.env) st.d st.q st.h=.ok v bx bG an):
   r7 P need inR call ops r cE s st {st with env:=v::st.env}
 |dS {v:I} {bx:List bP} {bG:bE} {an:J} (av:kindOf P s.o.op=.dS) (a7:∀e m h0 l,st.a1=(e,m,h0)::l->Nat.testBit s.eE e=true)
   (he:dG P inR call (gi P need ops r s.i st.env s) s.o (lk P need r s st.env) st.d st.q st.h=.ok v bx bG an):r7 P need inR call ops r cE s st ⟨v::st.env,bx,bG,an,(s.i,s.eE,st.h)::st.a1⟩
theorem OE{s:DStep}{rest:List DStep}{st:r6}{x:AJ}(h:fG P need inR call ops r cE (s::rest) st.env st.d st.q st.h st.a1=x)(hf:∀w,x≠ .fail w):
  (∃ca,r7 P need inR call ops r cE s st ca/\fG P need inR call ops r cE rest ca.env ca.d ca.q ca.h ca.a1=x)\/
  (kindOf P s.o.op=.dS/\(∀e m h0 l,st.a1=(e,m,h0)::l->Nat.testBit s.eE e=true)/\rest.all (λbC=>Nat.testBit bC.eE s.i)=true/\
   ∃v bx bG an,dG P inR call (gi P need ops r s.i st.env s) s.o (lk P need r s st.env) st.d st.q st.h=.b1 v bx bG an/\x=.b1 v st.env bx bG an ((s.i,s.eE,st.h)::st.a1)):=by
 simp only[fG] at h
 split at h
 · rename_i av
   split at h
   · exact absurd h.symm (hf _)
   · rename_i hw;exact .inl ⟨_,.tO av hw,h⟩
   · rename_i hw
     split at h
     · rename_i v cN ba;exact .inl ⟨_,.alloc av hw ba,h⟩
     · exact absurd h.symm (hf _)
 · rename_i av
   split at h
   · rename_i he;exact .inl ⟨_,.pure av he,h⟩
   · exact absurd h.symm (hf _)
   · exact absurd h.symm (hf _)
 · rename_i av
   split at h
   · exact absurd h.symm (hf _)
   · rename_i a7
     have hB:∀e m h0 l,st.a1=(e,m,h0)::l->Nat.testBit s.eE e=true:=λe m h0 l hs=>by rw[hs] at a7;exact a7
     split at h
     · rename_i he;exact .inl ⟨_,.dS av hB he,h⟩
     · rename_i he
       split at h
       · rename_i e7;exact .inr ⟨av,hB,e7,_,_,_,_,he,h.symm⟩
       · exact absurd h.symm (hf _)
     · exact absurd h.symm (hf _)
theorem GQ:∀(l:List DStep) (st:r6) (x:AJ),fG P need inR call ops r cE l st.env st.d st.q st.h st.a1=x->(∀w,x≠ .fail w)->
  ∃(f:Nat->r6) (N:Nat),f 0=st/\N<=l.length/\(∀k s,k<N->l[k]? =some s->r7 P need inR call ops r cE s (f k) (f (k+1)))/\
   ((N=l.length/\x=.ok (f N).env (f N).d (f N).q (f N).h (f N).a1)\/
    (∃s,l[N]? =some s/\kindOf P s.o.op=.dS/\(∀e m h0 l,(f N).a1=(e,m,h0)::l->Nat.testBit s.eE e=true)/\(∀k bC,N<k->l[k]? =some bC->Nat.testBit bC.eE s.i=true)/\
     ∃v bx bG an,dG P inR call (gi P need ops r s.i (f N).env s) s.o (lk P need r s (f N).env) (f N).d (f N).q (f N).h=.b1 v bx bG an/\x=.b1 v (f N).env bx bG an ((s.i,s.eE,(f N).h)::(f N).a1)))
 |[],st,x,h,hf=>⟨λ_=>st,0,rfl,Nat.le_refl _,λk s av=>by omega,.inl ⟨rfl,h.symm⟩⟩
 |s::l,st,x,h,hf=>by
  rcases OE h hf with⟨ca,aa,ad⟩|⟨aa,ad,aw,aQ⟩
  · obtain⟨f,N,al,ar,aZ,cb⟩:=GQ l ca x ad hf
    refine⟨λk=>match k with|0=>st|k+1=>f k,N+1,rfl,by simpa using ar,λk bC av hs=>?_,?_⟩
    · cases k with
      |zero=>simp at hs;subst hs;simp only[Nat.zero_add,al];exact aa
      |succ k=>exact aZ k bC (by omega) (by simpa using hs)
    · rcases cb with⟨ax,ay⟩|⟨s2,ax,ay,bF,en,k9⟩
      · exact .inl ⟨by simp[ax],ay⟩
      · refine .inr ⟨s2,by simpa using ax,ay,bF,λk bC av hs=>?_,k9⟩
        cases k with
        |zero=>omega
        |succ k=>exact en k bC (by omega) (by simpa using hs)
  · refine⟨λ_=>st,0,rfl,by simp,λk s av=>by omega,.inr ⟨s,rfl,aa,ad,λk bC av hs=>?_,aQ⟩⟩
    cases k with
    |zero=>omega
    |succ k=>
     rw[List.all_eq_true] at aw
     exact aw bC (List.mem_of_getElem? (by simpa using hs))
mutual
theorem beq_eq:∀(a c:I),I.beq a c=true->a=c
 |.bool a,c,h=>by
  cases c<;>simp only[I.beq] at h<;>first|(cases h;done)|(simp at h;subst h;rfl)
 |.int k n,c,h=>by
  cases c<;>simp only[I.beq] at h<;>first|(cases h;done)|(simp[a0] at h;obtain⟨rfl,rfl⟩:=h;rfl)
 |.str s,c,h=>by
  cases c<;>simp only[I.beq] at h<;>first|(cases h;done)|(rw[n8] at h;simp at h;subst h;rfl)
 |.bm,c,h=>by cases c<;>simp only[I.beq] at h<;>first|(cases h;done)|rfl
 |.ptr x y,c,h=>by
  cases c<;>simp only[I.beq] at h<;>first|(cases h;done)|(rw[Bool.and_eq_true,Nat.beq_eq,Nat.beq_eq] at h;obtain⟨rfl,rfl⟩:=h;rfl)
 |.bf,c,h=>by cases c<;>simp only[I.beq] at h<;>first|(cases h;done)|rfl
 |.slice x y z cap,c,h=>by
  cases c<;>simp only[I.beq] at h<;>(try (cases h;done))
  rename_i eX LP Yj BL
  simp only[Bool.and_eq_true,Nat.beq_eq] at h
  obtain⟨⟨⟨rfl,rfl⟩,rfl⟩,h⟩:=h
  cases cap<;>cases BL<;>simp only[ch.beq] at h<;>first|(cases h;done)|(rw[Nat.beq_eq] at h;subst h;rfl)|rfl
 |.gU,c,h=>by cases c<;>simp only[I.beq] at h<;>first|(cases h;done)|rfl
 |.map x,c,h=>by
  cases c<;>simp only[I.beq] at h<;>first|(cases h;done)|(rw[Nat.beq_eq] at h;subst h;rfl)
 |.e4,c,h=>by cases c<;>simp only[I.beq] at h<;>first|(cases h;done)|rfl
 |.fn x as bs,c,h=>by
  cases c<;>simp only[I.beq] at h<;>(try (cases h;done))
  simp only[Bool.and_eq_true,Nat.beq_eq] at h
  obtain⟨⟨rfl,aa⟩,ad⟩:=h
  rw[o_ _ _ aa,o_ _ _ ad]
 |.b8 x,c,h=>by
  cases c<;>simp only[I.beq] at h<;>first|(cases h;done)|(rw[Nat.beq_eq] at h;subst h;rfl)
 |.ew,c,h=>by cases c<;>simp only[I.beq] at h<;>first|(cases h;done)|rfl
 |.iface t v,c,h=>by
  cases c<;>simp only[I.beq] at h<;>(try (cases h;done))
  simp only[Bool.and_eq_true,Nat.beq_eq] at h
  obtain⟨rfl,aa⟩:=h
  rw[beq_eq _ _ aa]
 |.agg cs,c,h=>by
  cases c<;>simp only[I.beq] at h<;>(try (cases h;done))
  rw[o_ _ _ h]
 |.aP cs,c,h=>by
  cases c<;>simp only[I.beq] at h<;>(try (cases h;done))
  rw[o_ _ _ h]
 |.bad,c,h=>by cases c<;>simp only[I.beq] at h<;>cases h
theorem o_:∀(a c:List I),I.jt a c=true->a=c
 |[],[],_=>rfl
 |[],_::_,h=>by simp[I.jt] at h
 |_::_,[],h=>by simp[I.jt] at h
 |x::a,y::c,h=>by
  simp only[I.jt,Bool.and_eq_true] at h
  rw[beq_eq _ _ h.1,o_ _ _ h.2]
end
end
end aB
