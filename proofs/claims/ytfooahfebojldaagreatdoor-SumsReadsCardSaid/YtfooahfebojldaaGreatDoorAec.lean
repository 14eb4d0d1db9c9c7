/-
  THE ABSTRACT EVALUATOR (code, functions, rounds, calls): a deterministic semantics of loaded code, and the proof that its runs are runs of the program in the model, whatever the tape draws. No condition.
-/
import Derived.Test.YtfooahfebojldaaGreatDoorAeb
import Derived.Defers
import Derived.Laws.Externs
import Derived.Orders
set_option linter.unusedVariables false
set_option linter.unusedSimpArgs false
namespace aC
open Go
def se(P:Program)(need:Nat)(ops:Array Oper):List Oper->List (Nat×Acc)->Nat->List Step
 |[],_,_=>[]
 |o::rest,loc,m=>
  match aliasOf o with
  |some (t,x)=>se P need ops rest ((t,c_ P need loc x)::loc) m
  |none=>⟨kR P need ops loc o,o,loc,m⟩::se P need ops rest (mA o m loc) (m+1)
def pY(P:Program)(need:Nat)(ops:Array Oper):List Oper->List (Nat×Acc)->Nat->List (Nat×Acc)
 |[],loc,_=>loc
 |o::rest,loc,m=>
  match aliasOf o with
  |some (t,x)=>pY P need ops rest ((t,c_ P need loc x)::loc) m
  |none=>pY P need ops rest (mA o m loc) (m+1)
theorem DL(P:Program)(need:Nat)(ops:Array Oper):∀(l:List Oper) (loc:List (Nat×Acc)) (st:List Step) (m:Nat),vi P need ops l loc st m=⟨st.reverse++se P need ops l loc m,pY P need ops l loc m⟩
 |[],loc,st,m=>by simp[vi,se,pY]
 |o::rest,loc,st,m=>by
  unfold vi se pY
  cases bl:aliasOf o with
  |some p=>obtain⟨t,x⟩:=p;simp only[bl];exact DL P need ops rest _ st m
  |none=>simp only[bl];rw[DL P need ops rest];simp
section
variable {P:Program} {need:Nat}
theorem oX(t u:Nat)(a:Acc)(l:List (Nat×Acc)):jm t ((u,a)::l)=if t=u then some a else jm t l:=by
 rw[jm]
 by_cases h:t=u
 · subst h;simp
 · have:Nat.beq t u=false:=by
     cases ag:Nat.beq t u with
     |false=>rfl
     |true=>exact absurd (Nat.eq_of_beq_eq_true ag) h
   rw[this,if_neg h]
def Acc.below(m:Nat):Acc->Prop
 |.env j=>j<m
 |_=>True
theorem QM{m:Nat}{env:List J}{r:a0}{v:J}{a:Acc}(h:a.below m):ez (m+1) (v::env) r a=ez m env r a:=by
 cases a with
 |env j=>
  simp only[Acc.below] at h
  have:m+1-1-j=(m-1-j)+1:=by omega
  simp only[ez,this,nth]
 |reg p=>rfl
 |val v=>rfl
theorem QN{m:Nat}{env:List J}{r:a0}{v:J}:ez (m+1) (v::env) r (.env m)=v:=by
 simp[ez,nth]
def DM(m:Nat)(loc:List (Nat×Acc)):Prop:=∀t a,jm t loc=some a->a.below m
theorem AO{m:Nat}{loc:List (Nat×Acc)}(h:DM m loc)(x:Operand):(c_ P need loc x).below m:=by
 cases x with
 |tmp t=>
  simp only[c_]
  cases hf:jm t loc with
  |some a=>exact h t a hf
  |none=>simp only[];cases Nat.testBit need t<;>trivial
 |const v=>trivial
 |global g=>simp only[c_];cases Nat.blt g P.globals.size<;>trivial
 |func f=>trivial
theorem Acc.II{m n:Nat}(h:m<=n){a:Acc}(bl:a.below m):a.below n:=by
 cases a with
 |env j=>exact Nat.lt_of_lt_of_le bl h
 |reg p=>trivial
 |val v=>trivial
structure kh(P:Program)(need:Nat)(μ:bG)(r:a0)(m:Nat)(env:List J)(loc:List (Nat×Acc))(cv:Array Value):Prop where
 vD:DM m loc
 rel:∀t,bn μ (ez m env r (c_ P need loc (.tmp t))) (cv.getD t undef)
theorem kh.mono{μ a4:bG}{r:a0}{m:Nat}{env:List J}{loc:List (Nat×Acc)}{cv:Array Value}(hle:fL μ a4)(h:kh P need μ r m env loc cv):kh P need a4 r m env loc cv:=⟨h.vD,λt=>(h.rel t).mono hle⟩
theorem kh.eval{μ:bG}{r:a0}{m:Nat}{env:List J}{loc:List (Nat×Acc)}{a:Act}(h:kh P need μ r m env loc a.tmps)(au:jt P μ)(x:Operand):bn μ (ez m env r (c_ P need loc x)) (a.eval x):=by
 cases x with
 |tmp t=>exact h.rel t
 |const v=>exact kU μ v
 |global g=>
  simp only[c_,Act.eval]
  cases ag:Nat.blt g P.globals.size with
  |false=>exact trivial
  |true=>
   obtain⟨i,ab,ae,aB⟩:=au g (by simpa using ag)
   obtain⟨ke,i0,AH⟩:=i
   simp only at ae aB
   subst ae;subst aB
   exact⟨_,ab,rfl⟩
 |func f=>exact⟨[],[],rfl,rfl,rfl⟩
theorem kh.init{μ:bG}{r:a0}{cv:Array Value}(h:jP need μ r cv):kh P need μ r 0 [] [] cv:=
 ⟨λt a h=>by simp[jm] at h,λt=>by
  simp only[c_,jm]
  cases ag:Nat.testBit need t with
  |true=>exact h t ag
  |false=>trivial⟩
theorem x1{cv:Array Value}{d t:Nat}{u:Value}(aj:d<cv.size):(cv.setIfInBounds d u).getD t undef=if t=d then u else cv.getD t undef:=by
 simp only[Array.getD_eq_getD_getElem?,Array.getElem?_setIfInBounds]
 by_cases h:d=t
 · subst h;simp[aj]
 · rw[if_neg h,if_neg (λe=>h e.symm)]
theorem kh.alias{μ:bG}{r:a0}{m:Nat}{env:List J}{loc:List (Nat×Acc)}{a:Act}(h:kh P need μ r m env loc a.tmps)(au:jt P μ){t:Nat}(bh:t<a.tmps.size)(x:Operand):
  kh P need μ r m env ((t,c_ P need loc x)::loc) (a.put (some t) (a.eval x)).tmps:=by
 refine⟨λu b hu=>?_,λu=>?_⟩
 · rw[oX] at hu
   split at hu
   · cases hu;exact AO h.vD x
   · exact h.vD u b hu
 · simp only[c_,oX,Act.put]
   rw[x1 bh]
   by_cases e:u=t
   · simp only[e,if_true];exact h.eval au x
   · simp only[e,if_false];exact h.rel u
theorem kh.step{μ:bG}{r:a0}{m:Nat}{env:List J}{loc:List (Nat×Acc)}{a:Act}(h:kh P need μ r m env loc a.tmps){o:Oper}(bh:∀t,o.dst=some t->t<a.tmps.size){v:J}{u:Value}(aJ:bn μ v u):
  kh P need μ r (m+1) (v::env) (mA o m loc) (a.put o.dst u).tmps:=by
 have old:∀t,bn μ (ez (m+1) (v::env) r (c_ P need loc (.tmp t))) (a.tmps.getD t undef):=λt=>by
  rw[QM (AO h.vD _)];exact h.rel t
 unfold mA
 cases aj:o.dst with
 |none=>exact⟨λt b ag=>Acc.II (Nat.le_succ m) (h.vD t b ag),old⟩
 |some d=>
  refine⟨λt b ag=>?_,λt=>?_⟩
  · rw[oX] at ag
    split at ag
    · cases ag;exact Nat.lt_succ_self m
    · exact Acc.II (Nat.le_succ m) (h.vD t b ag)
  · simp only[Act.put]
    rw[x1 (bh d aj)]
    by_cases e:t=d
    · simp only[c_,oX,e,if_true,QN];exact aJ
    · have:=old t
      simp only[c_,oX,e,if_false] at this⊢
      exact this
theorem IJ{ops:Array Oper}{cv:Array Value}{j t:Nat}(h:(ops[j]?).bind (·.dst)=some t):yielded ops cv j=match cv.getD t undef with
  |.bool b=>some b
  |_=>none:=by
 unfold yielded
 rw[h,Option.bind_some]
 rw[Array.getD_eq_getD_getElem?]
 cases ah:cv[t]? with
 |none=>rfl
 |some v=>simp only[Option.getD_some];cases v<;>rfl
theorem QO{μ:bG}{ops:Array Oper}{loc:List (Nat×Acc)}{o:Oper}{acc:Acc->J}{cv:Array Value}(ma:∀t,bn μ (acc (c_ P need loc (.tmp t))) (cv.getD t undef))(pZ:∀v,acc (.val v)=v):
  ∀mc,e_ (match kR P need ops loc o with|none=>none|some (a,b)=>some (acc a,b))=some mc->Region.wanted o (yielded ops cv)=mc:=by
 intro mc h
 unfold kR at h
 unfold Region.wanted
 cases au:o.guard with
 |none=>rw[au] at h;simp only[e_] at h;cases h;rfl
 |some p=>
  obtain⟨j,b⟩:=p
  rw[au] at h
  simp only at h⊢
  cases bh:(ops[j]?).bind (·.dst) with
  |none=>rw[bh] at h;simp only[pZ,e_] at h;cases h
  |some t=>
   rw[bh] at h
   simp only at h
   have al:=ma t
   rw[IJ bh]
   generalize acc (c_ P need loc (.tmp t))=v at h al
   unfold e_ at h
   split at h
   · rename_i he;cases he
   · rename_i he;cases he;cases h
     have DN:cv.getD t undef=_:=al
     rw[DN];rfl
   · rename_i he;cases he;cases h
     obtain⟨l,aD,jT⟩:=al
     cases jT
     rw[aD];rfl
   · cases h
def DO:List Item->Prop
 |.call _ _ _ _::_=>False
 |_=>True
def p0(P:Program)(need cG:Nat)(μ:bG)(r:a0)(H:aa)(w:World)(b:Frame)(k:List Item)(cs0:List Frame)(gP:Machine)(loc:List (Nat×Acc)):m8->Prop
 |.ok env bO bE bf=>∃a4 w' dM b9,Steps P gP (lone (b.atR dM k) b9 w')/\kh P need a4 r env.length env loc dM.tmps/\dM.tmps.size=cG/\bD a4 bf w'/\cw μ H w a4 bf w'/\hr a4 bO dM.defers/\iW a4 b.kind cs0 bE b9
 |.bp v bO bE bf=>∃a4 w' dM b9 u bN,Steps P gP (lone {b.atR dM bN with mode:=.panicking [{v:=u,recovered:=false}]} b9 w')/\DO bN/\bn a4 v u/\
   (∀t,jm t loc=none->Nat.testBit need t=true->bn a4 (r.get (hP t)) (dM.tmps.getD t undef))/\dM.tmps.size=cG/\bD a4 bf w'/\cw μ H w a4 bf w'/\hr a4 bO dM.defers/\iW a4 b.kind cs0 bE b9
 |.fail _=>True
theorem p0.of_steps{cG:Nat}{μ im:bG}{r:a0}{H H1:aa}{w bR:World}{b:Frame}{k:List Item}{cs0:List Frame}{gP c9:Machine}{loc:List (Nat×Acc)}{x:m8}(ah:bD μ H w)(h7:bD im H1 bR)(h:Steps P gP c9)(bl:cw μ H w im H1 bR)
  (ab:p0 P need cG im r H1 bR b k cs0 c9 loc x):p0 P need cG μ r H w b k cs0 gP loc x:=by
 cases x with
 |ok env d q bf=>
  obtain⟨a4,w',dM,b9,s1,s2,ck,b6,cW,dO⟩:=ab
  exact⟨a4,w',dM,b9,h.trans s1,s2,ck,b6,cw.trans ah h7 bl cW,dO⟩
 |bp v d q bf=>
  obtain⟨a4,w',dM,b9,u,bN,s1,s0,s2,ck,b6,cW,dO,e2⟩:=ab
  exact⟨a4,w',dM,b9,u,bN,h.trans s1,s0,s2,ck,b6,cW,cw.trans ah h7 bl dO,e2⟩
 |fail s=>trivial
theorem DP{ops:Array Oper}:∀(l:List Oper) (loc:List (Nat×Acc)) (m t:Nat),jm t (pY P need ops l loc m)=none->jm t loc=none
 |[],loc,m,t,h=>h
 |o::rest,loc,m,t,h=>by
  unfold pY at h
  cases bl:aliasOf o with
  |some p=>
   obtain⟨u,x⟩:=p
   rw[bl] at h
   have:=DP rest _ m t h
   rw[oX] at this
   split at this
   · cases this
   · exact this
  |none=>
   rw[bl] at h
   have:=DP rest _ _ t h
   unfold mA at this
   split at this
   · rw[oX] at this
     split at this
     · cases this
     · exact this
   · exact this
theorem QP{o:Oper}{t:Nat}{x:Operand}(h:aliasOf o=some (t,x)):o.guard=none/\o.dst=some t/\∀cH,execOp cH o=pure (.value (cH x)):=by
 unfold aliasOf at h
 split at h
 · rename_i ab ae aB;cases h;exact⟨ab,ae,λcH=>by simp[execOp,aB]⟩
 · rename_i ab ae aB;cases h;exact⟨ab,ae,λcH=>by simp[execOp,aB]⟩
 · cases h
theorem AP(a:Act)(dst:Option Tmp)(u:Value):(a.put dst u).tmps.size=a.tmps.size:=by cases dst<;>simp[Act.put]
theorem DQ{call:aE->List J->aa->ao}(ai:mL P call){cG:Nat}{ops:Array Oper}(p1:∀o∈ops.toList,∀t,o.dst=some t->t<cG){b:Frame}{inR:Bool}(eV:inR=b.roundOf.isSome){r:a0}{k:List Item}{cs0:List Frame}:
  ∀(l:List Oper) (i0:Nat) (loc:List (Nat×Acc)) (m:Nat) (env:List J) (d:List bU) (q:bH) (μ:bG) (H:aa) (w:World) (a:Act) (cs:List Frame),ops.toList.drop i0=l->env.length=m->
   kh P need μ r m env loc a.tmps->a.tmps.size=cG->bD μ H w->jt P μ->hr μ d a.defers->iW μ b.kind cs0 q cs->
   p0 P need cG μ r H w b k cs0 (lone (b.atR a (.inRegion ops (List.range' i0 l.length)::k)) cs w) (pY P need ops l loc m) (kS P need inR call r (se P need ops l loc m) env d q H)
 |[],i0,loc,m,env,d,q,μ,H,w,a,cs,aD,hm,tz,bX,ah,au,aj,aS=>by
  subst hm
  exact⟨μ,w,a,cs,.one stepR_region_end,tz,bX,ah,cw.refl _ _ _,aj,aS⟩
 |o::rest,i0,loc,m,env,d,q,μ,H,w,a,cs,aD,hm,tz,bX,ah,au,aj,aS=>by
  have a7:ops[i0]? =some o:=by
   have:=congrArg List.head? aD
   simpa[List.head?_drop] using this
  have rW:ops.toList.drop (i0+1)=rest:=by
   have:=congrArg List.tail aD
   simpa[List.tail_drop] using this
  have nh:o∈ops.toList:=by
   rw[<-Array.getElem?_toList] at a7
   exact List.mem_of_getElem? a7
  have IK:∀t,o.dst=some t->t<a.tmps.size:=λt h=>by rw[bX];exact p1 o nh t h
  rw[List.length_cons,List.range'_succ]
  unfold se pY
  cases bl:aliasOf o with
  |some p=>
   obtain⟨t,x⟩:=p
   simp only
   obtain⟨dG,eJ,h8⟩:=QP bl
   have hw:Region.wanted o (yielded ops a.tmps)=true:=by simp[Region.wanted,dG]
   have cL:=stepGR_op (P:=P) (b:=b) (a:=a) (k:=k) (cs:=cs) (w:=w) (rest:=List.range' (i0+1) rest.length) a7 hw
   have xY:o.semAt b.roundOf a.eval=execOp a.eval o:=by
    refine Oper.semAt_eq _ _ _ λc e=>?_
    have:=h8 a.eval
    unfold aliasOf at bl
    rw[e] at bl
    split at bl
    · rename_i h;cases h
    · rename_i h;cases h
    · cases bl
   rw[xY] at cL
   obtain⟨aq,_⟩:=DG cL
   have hs:=aq (a.eval x) w (by rw[h8];rfl)
   have oW:(b.atR a (.inRegion ops (i0::List.range' (i0+1) rest.length)::k)).finish (a.eval x)=b.atR (a.put (some t) (a.eval x)) (.inRegion ops (List.range' (i0+1) rest.length)::k):=by
    rw[Frame.finish_atR,a7]
    simp only[Option.bind_some,eJ]
   rw[oW] at hs
   have bt:=DQ (k:=k) ai p1 eV rest (i0+1) ((t,c_ P need loc x)::loc) m env d q μ H w (a.put (some t) (a.eval x)) cs rW hm (tz.alias au (IK t eJ) x) ((AP _ _ _).trans bX) ah au (by rw[put_defers];exact aj) aS
   exact bt.of_steps ah ah hs (cw.refl _ _ _)
  |none=>
   simp only[kS]
   have hd:=IF (P:=P) ai ah au (b:=b) (a:=a) (ops:=ops) (i:=i0) (rest:=List.range' (i0+1) rest.length) (k:=k) (cs0:=cs0) (cs:=cs) a7 (gd:=match kR P need ops loc o with|none=>none|some (x,c)=>some (ez m env r x,c))
    (QO (acc:=ez m env r) tz.rel (λv=>rfl)) (g:=λx=>ez m env r (c_ P need loc x)) (λx=>tz.eval au x) aj aS eV
   generalize eA P inR call (match kR P need ops loc o with|none=>none|some (x,c)=>some (ez m env r x,c)) o (λx=>ez m env r (c_ P need loc x)) d q H=res at hd⊢
   cases res with
   |ok v bO bE bf=>
    obtain⟨a4,w',u,nf,b9,s1,s2,ck,b6,cW,dO⟩:=hd
    have QQ:=(tz.mono b6.le).step (a:=a) (o:=o) IK s2
    have bt:=DQ (k:=k) ai p1 eV rest (i0+1) (mA o m loc) (m+1) (v::env) bO bE a4 bf w' {tmps:=(a.put o.dst u).tmps,defers:=nf} b9 rW (by simp[hm]) QQ ((AP _ _ _).trans bX) ck (au.mono b6.le) cW dO
    exact bt.of_steps ah ck s1 b6
   |bp v bO bE bf=>
    obtain⟨a4,w',u,s1,s2,ck,b6,cW,dO⟩:=hd
    refine⟨a4,w',a,cs,u,_,s1,trivial,s2,λt bh aM=>?_,bX,ck,b6,cW,dO⟩
    have az:=DP (P:=P) (need:=need) (ops:=ops) rest _ _ t bh
    have ab:jm t loc=none:=by
     unfold mA at az
     split at az
     · rw[oX] at az
       split at az
       · cases az
       · exact az
     · exact az
    have:=(tz.mono b6.le).rel t
    simp only[c_,ab,aM,ez] at this
    exact this
   |fail s=>trivial
end
end aC
namespace aC
open Go
section
variable {P:Program} {need:Nat}
theorem IL(need m:Nat)(env:List J)(gw:a0):∀(loc:List (Nat×Acc)) (r:a0) (t:Nat),Nat.testBit need t=true->
  (qH need m env gw loc r).get (hP t)=match jm t loc with|some a=>ez m env gw a|none=>r.get (hP t)
 |[],r,t,bh=>rfl
 |(u,a)::l,r,t,bh=>by
  rw[oX]
  simp only[qH]
  by_cases e:t=u
  · subst e
    simp only[bh,if_true,a0.bV]
  · have bt:=IL need m env gw l r t bh
    cases hu:Nat.testBit need u with
    |true=>simp only[a0.bV,if_neg e,bt]
    |false=>simp only[if_neg e,bt]
theorem IM:∀(loc:List (Nat×Acc)) (r:a0) (t:Nat),(vj loc r).get (hP t)=match jm t loc with|some a=>.bad|none=>r.get (hP t)
 |[],r,t=>rfl
 |(u,a)::l,r,t=>by
  rw[oX]
  simp only[vj,a0.bV]
  by_cases e:t=u
  · simp only[e,if_true]
  · simp only[if_neg e,IM l r t]
theorem kh.outs{μ:bG}{r:a0}{m:Nat}{env:List J}{loc:List (Nat×Acc)}{cv:Array Value}(h:kh P need μ r m env loc cv):jP need μ (qH need m env r loc r) cv:=by
 intro t bh
 rw[IL need m env r loc r t bh]
 have:=h.rel t
 simp only[c_,bh] at this
 cases hf:jm t loc with
 |some a=>rw[hf] at this;exact this
 |none=>rw[hf] at this;exact this
theorem tA{e:bA}{r:a0}{d:List bU}{q:bH}{h:aa}{f:a0->List bU->bH->aa->ka}(he:e≠ .nrm):qJ (.ok e r d q h) f=.ok e r d q h:=by
 cases e<;>first|rfl|exact absurd rfl he
def sf(P:Program)(μ:bG)(gP:Machine)(b:Frame)(k:List Item)(cs:List Frame)(a:Act)(w:World):bA->Prop
 |.nrm=>Steps P gP (lone (b.atR a k) cs w)
 |.exit id=>∃bN,exitTo id bN=exitTo id k/\Steps P gP (lone (b.atR a (.code (.exit id)::bN)) cs w)
 |.ret=>∃bN,Steps P gP (lone (b.atR a (.code .ret::bN)) cs w)
 |.goto _=>False
 |.bp v=>∃bN u,(bn μ v u/\DO bN)/\Steps P gP (lone {b.atR a bN with mode:=.panicking [{v:=u,recovered:=false}]} cs w)
theorem sf.of_steps{μ:bG}{gP c9:Machine}{b:Frame}{k:List Item}{cs:List Frame}{a:Act}{w:World}{e:bA}(h:Steps P gP c9)(an:sf P μ c9 b k cs a w e):sf P μ gP b k cs a w e:=by
 cases e with
 |nrm=>exact h.trans an
 |exit id=>obtain⟨bN,ab,ae⟩:=an;exact⟨bN,ab,h.trans ae⟩
 |ret=>obtain⟨bN,ae⟩:=an;exact⟨bN,h.trans ae⟩
 |goto l=>exact an
 |bp v=>obtain⟨bN,u,ab,ae⟩:=an;exact⟨bN,u,ab,h.trans ae⟩
theorem sf.pass{μ:bG}{gP:Machine}{b:Frame}{x:Item}{k:List Item}{cs:List Frame}{a:Act}{w:World}{e:bA}(ad:∀id,x≠ .inBlock id)(he:e≠ .nrm)(h:sf P μ gP b (x::k) cs a w e):sf P μ gP b k cs a w e:=by
 cases e with
 |nrm=>exact absurd rfl he
 |exit id=>
  obtain⟨bN,ab,ae⟩:=h
  refine⟨bN,ab.trans ?_,ae⟩
  cases x<;>first|rfl|exact absurd rfl (ad _)
 |ret=>exact h
 |goto l=>exact h
 |bp v=>exact h
def n2(P:Program)(need cG:Nat)(μ:bG)(H:aa)(w:World)(b:Frame)(k:List Item)(cs0:List Frame)(gP:Machine):ka->Prop
 |.ok e r' bO bE bf=>∃a4 w' dM b9,sf P a4 gP b k b9 dM w' e/\jP need a4 r' dM.tmps/\dM.tmps.size=cG/\bD a4 bf w'/\cw μ H w a4 bf w'/\hr a4 bO dM.defers/\iW a4 b.kind cs0 bE b9
 |.fail _=>True
theorem n2.of_steps{cG:Nat}{μ im:bG}{H H1:aa}{w bR:World}{b:Frame}{k:List Item}{cs0:List Frame}{gP c9:Machine}{x:ka}(ah:bD μ H w)(h7:bD im H1 bR)(h:Steps P gP c9)(bl:cw μ H w im H1 bR)
  (ab:n2 P need cG im H1 bR b k cs0 c9 x):n2 P need cG μ H w b k cs0 gP x:=by
 cases x with
 |ok e r d q bf=>
  obtain⟨a4,w',dM,b9,s1,s2,ck,b6,cW,dO⟩:=ab
  exact⟨a4,w',dM,b9,s1.of_steps h,s2,ck,b6,cw.trans ah h7 bl cW,dO⟩
 |fail s=>trivial
def oY(μ:bG)(b:Frame):Option Nat->Prop
 |none=>b.roundOf=none
 |some l=>∃i,μ l=some i/\b.roundOf=some i.bo
theorem oY.mono{μ a4:bG}(hle:fL μ a4){b:Frame}{rd:Option Nat}(h:oY μ b rd):oY a4 b rd:=by
 cases rd with
 |none=>exact h
 |some l=>obtain⟨i,ab,ae⟩:=h;exact⟨i,hle _ _ ab,ae⟩
theorem oY.isSome{μ:bG}{b:Frame}{rd:Option Nat}(h:oY μ b rd):rd.isSome=b.roundOf.isSome:=by
 cases rd with
 |none=>have:b.roundOf=none:=h;simp[this]
 |some l=>obtain⟨i,ab,ae⟩:=h;simp[ae]
def sg(P:Program)(need cG:Nat)(call:aE->List J->aa->ao):Prop:=
 ∀(ops:Array Oper) (id:Nat),(∀o∈ops.toList,∀t,o.dst=some t->t<cG)->qM ops (fK ops.toList 0 [] [])=true->
  ∀(b:Frame) (inR:Bool) (r:a0) (d:List bU) (q:bH) (H:aa) (μ:bG) (w:World) (a:Act) (k:List Item) (cs0 cs:List Frame),inR=b.roundOf.isSome->jP need μ r a.tmps->a.tmps.size=cG->bD μ H w->jt P μ->hr μ d a.defers->iW μ b.kind cs0 q cs->
   p0 P need cG μ r H w b k cs0 (lone (b.atR a (.code (.region id ops true)::k)) cs w) (jC ops.toList 0 []) (tc P need inR call ops r d q H)
def IN(P:Program)(need cG:Nat)(call:aE->List J->aa->ao):Prop:=
 ∀(f:Operand) (ps:Array Nat) (as cr:Code),jD cG (.rangeFunc f ps as cr)=true->∀(b:Frame) (rd:Option Nat) (r:a0) (d:List bU) (q:bH) (H:aa) (μ:bG) (w:World) (a:Act) (k:List Item) (cs0 cs:List Frame),oY μ b rd->jP need μ r a.tmps->a.tmps.size=cG->bD μ H w->jt P μ->hr μ d a.defers->iW μ b.kind cs0 q cs->
  n2 P need cG μ H w b k cs0 (lone (b.atR a (.code (.rangeFunc f ps as cr)::k)) cs w) (ea P need rd call (.rangeFunc f ps as cr) r d q H)
theorem QR{b:Frame}{a:Act}{c:Code}{k:List Item}{cs:List Frame}{w:World}:step P (lone (b.atR a (.inScope c::k)) cs w)=.next (lone (b.atR a k) cs w):=
 step_lone_go (by simp[stepG,stepG.exec,Frame.atR])
theorem IP{b:Frame}{a:Act}{c:Code}{k:List Item}{cs:List Frame}{w:World}:step P (lone (b.atR a (.code (.scope c)::k)) cs w)=.next (lone (b.atR a (.code c::.inScope c::k)) cs w):=
 step_lone_go (by simp[stepG,stepG.exec,Frame.atR])
theorem p0.code{cG:Nat}{μ:bG}{r:a0}{H:aa}{w:World}{b:Frame}{k:List Item}{cs0:List Frame}{gP:Machine}{loc:List (Nat×Acc)}{x:m8}(h:p0 P need cG μ r H w b k cs0 gP loc x):
  n2 P need cG μ H w b k cs0 gP (qI need r loc x):=by
 cases x with
 |ok env d q bf=>
  obtain⟨a4,w',dM,b9,s1,s2,ck,b6,cW,dO⟩:=h
  exact⟨a4,w',dM,b9,s1,s2.outs,ck,b6,cW,dO⟩
 |bp v d q bf=>
  obtain⟨a4,w',dM,b9,u,bN,s1,s0,s2,ck,b6,cW,dO,e2⟩:=h
  refine⟨a4,w',dM,b9,⟨bN,u,⟨s2,s0⟩,s1⟩,λt bh=>?_,b6,cW,dO,e2⟩
  rw[IM]
  cases hf:jm t loc with
  |some x=>trivial
  |none=>exact ck t hf bh
 |fail s=>trivial
def IQ(P:Program)(need cG:Nat)(call:aE->List J->aa->ao)(rd:Option Nat)(c:Code):Prop:=
 ∀(b:Frame) (r:a0) (d:List bU) (q:bH) (H:aa) (μ:bG) (w:World) (a:Act) (k:List Item) (cs0 cs:List Frame),oY μ b rd->jP need μ r a.tmps->a.tmps.size=cG->bD μ H w->jt P μ->hr μ d a.defers->iW μ b.kind cs0 q cs->
  n2 P need cG μ H w b k cs0 (lone (b.atR a (.code c::k)) cs w) (ea P need rd call c r d q H)
theorem IS{cG:Nat}{call:aE->List J->aa->ao}{rd:Option Nat}{c:Code}(kV:IQ P need cG call rd c)(b:Frame)(k:List Item)(cs0:List Frame):∀(n:Nat) (r:a0) (d:List bU) (q:bH) (H:aa) (μ:bG) (w:World) (a:Act) (cs:List Frame),oY μ b rd->jP need μ r a.tmps->a.tmps.size=cG->bD μ H w->jt P μ->hr μ d a.defers->iW μ b.kind cs0 q cs->
  n2 P need cG μ H w b k cs0 (lone (b.atR a (.code c::.inLoop c::k)) cs w) (pF (ea P need rd call c) n r d q H)
 |0,r,d,q,H,μ,w,a,cs,dA,al,bX,ah,au,aj,aS=>trivial
 |n+1,r,d,q,H,μ,w,a,cs,dA,al,bX,ah,au,aj,aS=>by
  have ab:=kV b r d q H μ w a (.inLoop c::k) cs0 cs dA al bX ah au aj aS
  unfold pF
  cases ad:ea P need rd call c r d q H with
  |fail s=>trivial
  |ok e r' bO bE bf=>
   rw[ad] at ab
   obtain⟨a4,w',dM,b9,s1,s2,ck,b6,cW,dO,e2⟩:=ab
   by_cases he:e=.nrm
   · subst he
     have bt:=IS kV b k cs0 n r' bO bE bf a4 w' dM b9 (dA.mono cW.le) s2 ck b6 (au.mono cW.le) dO e2
     exact bt.of_steps ah b6 (Steps.trans s1 (.one stepR_inLoop)) cW
   · rw[tA he]
     exact⟨a4,w',dM,b9,s1.pass (λid h=>by cases h) he,s2,ck,b6,cW,dO,e2⟩
theorem p2{cG:Nat}{call:aE->List J->aa->ao}(ai:mL P call)(hdr:sg P need cG call)(nZ:IN P need cG call)(rd:Option Nat):∀(c:Code),jD cG c=true->IQ P need cG call rd c
 |.skip,_=>λb r d q H μ w a k cs0 cs dA al bX ah au aj aS=>⟨μ,w,a,cs,.one stepR_skip,al,bX,ah,cw.refl _ _ _,aj,aS⟩
 |.label l,_=>λb r d q H μ w a k cs0 cs dA al bX ah au aj aS=>⟨μ,w,a,cs,.one stepR_label,al,bX,ah,cw.refl _ _ _,aj,aS⟩
 |.exit id,_=>λb r d q H μ w a k cs0 cs dA al bX ah au aj aS=>⟨μ,w,a,cs,⟨k,rfl,Steps.refl _ _⟩,al,bX,ah,cw.refl _ _ _,aj,aS⟩
 |.ret,_=>λb r d q H μ w a k cs0 cs dA al bX ah au aj aS=>⟨μ,w,a,cs,⟨k,Steps.refl _ _⟩,al,bX,ah,cw.refl _ _ _,aj,aS⟩
 |.goto l,_=>λb r d q H μ w a k cs0 cs dA al bX ah au aj aS=>trivial
 |.refuse s,_=>λb r d q H μ w a k cs0 cs dA al bX ah au aj aS=>trivial
 |.region id ops draw,cp=>λb r d q H μ w a k cs0 cs dA al bX ah au aj aS=>by
  simp only[jD,Bool.and_eq_true,List.all_eq_true] at cp
  have p1:∀o∈ops.toList,∀t,o.dst=some t->t<cG:=λo a7 t bh=>by
   have:=cp.1 o a7
   rw[bh] at this
   simpa using this
  cases draw with
  |false=>
   have h:=DQ (P:=P) (need:=need) (k:=k) ai p1 (b:=b) (inR:=rd.isSome) dA.isSome (r:=r) (cs0:=cs0) ops.toList 0 [] 0 [] d q μ H w a cs rfl rfl (kh.init al) bX ah au aj aS
   have aD:List.range' 0 ops.toList.length=List.range ops.size:=by rw[List.range_eq_range'];simp
   rw[aD] at h
   have ae:=p0.code h
   have kW:pE P need ops=⟨se P need ops ops.toList [] 0,pY P need ops ops.toList [] 0⟩:=by
    unfold pE;rw[DL];simp
   simp only[ea,kW]
   exact n2.of_steps ah ah (.one stepR_region) (cw.refl _ _ _) ae
  |true=>
   have IT:qM ops (fK ops.toList 0 [] [])=true:=by simpa using cp.2
   have h:=hdr ops id p1 IT b rd.isSome r d q H μ w a k cs0 cs dA.isSome al bX ah au aj aS
   simp only[ea]
   exact p0.code h
 |.seq x y,cp=>λb r d q H μ w a k cs0 cs dA al bX ah au aj aS=>by
  simp only[jD,Bool.and_eq_true] at cp
  have ab:=p2 ai hdr nZ rd x cp.1 b r d q H μ w a (.code y::k) cs0 cs dA al bX ah au aj aS
  simp only[ea]
  cases ad:ea P need rd call x r d q H with
  |fail s=>trivial
  |ok e r' bO bE bf=>
   rw[ad] at ab
   obtain⟨a4,w',dM,b9,s1,s2,ck,b6,cW,dO,e2⟩:=ab
   by_cases he:e=.nrm
   · subst he
     have ae:=p2 ai hdr nZ rd y cp.2 b r' bO bE bf a4 w' dM k cs0 b9 (dA.mono cW.le) s2 ck b6 (au.mono cW.le) dO e2
     exact ae.of_steps ah b6 (Steps.head stepR_seq s1) cW
   · rw[tA he]
     exact⟨a4,w',dM,b9,(s1.pass (λid h=>by cases h) he).of_steps (.one stepR_seq),s2,ck,b6,cW,dO,e2⟩
 |.cond c x y,cp=>λb r d q H μ w a k cs0 cs dA al bX ah au aj aS=>by
  simp only[jD,Bool.and_eq_true] at cp
  simp only[ea]
  have hc:=(kh.init (P:=P) al).eval (a:=a) au c
  split
  · rename_i kx
    rw[kx] at hc
    have h:=p2 ai hdr nZ rd x cp.1 b r d q H μ w a k cs0 cs dA al bX ah au aj aS
    exact h.of_steps ah ah (.one (stepR_cond (t:=true) hc)) (cw.refl _ _ _)
  · rename_i kx
    rw[kx] at hc
    have h:=p2 ai hdr nZ rd y cp.2 b r d q H μ w a k cs0 cs dA al bX ah au aj aS
    exact h.of_steps ah ah (.one (stepR_cond (t:=false) hc)) (cw.refl _ _ _)
  · trivial
 |.block id c,cp=>λb r d q H μ w a k cs0 cs dA al bX ah au aj aS=>by
  have ab:=p2 ai hdr nZ rd c cp b r d q H μ w a (.inBlock id::k) cs0 cs dA al bX ah au aj aS
  simp only[ea]
  cases ad:ea P need rd call c r d q H with
  |fail s=>trivial
  |ok e r' bO bE bf=>
   rw[ad] at ab
   obtain⟨a4,w',dM,b9,s1,s2,ck,b6,cW,dO,e2⟩:=ab
   cases e with
   |nrm=>exact⟨a4,w',dM,b9,Steps.head stepR_block (Steps.trans s1 (.one stepR_inBlock)),s2,ck,b6,cW,dO,e2⟩
   |exit i=>
    obtain⟨bN,aF,aG⟩:=s1
    by_cases AQ:i=id
    · simp only[AQ,if_true]
      subst AQ
      have bJ:exitTo i bN=some k:=by rw[aF];simp[exitTo]
      exact⟨a4,w',dM,b9,Steps.head stepR_block (Steps.trans aG (.one (stepR_exit bJ))),s2,ck,b6,cW,dO,e2⟩
    · simp only[if_neg AQ]
      have:(id==i)=false:=by simp;exactλh=>AQ h.symm
      exact⟨a4,w',dM,b9,⟨bN,aF.trans (by simp[exitTo,this]),Steps.head stepR_block aG⟩,s2,ck,b6,cW,dO,e2⟩
   |ret=>obtain⟨bN,aG⟩:=s1;exact⟨a4,w',dM,b9,⟨bN,Steps.head stepR_block aG⟩,s2,ck,b6,cW,dO,e2⟩
   |goto l=>exact s1.elim
   |bp v=>obtain⟨bN,u,aF,aG⟩:=s1;exact⟨a4,w',dM,b9,⟨bN,u,aF,Steps.head stepR_block aG⟩,s2,ck,b6,cW,dO,e2⟩
 |.loop c,cp=>λb r d q H μ w a k cs0 cs dA al bX ah au aj aS=>by
  have h:=IS (p2 ai hdr nZ rd c cp) b k cs0 100000 r d q H μ w a cs dA al bX ah au aj aS
  simp only[ea]
  exact h.of_steps ah ah (.one stepR_loop) (cw.refl _ _ _)
 |.scope c,cp=>λb r d q H μ w a k cs0 cs dA al bX ah au aj aS=>by
  have ab:=p2 ai hdr nZ rd c cp b r d q H μ w a (.inScope c::k) cs0 cs dA al bX ah au aj aS
  simp only[ea]
  cases ad:ea P need rd call c r d q H with
  |fail s=>trivial
  |ok e r' bO bE bf=>
   rw[ad] at ab
   obtain⟨a4,w',dM,b9,s1,s2,ck,b6,cW,dO,e2⟩:=ab
   by_cases he:e=.nrm
   · subst he
     exact⟨a4,w',dM,b9,Steps.head IP (Steps.trans s1 (.one QR)),s2,ck,b6,cW,dO,e2⟩
   · exact⟨a4,w',dM,b9,(s1.pass (λid h=>by cases h) he).of_steps (.one IP),s2,ck,b6,cW,dO,e2⟩
 |.rangeFunc f ps as cr,cp=>λb r d q H μ w a k cs0 cs dA al bX ah au aj aS=>nZ f ps as cr cp b rd r d q H μ w a k cs0 cs dA al bX ah au aj aS
end
end aC
namespace aC
open Go
section
variable {P:Program} {need:Nat}
theorem QS{w cX:World}{cs:List Frame}{b:Frame}{a:Act}{l:Nat}{k:List Item}{s:Sem Next}{AR:Frame}
  (cL:(stepG P true {frame:=AR,callers:=cs,status:=.running,dying:=none} cX).bare=(stepG.apply P true (b.atR a (.inRangeFunc l::k)) cs none s w).bare):
  (∀v w',s.run P w=.ok (.value v) w'->Steps P (lone AR cs cX) (lone ((b.atR a (.inRangeFunc l::k)).finish v) cs w'))/\
  (∀f args w',s.run P w=.ok (.enter f args) w'->Steps P (lone AR cs cX) (lone (Frame.enter P f args .normal) (b.atR a (.inRangeFunc l::k)::cs) w'))/\
  (∀pV f tmps assign body w',s.run P w=.ok (.round pV f tmps assign body) w'->Steps P (lone AR cs cX) (lone (Frame.round pV f tmps assign body .normal) (b.atR a (.inRangeFunc l::k)::cs) w')):=by
 refine⟨λv w' al=>.one (step_lone_go ?_),λf args w' al=>.one (step_lone_go ?_),λl f tmps assign body w' al=>.one (step_lone_go ?_)⟩
 · rw[cL];simp[stepG.apply,al]
 · rw[cL];simp[stepG.apply,al,Frame.atR]
 · rw[cL];simp[stepG.apply,al]
theorem QT{b:Frame}{a:Act}{f:Operand}{ps:Array Nat}{as cr:Code}{k:List Item}{cs:List Frame}{w bR:World}{l:Nat}{mark:List Deferred}(he:(Instr.enterLoop b.fn a.tmps ps as cr b.roundOf).run P w=.ok (l,mark) bR):
  (stepG P true {frame:=b.atR a (.code (.rangeFunc f ps as cr)::k),callers:=cs,status:=.running,dying:=none} w).bare=
   (stepG.apply P true (b.atR {tmps:=a.tmps,defers:=mark++a.defers} (.inRangeFunc l::k)) cs none (do let d<-Deferred.ofValue (a.eval f) #[.func (.yield l) #[] #[]];invoke d.target d.args) bR).bare:=by
 have AS:=Frame.eval_atR b {tmps:=a.tmps,defers:=mark++a.defers} (.inRangeFunc l::k)
 simp only[Frame.atR] at AS
 have QU:({tmps:=a.tmps,defers:=mark++a.defers}:Act).eval=a.eval:=funext λx=>by cases x<;>rfl
 simp only[stepG,stepG.exec,Frame.atR,Sem.runT_eq,he,GStep.bare_after]
 have QV:resolve a.eval {callee:=.value f,args:=#[.const (.func (.yield l) #[] #[])],argTypes:=#[]} 0=Deferred.ofValue (a.eval f) #[.func (.yield l) #[] #[]]:=by simp[resolve,Act.eval]
 rw[AS,QU,QV]
theorem QW{b:Frame}{a:Act}{l:Nat}{k:List Item}{cs:List Frame}{w w':World}{n3:Option Code}(he:(Instr.endLoop l).run P w=.ok n3 w'):
  step P (lone (b.atR a (.endRangeFunc l::k)) cs w)=.next (lone (b.atR a ((n3.map Item.code).toList++k)) cs w'):=
 step_lone_go (by simp[stepG,stepG.exec,Frame.atR,Sem.runT_eq,he])
theorem QX{cG:Nat}{b:Frame}{a:Act}{r:a0}{ps:Array Nat}{as cr:Code}(cp:jD cG as=true/\jD cG cr=true/\∀t∈ps.toList,t<cG){μ:bG}{H:aa}{w:World}{rd:Option Nat}(dA:oY μ b rd)(al:jP need μ r a.tmps)(bX:a.tmps.size=cG)(ah:bD μ H w)
  {d:List bU}(aj:hr μ d a.defers){l:Nat}{bO:List bU}{H1:aa}
  (aD:l=oG rd H.n)(he:xv need rd r ps.toList as cr d H=some (bO,H1)):
  ∃a4 w' mark i,(Instr.enterLoop b.fn a.tmps ps as cr b.roundOf).run P w=.ok (i.bo,mark) w'/\a4 l=some i/\bD a4 H1 w'/\cw μ H w a4 H1 w'/\hr a4 bO (mark++a.defers):=by
 subst bX
 unfold oG at aD
 unfold xv at he
 cases rd with
 |none=>
  have ag:b.roundOf=none:=dA
  cases he
  obtain⟨bq,a9⟩:=ah.alloc (.defrd (some [])) (.deferred (some [])) 0 ⟨[],World.heap_alloc_new _ _,rfl⟩
  have hu:gX μ H.n ⟨w.heap.size,0,0⟩ H.n=some ⟨w.heap.size,0,0⟩:=gY _ _ _
  have AT:=bq.oN ⟨(w.alloc (.deferred (some []))).heap.size,0,0⟩
  obtain⟨aY,aR⟩:=bq.alloc (.loop .ready none need r ps.toList as cr H.n) (.loop {state:=.ready,pending:=none,fn:=b.fn,tmps:=a.tmps,params:=ps,assign:=as,body:=cr,defers:=w.heap.size}) 0
   ⟨a.tmps,⟨w.heap.size,0,0⟩,b.fn,AT _ _ hu,World.heap_alloc_new _ _,al.mono (a9.le.trans AT),cp.1,cp.2.1,cp.2.2⟩
  refine⟨_,_,[{target:=.collected w.heap.size,args:=#[]}],⟨(w.alloc (.deferred (some []))).heap.size,0,0⟩,?_,?_,aY,cw.trans ah bq a9 aR,⟨_,_,rfl,.collected _ ⟨w.heap.size,0,0⟩ (AT _ _ hu),aj.mono (a9.le.trans AT)⟩⟩
  · rw[ag]
    simp only[Instr.enterLoop,Sem.run_bind,run_newObj,Result.andThen_ok,Sem.run_pure]
    rfl
  · rw[aD];exact gY _ _ _
 |some C3=>
  obtain⟨j,aV,ag⟩:=dA
  simp only at aD he
  subst aD
  cases au:H.get C3 with
  |none=>rw[au] at he;cases he
  |some DR=>
  rw[au] at he
  cases DR<;>try (cases he;done)
  case loop p3 IU ab_ aca IV IW IX eU=>
   cases he
   obtain⟨cv,il,fn,aF,aG,_⟩:=ah.rel _ _ j au aV
   have hle:=ah.oN ⟨w.heap.size,0,0⟩
   obtain⟨aY,aR⟩:=ah.alloc (.loop .ready none need r ps.toList as cr eU) (.loop {state:=.ready,pending:=none,fn:=b.fn,tmps:=a.tmps,params:=ps,assign:=as,body:=cr,defers:=il.bo}) 0
    ⟨a.tmps,il,b.fn,hle _ _ aF,World.heap_alloc_new _ _,al.mono hle,cp.1,cp.2.1,cp.2.2⟩
   refine⟨_,_,[],⟨w.heap.size,0,0⟩,?_,?_,aY,aR,aj.mono hle⟩
   · rw[ag]
     have pX:(Instr.getLoop j.bo).run P w=.ok {state:=p3,pending:=IU,fn:=fn,tmps:=cv,params:=⟨IV⟩,assign:=IW,body:=IX,defers:=il.bo} w:=by
      have:(getObj j.bo).run P w=.ok (.loop {state:=p3,pending:=IU,fn:=fn,tmps:=cv,params:=⟨IV⟩,assign:=IW,body:=IX,defers:=il.bo}) w:=by simp[getObj,Sem.run,aG]
      simp only[Instr.getLoop,Sem.run_bind,this];rfl
     simp only[Instr.enterLoop,Sem.run_bind,pX,Result.andThen_ok,Sem.run_pure,run_newObj]
     rfl
   · exact gY _ _ _
theorem QY{μ:bG}{H:aa}{w:World}(ah:bD μ H w){l:Nat}{i:h3}(aD:μ l=some i){st:LoopState}{gJ:Option Code}{c6:Nat}{rg:a0}{ps:List Nat}{as cr:Code}{eU:Nat}(au:H.get l=some (.loop st gJ c6 rg ps as cr eU))(cL:st≠ .busy):
  ∃w',(Instr.endLoop i.bo).run P w=.ok gJ w'/\bD μ (H.set l (some (.loop .exhausted gJ c6 rg ps as cr eU))) w'/\cw μ H w μ (H.set l (some (.loop .exhausted gJ c6 rg ps as cr eU))) w':=by
 obtain⟨cv,il,fn,aF,aG,bJ⟩:=ah.rel _ _ i au aD
 have cB:=(ah.lt _ _ aD).2
 obtain⟨bq,a9⟩:=ah.update (w':={w with heap:=w.heap.setIfInBounds i.bo (.loop {state:=.exhausted,pending:=gJ,fn:=fn,tmps:=cv,params:=⟨ps⟩,assign:=as,body:=cr,defers:=il.bo})}) (o':=.loop .exhausted gJ c6 rg ps as cr eU) au rfl aD (by simp) (λr al=>by simp[Array.getElem?_setIfInBounds];intro e;exact absurd e.symm al) rfl rfl rfl
  ⟨cv,il,fn,aF,by simp[cB],bJ⟩
 refine⟨_,?_,bq,a9⟩
 have h_:(getObj i.bo).run P w=.ok (.loop {state:=st,pending:=gJ,fn:=fn,tmps:=cv,params:=⟨ps⟩,assign:=as,body:=cr,defers:=il.bo}) w:=by simp[getObj,Sem.run,aG]
 have fT:(setObj i.bo (.loop {state:=.exhausted,pending:=gJ,fn:=fn,tmps:=cv,params:=⟨ps⟩,assign:=as,body:=cr,defers:=il.bo})).run P w=.ok () {w with heap:=w.heap.setIfInBounds i.bo (.loop {state:=.exhausted,pending:=gJ,fn:=fn,tmps:=cv,params:=⟨ps⟩,assign:=as,body:=cr,defers:=il.bo})}:=by simp[setObj,Sem.run,aG]
 have ag:(st==LoopState.busy)=false:=by cases st<;>first|rfl|exact absurd rfl cL
 simp only[Instr.endLoop,Instr.getLoop,Sem.run_bind,h_,Result.andThen_ok,Sem.run_pure,ag,Bool.false_eq_true,if_false,fT]
theorem DS{cG:Nat}{call:aE->List J->aa->ao}(ai:mL P call):IN P need cG call:=by
 intro f ps as cr cp b rd r d q H μ w a k cs0 cs dA al bX ah au aj aS
 simp only[jD,Bool.and_eq_true,List.all_eq_true] at cp
 have tB:∀t∈ps.toList,t<cG:=λt bh=>by simpa using cp.1.1 t bh
 have hc:=(kh.init (P:=P) al).eval (a:=a) au f
 simp only[ea]
 cases cL:xv need rd r ps.toList as cr d H with
 |none=>trivial
 |some p=>
  obtain⟨bO,H1⟩:=p
  simp only
  obtain⟨im,bR,mark,i,ab,ae,aB,aP,cg⟩:=QX (P:=P) (b:=b) (a:=a) (ps:=ps) ⟨cp.1.2,cp.2,tB⟩ dA al bX ah aj rfl cL
  have QZ:=hc.mono aP.le
  have Q0:=QT (P:=P) (f:=f) (k:=k) (cs:=cs) ab
  obtain⟨aq,ak,aQ⟩:=QS Q0
  have kx:=Iz (P:=P) (w:=bR) aB QZ (args:=[.ca (oG rd H.n)]) (vs:=[.func (.yield i.bo) #[] #[]]) ⟨_,_,rfl,⟨i,ae,rfl⟩,rfl⟩
  have fin:∀(res:ao),sd P (lone (b.atR a (.code (.rangeFunc f ps as cr)::k)) cs w) (b.atR {tmps:=a.tmps,defers:=mark++a.defers} (.inRangeFunc i.bo::k)) cs (Ends im H1 bR res)->
    n2 P need cG μ H w b k cs0 (lone (b.atR a (.code (.rangeFunc f ps as cr)::k)) cs w) (jO (oG rd H.n) r bO q res):=by
   intro res aD
   obtain⟨e,jU,gA,ll⟩:=aD
   cases res with
   |fail s=>trivial
   |bp v aN=>
    obtain⟨a4,u,rfl,aY,aR,bW⟩:=gA
    exact⟨a4,jU,{tmps:=a.tmps,defers:=mark++a.defers},cs,⟨.inRangeFunc i.bo::k,u,⟨aY,trivial⟩,ll⟩,al.mono (aP.le.trans bW.le),bX,aR,cw.trans ah aB aP bW,cg.mono bW.le,aS.mono (aP.le.trans bW.le)⟩
   |ret v aN=>
    obtain⟨a4,u,rfl,aY,aR,bW⟩:=gA
    have oW:(b.atR {tmps:=a.tmps,defers:=mark++a.defers} (.inRangeFunc i.bo::k)).finish u=b.atR {tmps:=a.tmps,defers:=mark++a.defers} (.endRangeFunc i.bo::k):=rfl
    simp only[oW] at ll
    unfold jO
    simp only
    cases gQ:aN.get (oG rd H.n) with
    |none=>trivial
    |some DR=>
     cases DR<;>try trivial
     case loop st gJ c6 rg Q1 Ai Aj eU=>
      simp only
      by_cases ag:st=.busy
      · subst ag;trivial
      · obtain⟨AU,aF,aG,bJ⟩:=QY (P:=P) aR (bW.le _ _ ae) gQ ag
        have kZ:=Steps.trans ll (.one (QW (b:=b) (a:={tmps:=a.tmps,defers:=mark++a.defers}) (k:=k) (cs:=cs) aF))
        have hle:=aP.le.trans (bW.le.trans bJ.le)
        have oZ:=cw.trans ah aR (cw.trans ah aB aP bW) bJ
        have done:∀(e:bA),sf P a4 (lone (b.atR a (.code (.rangeFunc f ps as cr)::k)) cs w) b k cs {tmps:=a.tmps,defers:=mark++a.defers} AU e->
          n2 P need cG μ H w b k cs0 (lone (b.atR a (.code (.rangeFunc f ps as cr)::k)) cs w) (.ok e r bO q (aN.set (oG rd H.n) (some (.loop .exhausted gJ c6 rg Q1 Ai Aj eU)))):=λe he=>
         ⟨a4,AU,{tmps:=a.tmps,defers:=mark++a.defers},cs,he,al.mono hle,bX,aG,oZ,cg.mono (bW.le.trans bJ.le),aS.mono hle⟩
        have acb:∀X:ka,(match st with|.busy=>ka.fail "rangeFunc: busy" |_=>X)=X:=λX=>by cases st<;>first|rfl|exact absurd rfl ag
        cases st<;>first
         |exact absurd rfl ag
         |(cases gJ with
          |none=>exact done .nrm kZ
          |some c=>
           cases c<;>first
            |trivial
            |exact done .ret ⟨k,kZ⟩
            |exact done (.exit _) ⟨k,rfl,kZ⟩)
  cases IY:tb (ez 0 [] r (c_ P need [] f)) [.ca (oG rd H.n)] H1 with
  |call g args ay=>
   rw[IY] at kx
   obtain⟨rfl,vs,aF,aG⟩:=kx
   simp only
   cases cb:(call (.fn g) args ay).mb with
   |false=>obtain⟨s,hs⟩:=AN cb;rw[hs];trivial
   |true=>
    apply fin
    rcases ai.fn g args ay cb im bR vs aB (au.mono aP.le) aG with⟨v,w',aY,aR⟩|⟨aY,aR⟩
    · rw[<-aF] at aY
      exact⟨_,_,aR,aq _ _ aY⟩
    · rw[<-aF] at aY
      exact(ID (DI cb) aR _ _).of_steps (ak _ _ _ aY)
  |ca bQ args ay=>
   rw[IY] at kx
   obtain⟨rfl,e1,vs,jT,aF,aG⟩:=kx
   simp only
   cases cb:(call (.ca bQ) args ay).mb with
   |false=>obtain⟨s,hs⟩:=AN cb;rw[hs];trivial
   |true=>
    apply fin
    obtain⟨acd,tmps,Ai,Aj,aY,aR⟩:=ai.ca bQ args ay cb im bR e1 vs aB (au.mono aP.le) jT aG
    rw[<-aF] at aY
    exact(aR _ _).of_steps (aQ _ _ _ _ _ _ aY)
  |val v ay=>trivial
  |bp v ay=>trivial
  |j8 x=>trivial
  |s_=>trivial
  |fail s=>trivial
end
end aC
namespace aC
open Go
section
variable {P:Program}
theorem DT:∀(l:List J) (i:Nat) (r:a0) (t:Nat),(nT i l r).get (hP t)=if i<=t/\t<i+l.length then(l[t-i]?).getD .bad else r.get (hP t)
 |[],i,r,t=>by
  simp only[nT,List.length_nil]
  rw[if_neg (by omega)]
 |v::l,i,r,t=>by
  simp only[nT,DT l (i+1),a0.bV,List.length_cons]
  by_cases h:i+1<=t/\t<i+1+l.length
  · rw[if_pos h,if_pos (by omega)]
    have:t-i=(t-(i+1))+1:=by omega
    rw[this];simp
  · rw[if_neg h]
    by_cases e:t=i
    · subst e;rw[if_pos rfl,if_pos (by omega)];simp
    · rw[if_neg e,if_neg (by omega)]
theorem Q2{need:Nat}{μ:bG}{args:List J}{vs:List Value}(h:cy μ args vs)(n:Nat):jP need μ (nT 0 args .leaf) (⟨vs⟩++Array.replicate n undef):=by
 intro t _
 rw[DT]
 have aD:=h.length
 by_cases bh:t<args.length
 · rw[if_pos (by omega)]
   simp only[Nat.sub_zero]
   obtain⟨v,aJ,al⟩:=h.get (List.getElem?_eq_getElem bh)
   rw[List.getElem?_eq_getElem bh]
   rw[Array.getD_eq_getD_getElem?,Array.getElem?_append_left (by simp;omega)]
   simp only[List.getElem?_toArray,aJ,Option.getD_some]
   exact al
 · rw[if_neg (by omega),a0.nU];trivial
theorem Q3{need:Nat}{μ:bG}{H:aa}{w:World}(ah:bD μ H w){r:a0}{cv:Array Value}(al:jP need μ r cv){x:ResultVar}{v:J}(h:rM P need r H x=some v):
  ∃u,((match x with|.tmp t=>pure (cv.getD t undef)|.cell a t=>do loadVar t (<-asAddr (cv.getD a undef)):Sem Value)).run P w=.ok u w/\bn μ v u:=by
 unfold rM at h
 cases x with
 |tmp t=>
  simp only at h
  split at h
  · rename_i ag;cases h;exact⟨_,rfl,al t ag⟩
  · cases h
 |cell t ty=>
  simp only at h
  split at h
  · rename_i ag
    have ab:=al t ag
    split at h
    · rename_i b off n aU bl aM
      rw[aU] at ab
      obtain⟨i,hi,aJ⟩:=ab
      split at h
      · rename_i cs aD
        cases h
        obtain⟨us,aY,aR⟩:=rT (P:=P) ah hi aD
        refine⟨.agg ⟨us⟩,?_,us,rfl,aR⟩
        simp[aJ,asAddr,loadVar,vp bl,run_sizeOf aM,aY]
      · cases h
    · rename_i b off aU bl
      rw[aU] at ab
      obtain⟨i,hi,aJ⟩:=ab
      obtain⟨u,aY,aR⟩:=C9 (P:=P) ah hi h
      refine⟨u,?_,aR⟩
      simp only[aJ,asAddr,loadVar,Sem.run_bind,Sem.run_pure,Result.andThen_ok,vp bl,Bool.false_eq_true,if_false,aY]
    · cases h
  · cases h
theorem DU{need:Nat}{μ:bG}{H:aa}{w:World}(ah:bD μ H w){r:a0}{cv:Array Value}(al:jP need μ r cv):∀(l:List ResultVar) (vs:List J),mC (rM P need r H) l=some vs->
  ∃us:List Value,(l.mapM (λx=>(match x with|.tmp t=>pure (cv.getD t undef)|.cell a t=>do loadVar t (<-asAddr (cv.getD a undef)):Sem Value))).run P w=.ok us w/\cy μ vs us
 |[],vs,h=>by cases h;exact⟨[],rfl,rfl⟩
 |x::l,vs,h=>by
  simp only[mC] at h
  split at h
  · rename_i v tC ab ae
    cases h
    obtain⟨u,aY,aR⟩:=Q3 ah al ab
    obtain⟨us,bW,eu⟩:=DU ah al l tC ae
    refine⟨u::us,?_,⟨_,_,rfl,aR,eu⟩⟩
    rw[List.mapM_cons]
    simp only[Sem.run_bind]
    rw[aY]
    simp only[Result.andThen_ok,Sem.run_bind,bW,Sem.run_pure]
  · cases h
theorem IZ{need:Nat}{μ:bG}{H:aa}{w:World}(ah:bD μ H w){fn:Func}{r:a0}{cv:Array Value}(al:jP need μ r cv){v:J}(h:pG P need fn r H=some v):
  ∃u,(results fn cv).run P w=.ok u w/\bn μ v u:=by
 unfold pG at h
 have hv:∀us:List Value,(fn.results.toList.mapM (λx=>(match x with|.tmp t=>pure (cv.getD t undef)|.cell a t=>do loadVar t (<-asAddr (cv.getD a undef)):Sem Value))).run P w=.ok us w->
   (results fn cv).run P w=.ok (if h:(⟨us⟩:Array Value).size=1 then(⟨us⟩:Array Value)[0] else .tuple ⟨us⟩) w:=by
  intro us mH
  have hm:(fn.results.mapM (λx=>(match x with|.tmp t=>pure (cv.getD t undef)|.cell a t=>do loadVar t (<-asAddr (cv.getD a undef)):Sem Value))).run P w=.ok ⟨us⟩ w:=by
   rw[Array.mapM_eq_mapM_toList]
   simp only[map_eq_pure_bind,Sem.run_bind]
   rw[mH];rfl
  unfold results
  simp only[Sem.run_bind]
  refine Eq.trans (congrArg (λq=>Result.andThen q _) hm) ?_
  rfl
 split at h
 · rename_i v' bl
   cases h
   obtain⟨us,aY,aR⟩:=DU ah al _ _ bl
   obtain⟨u,r4,rfl,bW,eu⟩:=aR
   cases eu
   exact⟨_,hv _ aY,bW⟩
 · rename_i vs eb bl
   cases h
   obtain⟨us,aY,aR⟩:=DU ah al _ _ bl
   refine⟨_,hv _ aY,?_⟩
   have:¬((⟨us⟩:Array Value).size=1):=by
    intro e
    have aD:=aR.length
    have ed:us.length=1:=e
    rw[ed] at aD
    obtain⟨x,ad⟩:=List.length_eq_one_iff.1 aD
    exact eb x ad
   rw[dif_neg this]
   exact⟨us,rfl,aR⟩
 · cases h
theorem I0{call:aE->List J->aa->ao}(ai:mL P call)(hdr:∀need cG,sg P need cG call){f:FuncId}{fn:Func}(hf:P.funcs[f]? =some fn){kind:CallKind}{c:Code}(ag:fn.body=some c)(cp:jD fn.ntmps c=true)
  {args:List J}{vs:List Value}{q:bH}{H:aa}{μ:bG}{w:World}{cs0 cs:List Frame}(aJ:cy μ args vs)(ah:bD μ H w)(au:jt P μ)(aS:iW μ kind cs0 q cs):
  n2 P (dt fn) fn.ntmps μ H w {(default:Frame) with fn:=f,kind:=kind} [] cs0 (lone (Frame.enter P f ⟨vs⟩ kind) cs w) (lh P call fn args q H):=by
 unfold lh
 rw[ag]
 simp only
 cases hle:Nat.ble args.length fn.ntmps with
 |false=>trivial
 |true=>
  have Dr:args.length<=fn.ntmps:=by simpa using hle
  have hlen:=aJ.length
  simp only
  have Q4:Frame.enter P f ⟨vs⟩ kind=({(default:Frame) with fn:=f,kind:=kind}:Frame).atR {tmps:=⟨vs⟩++Array.replicate (fn.ntmps-vs.length) undef,defers:=[]} [.code c]:=by
   simp[Frame.enter,Frame.atR,hf,ag]
   rfl
  rw[Q4]
  exact p2 ai (hdr _ _) (DS ai) none c cp {(default:Frame) with fn:=f,kind:=kind} (nT 0 args .leaf) [] q H μ w {tmps:=⟨vs⟩++Array.replicate (fn.ntmps-vs.length) undef,defers:=[]} [] cs0 cs rfl (Q2 aJ _) (by simp;omega) ah au rfl aS
def x2(P:Program):Prop:=∀(g:FuncId) (eQ:Func) (gc:Code),P.funcs[g]? =some eQ->eQ.body=some gc->jD eQ.ntmps gc=true/\(eQ.name== "runtime.NumGoroutine")=false
theorem DV{f:FuncId}{fn:Func}{c:Code}(hf:P.funcs[f]? =some fn)(ag:fn.body=some c)(aM:(fn.name== "runtime.NumGoroutine")=false)(args:Array Value)(w:World):(callFunc f args).run P w=.ok (.enter f args) w:=by
 have Q5:¬fn.name= "runtime.NumGoroutine" :=by simpa using aM
 simp[callFunc,hf,Q5,ag]
def n4(μ:bG):Option J->FrameMode->Prop
 |none,m=>m=.returning
 |some v,m=>∃u,m=.panicking [{v:=u,recovered:=false}]/\bn μ v u
theorem n4.mono{μ a4:bG}(hle:fL μ a4){fa:Option J}{m:FrameMode}(h:n4 μ fa m):n4 a4 fa m:=by
 cases fa with
 |none=>exact h
 |some v=>obtain⟨u,ab,ae⟩:=h;exact⟨u,ab,ae.mono hle⟩
theorem n4.run{μ:bG}{fa:Option J}{m:FrameMode}(h:n4 μ fa m):m≠ .run:=by
 cases fa with
 |none=>intro e;cases h.symm.trans e
 |some v=>obtain⟨u,ab,_⟩:=h;intro e;cases ab.symm.trans e
theorem n4.q{μ:bG}{fa:Option J}{c:Frame}{cs:List Frame}(h:n4 μ fa c.mode):iW μ .deferred (c::cs) (qK fa) (c::cs):=by
 cases fa with
 |none=>
  refine⟨rfl,λbS ax=>?_⟩
  have an:c.mode=.returning:=h
  simp only[tryRecover,ax,an]
 |some v=>obtain⟨u,ab,ae⟩:=h;exact⟨rfl,rfl,c,cs,u,rfl,ab,ae⟩
theorem Q6{μ:bG}{H:aa}{w:World}(ah:bD μ H w){r:Nat}{i:h3}(hi:μ r=some i){cs:List bU}(au:H.get r=some (.defrd (some cs))):
  ∃w' l,(Instr.takeDeferred i.bo).run P w=.ok l w'/\hr μ cs l/\bD μ (H.set r (some (.defrd none))) w'/\cw μ H w μ (H.set r (some (.defrd none))) w':=by
 obtain⟨l,aF,aG⟩:=ah.rel _ _ i au hi
 have cB:=(ah.lt _ _ hi).2
 obtain⟨bq,a9⟩:=ah.update (w':={w with heap:=w.heap.setIfInBounds i.bo (.deferred none)}) (o':=.defrd none) au rfl hi (by simp) (λr al=>by simp[Array.getElem?_setIfInBounds];intro e;exact absurd e.symm al) rfl rfl rfl
  (show({w with heap:=w.heap.setIfInBounds i.bo (.deferred none)}:World).heap[i.bo]? =some (.deferred none) by simp[cB])
 refine⟨_,l,?_,aG,bq,a9⟩
 have h_:(getObj i.bo).run P w=.ok (.deferred (some l)) w:=by simp[getObj,Sem.run,aF]
 have fT:(setObj i.bo (.deferred none)).run P w=.ok () {w with heap:=w.heap.setIfInBounds i.bo (.deferred none)}:=by simp[setObj,Sem.run,aF]
 simp only[Instr.takeDeferred,Sem.run_bind,h_,Result.andThen_ok,fT,Sem.run_pure]
end
end aC
namespace aC
open Go
section
variable {P:Program}
theorem step_take{bS:Frame}{cs:List Frame}{w w':World}{b:Nat}{args:Array Value}{bd calls:List Deferred}(hm:bS.mode≠ .run)(aj:bS.defers={target:=.collected b,args:=args}::bd)(bh:(Instr.takeDeferred b).run P w=.ok calls w'):
  step P (lone bS cs w)=.next (lone {bS with defers:=calls++bd} cs w'):=by
 refine step_lone_go ?_
 cases DW:bS.mode with
 |run=>exact absurd DW hm
 |returning=>simp[stepG,unwind,DW,aj,Sem.runT_eq,bh]
 |panicking chain=>simp[stepG,unwind,DW,aj,Sem.runT_eq,bh]
theorem Ends.trans{μ im:bG}{H H1:aa}{w bR:World}{x:ao}{e:Ending}{w':World}(ah:bD μ H w)(h7:bD im H1 bR)(bl:cw μ H w im H1 bR)(h:Ends im H1 bR x e w'):Ends μ H w x e w':=by
 cases x with
 |ret v bf=>obtain⟨a4,u,ab,ae,aB,aP⟩:=h;exact⟨a4,u,ab,ae,aB,cw.trans ah h7 bl aP⟩
 |bp v bf=>obtain⟨a4,u,ab,ae,aB,aP⟩:=h;exact⟨a4,u,ab,ae,aB,cw.trans ah h7 bl aP⟩
 |fail s=>trivial
theorem DX{call:aE->List J->aa->ao}(ai:mL P call)(hdr:∀need cG,sg P need cG call)(gm:x2 P){need:Nat}{fn:Func}{r:a0}:
  ∀(k:Nat) (fa:Option J) (bd:List bU) (H:aa) (μ:bG) (w:World) (bS:Frame) (cs:List Frame),(kb P call need fn r k fa bd H).mb=true->bD μ H w->jt P μ->jP need μ r bS.tmps->P.funcs[bS.fn]? =some fn->bS.kind=.normal->
   hr μ bd bS.defers->n4 μ fa bS.mode->∃e w' DY,Ends μ H w (kb P call need fn r k fa bd H) e w'/\Steps P (lone bS cs w) (lone DY cs w')/\DY.fn=bS.fn/\DY.leaving P w' e
 |0,fa,bd,H,μ,w,bS,cs,cb,ah,au,al,hf,ax,aj,aU=>by cases cb
 |k+1,fa,[],H,μ,w,bS,cs,cb,ah,au,al,hf,ax,aj,aU=>by
  have qU:bS.defers=[]:=aj
  cases fa with
  |none=>
   simp only[kb] at cb⊢
   cases hv:pG P need fn r H with
   |none=>rw[hv] at cb;cases cb
   |some v=>
    obtain⟨u,aY,aR⟩:=IZ (P:=P) ah al hv
    exact⟨.returned u,w,bS,⟨μ,u,rfl,aR,ah,cw.refl _ _ _⟩,Steps.refl _ _,rfl,aU,qU,ax,fn,hf,aY⟩
  |some v=>
   obtain⟨u,ab,ae⟩:=aU
   exact⟨.panicked _,w,bS,⟨μ,u,rfl,ae,ah,cw.refl _ _ _⟩,Steps.refl _ _,rfl,ab,qU,fn,hf⟩
 |k+1,fa,.collected b::bd,H,μ,w,bS,cs,cb,ah,au,al,hf,ax,aj,aU=>by
  obtain⟨pW,dl,xS,ab,ae⟩:=aj
  cases ab with
  |collected _ i hi=>
  simp only[kb] at cb⊢
  cases x3:H.get b with
  |none=>rw[x3] at cb;cases cb
  |some o=>
   rw[x3] at cb
   cases o<;>try (cases cb;done)
   case defrd calls=>
    cases calls with
    |none=>cases cb
    |some Q7=>
     simp only at cb⊢
     obtain⟨w',l,aF,aG,bJ,dh⟩:=Q6 (P:=P) ah hi x3
     have hs:=step_take (cs:=cs) aU.run xS aF
     obtain⟨e,b3,ni,bq,a9,ee,ht⟩:=DX ai hdr gm k fa (Q7++bd) _ μ w' {bS with defers:=l++dl} cs cb bJ au al hf ax (aG.append ae) aU
     refine⟨e,b3,ni,?_,Steps.head hs a9,ee,ht⟩
     exact Ends.trans ah bJ dh bq
 |k+1,fa,.call g args::bd,H,μ,w,bS,cs,cb,ah,au,al,hf,ax,aj,aU=>by
  obtain⟨pW,dl,xS,ab,ae⟩:=aj
  cases ab with
  |call _ _ cap vs Q8=>
  simp only[kb] at cb⊢
  cases sh:P.funcs[g]? with
  |none=>rw[sh] at cb;cases cb
  |some eQ=>
   rw[sh] at cb
   simp only at cb⊢
   cases AV:eQ.body with
   |none=>
    have:lh P call eQ args (qK fa) H=.fail "no body" :=by simp[lh,AV]
    rw[this] at cb;cases cb
   |some gc=>
    obtain⟨tD,AW⟩:=gm g eQ gc sh AV
    have aS:iW μ .deferred ({bS with defers:=dl}::cs) (qK fa) ({bS with defers:=dl}::cs):=n4.q (c:={bS with defers:=dl}) aU
    have ag:=I0 (P:=P) ai hdr sh (kind:=.deferred) AV tD (args:=args) (vs:=vs++cap) (q:=qK fa) Q8 ah au aS
    have hinv:(invoke (.fn (.func g) ⟨cap⟩) ⟨vs⟩).run P w=.ok (.enter g ⟨vs++cap⟩) w:=by
     have:=DV (P:=P) sh AV AW (⟨vs⟩++⟨cap⟩) w
     simpa[invoke] using this
    have Q9:=step_defer (P:=P) (cs:=cs) aU.run xS (d:={target:=.fn (.func g) ⟨cap⟩,args:=⟨vs⟩}) rfl hinv
    cases ad:lh P call eQ args (qK fa) H with
    |fail s=>rw[ad] at cb;cases cb
    |ok e r' bO bE bf=>
     rw[ad] at cb ag
     obtain⟨a4,w',dM,b9,s1,s2,ck,b6,cW,dO,e2⟩:=ag
     simp only[Ag] at cb⊢
     cases hv:pG P (dt eQ) eQ r' bf with
     |none=>rw[hv] at cb;cases e<;>cases bO<;>cases cb
     |some DZ=>
      rw[hv] at cb
      obtain⟨u,aY,aR⟩:=IZ (P:=P) b6 s2 hv
      have main:∀(he:e=.nrm\/e=.ret) (qU:bO=[]) (hS:(kb P call need fn r k (vl bE fa) bd bf).mb=true),
        ∃aG b3 ni,Ends μ H w (kb P call need fn r k (vl bE fa) bd bf) aG b3/\Steps P (lone bS cs w) (lone ni cs b3)/\ni.fn=bS.fn/\ni.leaving P b3 aG:=by
       intro he qU hS
       subst qU
       have x4:dM.defers=[]:=dO
       have x5:∃todo,Steps P (lone (Frame.enter P g ⟨vs++cap⟩ .deferred) ({bS with defers:=dl}::cs) w) (lone {({(default:Frame) with fn:=g,kind:=.deferred}:Frame).atR dM todo with mode:=.returning} b9 w'):=by
        rcases he with rfl|rfl
        · exact⟨_,Steps.trans s1 (.one (stepR_end rfl))⟩
        · obtain⟨bN,nj⟩:=s1
          exact⟨_,Steps.trans nj (.one (stepR_ret rfl))⟩
       obtain⟨todo,x5⟩:=x5
       have h_:({({(default:Frame) with fn:=g,kind:=.deferred}:Frame).atR dM todo with mode:=.returning}:Frame).going P w' (.returned u):=⟨rfl,x4,eQ,sh,aY⟩
       have caller:∃m,b9={({bS with defers:=dl}:Frame) with mode:=m}::cs/\n4 a4 (vl bE fa) (settle m):=by
        have b0:n4 a4 fa (settle bS.mode):=by
         have x6:=aU.mono cW.le
         cases fa with
         |none=>have:bS.mode=.returning:=x6;rw[this];rfl
         |some v=>obtain⟨u,ab,ae⟩:=x6;rw[ab];exact⟨u,rfl,ae⟩
        cases bE with
        |none=>exact⟨bS.mode,e2.1,b0⟩
        |act v=>exact⟨bS.mode,e2.1,b0⟩
        |done v=>
         obtain⟨_,c,rest,u,aF,aG,bJ,dh⟩:=e2
         cases aF
         exact⟨_,dh,rfl⟩
       obtain⟨m,rfl,Q_⟩:=caller
       have aB:=step_going_returned (P:=P) (c:={({bS with defers:=dl}:Frame) with mode:=m}) (cs:=cs) rfl h_
       obtain⟨aG,b3,ni,bq,a9,ee,ht⟩:=DX ai hdr gm k (vl bE fa) bd bf a4 w' {bS with defers:=dl,mode:=settle m} cs hS b6 (au.mono cW.le) (al.mono cW.le) hf ax (ae.mono cW.le) Q_
       exact⟨aG,b3,ni,Ends.trans ah b6 cW bq,Steps.head Q9 (Steps.trans x5 (Steps.head aB a9)),ee,ht⟩
      cases bO with
      |cons x xs=>cases e<;>cases cb
      |nil=>
       cases e with
       |nrm=>exact main (.inl rfl) rfl cb
       |ret=>exact main (.inr rfl) rfl cb
       |exit id=>cases cb
       |goto l=>cases cb
       |bp v=>cases cb
theorem Ra{P:Program}{m AX:Machine}{e:Ending}(h:Steps P m AX)(he:e≠ .outgrown):Comes P m AX e:=by
 cases e with
 |outgrown=>exact absurd rfl he
 |_=>exact h
theorem Rb{call:aE->List J->aa->ao}(ai:mL P call)(hdr:∀need cG,sg P need cG call)(gm:x2 P){f:FuncId}{fn:Func}{c:Code}(hf:P.funcs[f]? =some fn)(ag:fn.body=some c)
  {args:List J}{vs:List Value}{H:aa}{μ:bG}{w:World}(aJ:cy μ args vs)(ah:bD μ H w)(au:jt P μ)(cb:(kT P call fn (lh P call fn args .none H)).mb=true):
  Calls P f ⟨vs⟩ w (Ends μ H w (kT P call fn (lh P call fn args .none H))):=by
 intro cs
 obtain⟨tD,AW⟩:=gm f fn c hf ag
 have aS:iW μ .normal cs .none cs:=⟨rfl,λbS ax=>by simp[tryRecover,ax]⟩
 have hR:=I0 (P:=P) ai hdr hf (kind:=.normal) ag tD aJ ah au aS
 generalize ad:lh P call fn args .none H=x at cb hR⊢
 cases x with
 |fail s=>cases cb
 |ok e r d q bf=>
  obtain⟨a4,w',dM,b9,s1,s2,ck,b6,cW,dO,e2⟩:=hR
  have kV:b9=cs:=by
   cases q with
   |none=>exact e2.1
   |act v=>exact e2.1
   |done v=>exact absurd e2.1 (by intro h;cases h)
  subst kV
  have main:∀(fa:Option J) (bS:Frame),bS.fn=f->bS.tmps=dM.tmps->bS.defers=dM.defers->bS.kind=.normal->n4 a4 fa bS.mode->Steps P (lone (Frame.enter P f ⟨vs⟩ .normal) b9 w) (lone bS b9 w')->
    (kb P call (dt fn) fn r 100 fa d bf).mb=true->∃e b3 ni,Ends μ H w (kb P call (dt fn) fn r 100 fa d bf) e b3/\Comes P (lone (Frame.enter P f ⟨vs⟩ .normal) b9 w) (lone ni b9 b3) e/\ni.fn=f/\ni.leaving P b3 e:=by
   intro fa bS ab ae aB aP cg dN hS
   subst ab
   obtain⟨aG,b3,ni,bq,a9,ee,ht⟩:=DX ai hdr gm 100 fa d bf a4 w' bS b9 hS b6 (au.mono cW.le) (by rw[ae];exact s2) hf aP (by rw[aB];exact dO) cg
   have I1:=Ends.trans ah b6 cW bq
   exact⟨aG,b3,ni,I1,Ra (dN.trans a9) (λe=>DI hS _ (e▸I1)),ee,ht⟩
  cases e with
  |nrm=>exact main none {({(default:Frame) with fn:=f,kind:=.normal}:Frame).atR dM [] with mode:=.returning} rfl rfl rfl rfl rfl (Steps.trans s1 (.one (stepR_end rfl))) cb
  |ret=>obtain⟨bN,nj⟩:=s1;exact main none {({(default:Frame) with fn:=f,kind:=.normal}:Frame).atR dM (.code .ret::bN) with mode:=.returning} rfl rfl rfl rfl rfl (Steps.trans nj (.one (stepR_ret rfl))) cb
  |bp v=>obtain⟨bN,u,ab,ae⟩:=s1;exact main (some v) _ rfl rfl rfl rfl ⟨u,rfl,ab.1⟩ ae cb
  |exit id=>cases cb
  |goto l=>cases cb
end
end aC
namespace aC
open Go
section
variable {P:Program}
theorem I2{need:Nat}{μ:bG}:∀(ps:List Nat) (args:List J) (vs:List Value) (r gw:a0) (cv:Array Value),(∀t∈ps,t<cv.size)->jP need μ r cv->cy μ args vs->td ps args r=some gw->
  jP need μ gw ((ps.zip vs).foldl (λcv (p:Nat×Value)=>cv.setIfInBounds p.1 p.2) cv)/\((ps.zip vs).foldl (λcv (p:Nat×Value)=>cv.setIfInBounds p.1 p.2) cv).size=cv.size/\ps.length=vs.length
 |[],[],vs,r,gw,cv,aU,al,aJ,h=>by cases aJ;cases h;exact⟨al,rfl,rfl⟩
 |t::c7,v::args,vs,r,gw,cv,aU,al,aJ,h=>by
  obtain⟨u,us,rfl,ab,ae⟩:=aJ
  simp only[td] at h
  have tu:jP need μ (r.set (hP t) v) (cv.setIfInBounds t u):=λs hs=>by
   rw[a0.bV,x1 (aU t (by simp))]
   by_cases e:s=t
   · rw[if_pos e,if_pos e];exact ab
   · rw[if_neg e,if_neg e];exact al s hs
  obtain⟨aY,aR,bW⟩:=I2 c7 args us _ gw (cv.setIfInBounds t u) (λs hs=>by simp;exact aU s (by simp[hs])) tu ae h
  exact⟨aY,by rw[List.zip_cons_cons,List.foldl_cons];rw[aR];simp,by simp[bW]⟩
 |[],_::_,vs,r,gw,cv,aU,al,aJ,h=>by cases h
 |_::_,[],vs,r,gw,cv,aU,al,aJ,h=>by cases h
theorem D0{μ:bG}{H:aa}{w:World}(ah:bD μ H w){l:Nat}{i:h3}(aD:μ l=some i){st:LoopState}{gJ:Option Code}{c6:Nat}{rg:a0}{ps:List Nat}{as cr:Code}{eU:Nat}(au:H.get l=some (.loop st gJ c6 rg ps as cr eU)):
  ∃cv il fn,μ eU=some il/\(Instr.getLoop i.bo).run P w=.ok {state:=st,pending:=gJ,fn:=fn,tmps:=cv,params:=⟨ps⟩,assign:=as,body:=cr,defers:=il.bo} w/\jP c6 μ rg cv/\jD cv.size as=true/\jD cv.size cr=true/\(∀t∈ps,t<cv.size)/\
   ∀b_ vE,∃w',(setObj i.bo (.loop {state:=b_,pending:=vE,fn:=fn,tmps:=cv,params:=⟨ps⟩,assign:=as,body:=cr,defers:=il.bo})).run P w=.ok () w'/\
    bD μ (H.set l (some (.loop b_ vE c6 rg ps as cr eU))) w'/\cw μ H w μ (H.set l (some (.loop b_ vE c6 rg ps as cr eU))) w':=by
 obtain⟨cv,il,fn,aF,aG,bJ,dh,iq,dL⟩:=ah.rel _ _ i au aD
 have cB:=(ah.lt _ _ aD).2
 have h_:(getObj i.bo).run P w=.ok (.loop {state:=st,pending:=gJ,fn:=fn,tmps:=cv,params:=⟨ps⟩,assign:=as,body:=cr,defers:=il.bo}) w:=by simp[getObj,Sem.run,aG]
 refine⟨cv,il,fn,aF,?_,bJ,dh,iq,dL,λb_ vE=>?_⟩
 · simp only[Instr.getLoop,Sem.run_bind,h_,Result.andThen_ok,Sem.run_pure]
 · obtain⟨bq,a9⟩:=ah.update (w':={w with heap:=w.heap.setIfInBounds i.bo (.loop {state:=b_,pending:=vE,fn:=fn,tmps:=cv,params:=⟨ps⟩,assign:=as,body:=cr,defers:=il.bo})}) (o':=.loop b_ vE c6 rg ps as cr eU) au rfl aD (by simp) (λr al=>by simp[Array.getElem?_setIfInBounds];intro e;exact absurd e.symm al) rfl rfl rfl
     ⟨cv,il,fn,aF,by simp[cB],bJ,dh,iq,dL⟩
   exact⟨_,by simp[setObj,Sem.run,aG],bq,a9⟩
theorem Rc{b:Frame}{a:Act}{bN:List Item}{c:Frame}{cs:List Frame}{w:World}{chain:List PanicEntry}(aj:a.defers=[])(aM:DO bN):
  step P (lone {b.atR a bN with mode:=.panicking chain} (c::cs) w)=.next (lone (c.raise chain) cs w):=by
 have Rd:({b.atR a bN with mode:=.panicking chain}:Frame).catches P=false:=by
  unfold Frame.catches
  cases hf:P.funcs[b.fn]? with
  |some fn=>simp[Frame.atR,hf]
  |none=>
   cases bN with
   |nil=>simp[Frame.atR,hf]
   |cons x t=>cases x<;>first|exact aM.elim|simp[Frame.atR,hf]
 refine step_lone_go ?_
 have I3:=Rd
 simp only[Frame.atR,aj] at I3⊢
 simp[stepG,unwind,I3]
theorem Re{μ:bG}{H:aa}{w:World}{l:Nat}{i:h3}(aD:μ l=some i){b:Frame}(ag:b.roundOf=some i.bo)(ax:b.kind=.normal){need cG:Nat}{c:Frame}{cs:List Frame}{gP:Machine}{x:ka}(ad:n2 P need cG μ H w b [] (c::cs) gP x)(hg:∀bS:Frame,bS.kind=b.kind->tryRecover bS (c::cs)=none)(cb:(vm l x).mb=true)(ah:bD μ H w):
  sd P gP c cs (Ends μ H w (vm l x)):=by
 cases x with
 |fail s=>cases cb
 |ok e r d q bf=>
  obtain⟨a4,w',dM,b9,s1,s2,ck,b6,cW,dO,e2⟩:=ad
  have kV:b9=c::cs:=by
   cases q with
   |none=>exact e2.1
   |act v=>exact e2.1
   |done v=>exact absurd (ax.symm.trans e2.1) (by intro h;cases h)
  subst kV
  cases d with
  |cons y ys=>cases cb
  |nil=>
   have x4:dM.defers=[]:=dO
   simp only[vm] at cb⊢
   cases au:bf.get l with
   |none=>rw[au] at cb;cases cb
   |some o=>
    rw[au] at cb
    cases o<;>try (cases cb;done)
    case loop st gJ c6 rg ps as cr eU=>
     cases st<;>try (cases cb;done)
     simp only at cb⊢
     obtain⟨cv,il,fn,aq,ak,_,_,_,_,aQ⟩:=D0 (P:=P) b6 (cW.le _ _ aD) au
     have fin:∀n3:Option Code,∃b3,(Instr.endRound i.bo n3).run P w'=.ok (.bool n3.isNone) b3/\bD a4 (bf.set l (some (.loop (if n3.isNone then .ready else .done) n3 c6 rg ps as cr eU))) b3/\cw a4 bf w' a4 (bf.set l (some (.loop (if n3.isNone then .ready else .done) n3 c6 rg ps as cr eU))) b3:=λn3=>by
      obtain⟨b3,aY,aR,bW⟩:=aQ (if n3.isNone then .ready else .done) n3
      refine⟨b3,?_,aR,bW⟩
      simp only[Instr.endRound,Sem.run_bind,ak,Result.andThen_ok,aY,Sem.run_pure]
     cases e with
     |nrm=>
      obtain⟨b3,aY,aR,bW⟩:=fin none
      exact⟨.returned (.bool true),b3,⟨a4,_,rfl,rfl,aR,cw.trans ah b6 cW bW⟩,Steps.trans s1 (.one (stepR_round_end ag ax aY))⟩
     |ret=>
      obtain⟨bN,s1⟩:=s1
      obtain⟨b3,aY,aR,bW⟩:=fin (some .ret)
      exact⟨.returned (.bool false),b3,⟨a4,_,rfl,rfl,aR,cw.trans ah b6 cW bW⟩,Steps.trans s1 (.one (stepR_round_ret ag ax aY))⟩
     |exit id=>
      obtain⟨bN,nj,s1⟩:=s1
      obtain⟨b3,aY,aR,bW⟩:=fin (some (.exit id))
      exact⟨.returned (.bool false),b3,⟨a4,_,rfl,rfl,aR,cw.trans ah b6 cW bW⟩,Steps.trans s1 (.one (stepR_round_exit ag ax (nj.trans rfl) aY))⟩
     |bp v=>
      obtain⟨bN,u,⟨ab,ae⟩,s1⟩:=s1
      exact⟨.panicked _,w',⟨a4,u,rfl,ab,b6,cW⟩,Steps.trans s1 (.one (Rc x4 ae))⟩
     |goto t=>cases cb
theorem Rf{call:aE->List J->aa->ao}(ai:mL P call)(hdr:∀need cG,sg P need cG call){l:Nat}{args:List J}{H:aa}{μ:bG}{w:World}{i:h3}{vs:List Value}(cb:(oI P call l args H).mb=true)(ah:bD μ H w)(pX:jt P μ)(aD:μ l=some i)(aJ:cy μ args vs):
  IC P i.bo vs w (Ends μ H w (oI P call l args H)):=by
 unfold oI at cb⊢
 cases au:H.get l with
 |none=>rw[au] at cb;cases cb
 |some o=>
  rw[au] at cb
  cases o<;>try (cases cb;done)
  case loop st gJ c6 rg ps as cr eU=>
   cases st<;>try (cases cb;done)
   simp only at cb⊢
   cases bj:td ps args rg with
   |none=>rw[bj] at cb;cases cb
   |some gw=>
    rw[bj] at cb
    simp only at cb⊢
    obtain⟨cv,il,fn,aq,ak,aQ,a3,bZ,b2,b5⟩:=D0 (P:=P) ah aD au
    obtain⟨ff,fN,lP⟩:=I2 ps args vs rg gw cv b2 aQ aJ bj
    obtain⟨vF,I4⟩:∃vF,(ps.zip vs).foldl (λcv (p:Nat×Value)=>cv.setIfInBounds p.1 p.2) cv=vF:=⟨_,rfl⟩
    rw[I4] at ff fN
    refine⟨fn,vF,as,cr,?_,λc cs=>?_⟩
    · simp only[Instr.yield,Sem.run_bind,ak,Result.andThen_ok]
      rw[if_neg (by simp;omega)]
      simp only[Sem.run_bind,Sem.run_pure,Result.andThen_ok]
      rw[<-I4]
      simp
    · have Rg:Frame.round i.bo fn vF as cr .normal=({(default:Frame) with fn:=fn,kind:=.normal,roundOf:=some i.bo}:Frame).atR {tmps:=vF,defers:=[]} [.code as,.beginRound,.code cr]:=rfl
      rw[Rg]
      have aS:iW μ .normal (c::cs) .none (c::cs):=⟨rfl,λbS ax=>by simp[tryRecover,ax]⟩
      have dA:oY μ ({(default:Frame) with fn:=fn,kind:=.normal,roundOf:=some i.bo}:Frame) (some l):=⟨i,aD,rfl⟩
      have ab:=p2 ai (hdr c6 cv.size) (DS ai) (some l) as a3 {(default:Frame) with fn:=fn,kind:=.normal,roundOf:=some i.bo} gw [] .none H μ w {tmps:=vF,defers:=[]} [.beginRound,.code cr] (c::cs) (c::cs) dA ff fN ah pX rfl aS
      generalize ea P c6 (some l) call as gw [] .none H=x at ab cb⊢
      cases x with
      |fail s=>cases cb
      |ok e bq d1 aY H1=>
       cases e<;>try (cases cb;done)
       case nrm=>
        cases d1<;>try (cases cb;done)
        case nil=>
         obtain⟨im,bR,dG,kz,s1,s2,ck,b6,cW,dO,e2⟩:=ab
         have kV:kz=c::cs:=by
          cases aY with
          |none=>exact e2.1
          |act v=>exact e2.1
          |done v=>exact absurd e2.1 (by intro h;cases h)
         subst kV
         simp only[Ah] at cb⊢
         cases cl:H1.get l with
         |none=>rw[cl] at cb;cases cb
         |some dH=>
          rw[cl] at cb
          cases dH<;>try (cases cb;done)
          case loop dB Rh ace acf acg ach aci acj=>
           cases dB<;>try (cases cb;done)
           simp only at cb⊢
           obtain⟨ack,acm,acn,bx,bI,cP,dK,iw,kA,jV⟩:=D0 (P:=P) b6 (cW.le _ _ aD) cl
           obtain⟨b3,a8,aW,ds⟩:=jV .busy Rh
           have xZ:(Instr.beginRound i.bo).run P bR=.ok () b3:=by
            simp only[Instr.beginRound,Sem.run_bind,bI,Result.andThen_ok,a8,Sem.run_pure]
           have cL:=stepR_beginRound (P:=P) (b:={(default:Frame) with fn:=fn,kind:=.normal,roundOf:=some i.bo}) (a:=dG) (k:=[.code cr]) (cs:=c::cs) rfl xZ
           have qV:iW im .normal (c::cs) .none (c::cs):=⟨rfl,λbS ax=>by simp[tryRecover,ax]⟩
           have Ri:oY im ({(default:Frame) with fn:=fn,kind:=.normal,roundOf:=some i.bo}:Frame) (some l):=⟨i,cW.le _ _ aD,rfl⟩
           have x4:hr im [] dG.defers:=dO
           have ae:=p2 ai (hdr c6 cv.size) (DS ai) (some l) cr bZ {(default:Frame) with fn:=fn,kind:=.normal,roundOf:=some i.bo} bq [] .none _ im b3 dG [] (c::cs) (c::cs) Ri s2 ck aW (pX.mono cW.le) x4 qV
           have aB:=ae.of_steps ah aW (Steps.trans s1 (.one cL)) (cw.trans ah b6 cW ds)
           exact Re aD rfl rfl aB (λbS ax=>by simp[tryRecover,ax]) cb ah
end
end aC
namespace aC
open Go
section
variable {P:Program}
def si:List String:=["internal/abi.NoEscape","internal/bytealg.MakeNoZero","internal/bytealg.IndexByteString","maps.clone"]
def AY(P:Program):Prop:=∀(g:FuncId) (eQ:Func),P.funcs[g]? =some eQ->eQ.body=none->eQ.name∈si->Extern.findNext eQ=none
theorem I5:∀(n t:Nat) (acc:Array Value),(Extern.BytealgMakeNoZero.digits n t acc).size=acc.size+n
 |0,t,acc=>rfl
 |n+1,t,acc=>by rw[Extern.BytealgMakeNoZero.digits,I5 n];simp;omega
theorem Rj{fn:Func}(aM:fn.name= "internal/abi.NoEscape"):Extern.find fn=some Extern.AbiNoEscape.same:=by
 have ab:Extern.allGenericRows.lookup "internal/abi.NoEscape" =none:=by rfl
 have ae:Extern.allTypedRows.lookup "internal/abi.NoEscape" =none:=by rfl
 have aB:Extern.allRows.lookup "internal/abi.NoEscape" =some Extern.AbiNoEscape.same:=by rfl
 simp[Extern.find,aM,ab,ae,aB]
theorem Rk{fn:Func}(aM:fn.name= "internal/bytealg.MakeNoZero"):Extern.find fn=some (Extern.BytealgMakeNoZero.makeNoZero fn.params fn.resultTypes):=by
 have ab:Extern.allGenericRows.lookup "internal/bytealg.MakeNoZero" =none:=by rfl
 have ae:Extern.allTypedRows.lookup "internal/bytealg.MakeNoZero" =some Extern.BytealgMakeNoZero.makeNoZero:=by rfl
 simp[Extern.find,aM,ab,ae]
theorem Rl{fn:Func}(aM:fn.name= "internal/bytealg.IndexByteString"):Extern.find fn=some Extern.BytealgIndexByte.indexByte:=by
 have ab:Extern.allGenericRows.lookup "internal/bytealg.IndexByteString" =none:=by rfl
 have ae:Extern.allTypedRows.lookup "internal/bytealg.IndexByteString" =none:=by rfl
 have aB:Extern.allRows.lookup "internal/bytealg.IndexByteString" =some Extern.BytealgIndexByte.indexByte:=by rfl
 simp[Extern.find,aM,ab,ae,aB]
theorem Rm{fn:Func}(aM:fn.name= "maps.clone"):Extern.find fn=some Extern.MapsClone.clone:=by
 have ab:Extern.allGenericRows.lookup "maps.clone" =none:=by rfl
 have ae:Extern.allTypedRows.lookup "maps.clone" =none:=by rfl
 have aB:Extern.allRows.lookup "maps.clone" =some Extern.MapsClone.clone:=by rfl
 simp[Extern.find,aM,ab,ae,aB]
theorem I6(c:Nat):∀(l:List UInt8) (i:Nat),oH c l i=match l.findIdx? (λb=>Nat.beq b.toNat c) with
  |some j=>((i+j:Nat):Int)
  |none=>-1
 |[],i=>rfl
 |b::l,i=>by
  rw[oH,List.findIdx?_cons]
  cases Nat.beq b.toNat c with
  |true=>simp
  |false=>
   simp only[I6 c l (i+1)]
   cases l.findIdx? (λb=>Nat.beq b.toNat c) with
   |none=>rfl
   |some j=>
    simp only[Option.map_some]
    have:((i+(j+1):Nat):Int)=((i+1+j:Nat):Int):=by congr 1;omega
    exact this.symm
theorem Rn(b:ByteArray)(p:UInt8->Bool):(List.range b.size).find? (λi=>p b[i]!)=b.data.toList.findIdx? p:=by
 have bX:b.data.toList.length=b.size:=Array.length_toList
 have js:∀(i:Nat) (hi:i<b.data.toList.length),b[i]! =b.data.toList[i]:=λi hi=>by
  have fM:i<b.size:=by omega
  rw[getElem!_pos b i fM];rfl
 cases hf:b.data.toList.findIdx? p with
 |none=>
  rw[List.find?_eq_none]
  intro i hi
  have fM:i<b.data.toList.length:=by rw[bX];simpa using hi
  rw[js i fM]
  have:=List.findIdx?_eq_none_iff.1 hf _ (List.getElem_mem fM)
  rw[this];exact Bool.false_ne_true
 |some j=>
  obtain⟨aV,aU,cB⟩:=List.findIdx?_eq_some_iff_getElem.1 hf
  rw[List.find?_range_eq_some]
  refine⟨?_,by simp;omega,λi hi=>?_⟩
  · rw[js j aV];exact aU
  · rw[js i (by omega)]
    have:=cB i hi
    simpa using this
theorem Ro{α:Type}(n:Int)(f:Int->α)(g:Array Value->α):Extern.BytealgMakeNoZero.makeNoZero.match_3 (λ_=>α) #[.int .i64 n] f g=f n:=rfl
theorem Rp{α:Type}(t:TypeId)(r:Nat)(f:TypeId->Nat->α)(e:TypeId->α)(g:Array Value->α):Extern.MapsClone.clone.match_2 (λ_=>α) #[.iface t (.map (some r))] f e g=f t r:=rfl
theorem Rq{α:Type}(b c:Value)(f:Value->Value->α)(g:Array Value->α):Extern.BytealgIndexByte.indexByte.match_2 (λ_=>α) #[b,c] f g=f b c:=rfl
theorem Rr{f:FuncId}{fn:Func}(hf:P.funcs[f]? =some fn)(ag:fn.body=none)(p4:AY P){args:List J}{H bf:aa}{v:J}(h:vk P fn fn.name args H=some (v,bf))
  {μ:bG}{w:World}{vs:List Value}(ah:bD μ H w)(aJ:cy μ args vs):
  ∃u w',(callFunc f ⟨vs⟩).run P w=.ok (.value u) w'/\Ends μ H w (.ret v bf) (.returned u) w':=by
 have call:∀e:Array Value->Sem Value,fn.name∈si->Extern.find fn=some e->(callFunc f ⟨vs⟩).run P w=(do let v<-e ⟨vs⟩;pure (.value v):Sem Next).run P w:=by
  intro e hm he
  have aM:=p4 f fn hf ag hm
  have x7:(fn.name== "runtime.NumGoroutine")=false:=by
   simp only[si,List.mem_cons,List.mem_nil_iff,or_false] at hm
   rcases hm with h|h|h|h<;>rw[h]<;>decide
  rw[run_callFunc_extern hf x7 (by rw[ag];rfl) aM he];simp only[Sem.run_bind];rfl
 unfold vk at h
 split at h
 · rename_i n
   split at h
   · rename_i o0
     split at h
     · rename_i t bh
       split at h
       · rename_i e hu
         split at h
         · rename_i hle
           cases h
           have Dr:n<=1099511627776:=by simpa using hle
           obtain⟨u,us,rfl,ab,ae⟩:=aJ
           cases ab;cases ae
           have bX:∀(t:TypeId),(Question.appendCap n 0 t).forced=false:=λ_=>rfl
           obtain⟨cap,pO,I7⟩:∃cap,(Question.appendCap n 0 e).cut (w.tape w.drawn (Question.appendCap n 0 e))=cap/\n<=cap:=⟨_,rfl,by simp[Question.cut]⟩
           obtain⟨I8,n5⟩:∃x,(Question.extern "internal/bytealg.MakeNoZero.bytes" 0).cut (w.drew.tape w.drew.drawn (Question.extern "internal/bytealg.MakeNoZero.bytes" 0))=x:=⟨_,rfl⟩
           have aj:=I5 cap I8 #[]
           have I9:=ah.drew.drew
           obtain⟨bq,a9⟩:=I9.alloc (.cells (List.replicate n .bad) e .a5 0 0) (.cells (Extern.BytealgMakeNoZero.digits cap I8 #[]) e) cap
            ⟨_,0,0,World.heap_alloc_new _ _,λj v aV=>by
              have C7:j<n:=by
               rcases Nat.lt_or_ge j n with h|h
               · exact h
               · rw[List.getElem?_eq_none (by simpa using h)] at aV;cases aV
              rw[List.getElem?_replicate,if_pos C7] at aV
              cases aV
              refine⟨_,Array.getElem?_eq_getElem (by rw[Nat.zero_add,aj];simp;omega),trivial⟩,by rw[aj];simp,by simpa using I7,λj _ _ h=>by omega⟩
           refine⟨_,_,?_,gX μ H.n ⟨w.drew.drew.heap.size,0,cap⟩,_,rfl,⟨_,gY _ _ _,cap,rfl,I7,by simp⟩,bq,cw.trans ah ah.drew cw.drew (cw.trans ah.drew I9 cw.drew a9)⟩
           rw[call _ (by rw[o0];simp[si]) (Rk o0)]
           have Rs:¬((Int.ofNat n<0||Int.ofNat n>2^48)=true):=by
            have ae:(2:Int)^48=281474976710656:=by rfl
            have aB:Int.ofNat n=(n:Int):=rfl
            rw[ae,aB];simp only[Bool.or_eq_true,decide_eq_true_eq];omega
           have Rt:(Question.extern "internal/bytealg.MakeNoZero.bytes" 0).forced=false:=rfl
           have AZ:(Int.ofNat n).toNat=n:=rfl
           delta Extern.BytealgMakeNoZero.makeNoZero
           rw[Ro]
           simp only[Sem.run_bind,bh,Sem.run_pure,b7 hu,Result.andThen_ok]
           rw[if_neg Rs]
           simp only[Sem.run_bind,run_choose,AZ,bX,Rt,Bool.false_eq_true,if_false,World.drew_eq,pO,Result.andThen_ok,run_askRoom,n5,Sem.run_pure]
           rfl
         · cases h
       · cases h
     · cases h
   · cases h
 · rename_i x _
   obtain⟨u,us,rfl,ab,ae⟩:=aJ
   cases ae
   split at h
   · rename_i o0
     cases h
     refine⟨u,w,?_,μ,u,rfl,ab,ah,cw.refl _ _ _⟩
     rw[call _ (by rw[o0];simp[si]) (Rj o0)]
     rfl
   · split at h
     · rename_i o0
       split at h
       · rename_i t r
         split at h
         · rename_i es c au
           cases h
           obtain⟨y,rfl,i,hi,rfl⟩:=ab
           obtain⟨ents,aF,aG⟩:=ah.rel _ _ i au hi
           have hle:=ah.oN ⟨w.heap.size,0,0⟩
           obtain⟨bq,a9⟩:=ah.alloc (.map es c) (.map ⟨ents⟩ c) 0 ⟨ents,World.heap_alloc_new _ _,aG.mono hle⟩
           refine⟨_,_,?_,gX μ H.n ⟨w.heap.size,0,0⟩,.iface _ (.map (some w.heap.size)),rfl,⟨.map (some w.heap.size),rfl,⟨w.heap.size,0,0⟩,gY _ _ _,rfl⟩,bq,a9⟩
           rw[call _ (by rw[o0];simp[si]) (Rm o0)]
           have h_:(getObj i.bo).run P w=.ok (.map ⟨ents⟩ c) w:=by simp[getObj,Sem.run,aF]
           simp only[Sem.run_bind]
           rw[show(⟨[Value.iface _ (Value.map (some i.bo))]⟩:Array Value)=#[.iface _ (.map (some i.bo))] from rfl]
           delta Extern.MapsClone.clone
           rw[Rp]
           simp only[Sem.run_bind,h_,Result.andThen_ok,run_newObj,Sem.run_pure]
           rfl
         · cases h
       · cases h
     · cases h
 · rename_i s c
   split at h
   · rename_i o0
     split at h
     · rename_i ai
       cases h
       have pJ:c<256:=by simpa using ai
       obtain⟨u,us,rfl,ab,ae⟩:=aJ
       obtain⟨vz,aco,rfl,aB,aP⟩:=ae
       cases aB;cases aP
       obtain⟨t,rfl,rfl⟩:=ab
       refine⟨_,w,?_,μ,_,rfl,rfl,ah,cw.refl _ _ _⟩
       rw[call _ (by rw[o0];simp[si]) (Rl o0)]
       have n5:(Int.ofNat c).toNat.toUInt8=UInt8.ofNat c:=rfl
       have heq:∀b:UInt8,(b==UInt8.ofNat c)=Nat.beq b.toNat c:=λb=>by
        rw[Bool.eq_iff_iff,beq_iff_eq,Nat.beq_eq,<-UInt8.toNat_inj]
        simp[Nat.mod_eq_of_lt pJ]
       delta Extern.BytealgIndexByte.indexByte
       rw[Rq]
       simp only[Sem.run_bind,Extern.Bytes.bytesOf,Extern.Bytes.asByte,Sem.run_pure,Result.andThen_ok,n5,heq]
       have hf:=Rn t (λb=>Nat.beq b.toNat c)
       rw[hf,I6]
       cases t.data.toList.findIdx? (λb=>Nat.beq b.toNat c) with
       |none=>rfl
       |some j=>
        simp only[Nat.zero_add]
        rfl
     · cases h
   · cases h
 · cases h
def tE(P:Program)(intr:Nat->List J->aa->Option (J×aa)):Prop:=
 ∀f args H v bf,intr f args H=some (v,bf)->∀μ w (vs:List Value),bD μ H w->jt P μ->cy μ args vs->vC P f vs w (Ends μ H w (.ret v bf))
theorem Ru{call:aE->List J->aa->ao}(ai:mL P call)(hdr:∀need cG,sg P need cG call)(gm:x2 P)(p4:AY P){f:Nat}{args:List J}{H:aa}(cb:(qL P call f args H).mb=true)
  {μ:bG}{w:World}{vs:List Value}(ah:bD μ H w)(au:jt P μ)(aJ:cy μ args vs):vC P f vs w (Ends μ H w (qL P call f args H)):=by
 unfold qL at cb⊢
 cases hf:P.funcs[f]? with
 |none=>rw[hf] at cb;cases cb
 |some fn=>
  rw[hf] at cb
  simp only at cb⊢
  cases ag:fn.body with
  |none=>
   rw[ag] at cb
   simp only at cb⊢
   cases ad:vk P fn fn.name args H with
   |none=>rw[ad] at cb;cases cb
   |some p=>
    obtain⟨v,bf⟩:=p
    obtain⟨u,w',ab,ae⟩:=Rr hf ag p4 ad ah aJ
    exact .inl ⟨u,w',ab,ae⟩
  |some c=>
   rw[ag] at cb
   simp only at cb⊢
   obtain⟨tD,AW⟩:=gm f fn c hf ag
   exact .inr ⟨DV hf ag AW _ _,Rb ai hdr gm hf ag aJ ah au cb⟩
theorem I_{intr:Nat->List J->aa->Option (J×aa)}(hi:tE P intr)(hdr:∀call,mL P call->∀need cG,sg P need cG call)(gm:x2 P)(p4:AY P):∀n,mL P (gk P intr n)
 |0=>⟨λf args H au=>(by cases au),λl args H au=>(by cases au)⟩
 |n+1=>by
  have bt:=I_ hi hdr gm p4 n
  refine⟨λf args H cb μ w vs ah au aJ=>?_,λl args H cb μ w i vs ah au aD aJ=>?_⟩
  · simp only[gk] at cb⊢
    cases ad:intr f args H with
    |some p=>
     obtain⟨v,bf⟩:=p
     exact hi f args H v bf ad μ w vs ah au aJ
    |none=>
     rw[ad] at cb
     exact Ru bt (hdr _ bt) gm p4 cb ah au aJ
  · simp only[gk] at cb⊢
    exact Rf bt (hdr _ bt) cb ah au aD aJ
end
end aC
namespace aC
open Go
def tF(ops:Array Oper)(S:List Nat):List Nat->Prop
 |[]=>∀i,i<ops.size->i∈S
 |i::rest=>i<ops.size/\i∉S/\(∀o,ops[i]? =some o->∀e∈o.after,Region.binds .any e=true->e.on∈S)/\tF ops (i::S) rest
theorem filter_lt{p q:Nat->Bool}(hx:∀x,q x=true->p x=true):∀(l:List Nat) {i:Nat},i∈l->p i=true->q i=false->(l.filter q).length<(l.filter p).length
 |[],i,h,_,_=>by cases h
 |a::l,i,h,aU,aS=>by
  have hle:∀l:List Nat,(l.filter q).length<=(l.filter p).length:=λl=>by
   induction l with
   |nil=>simp
   |cons b l bt=>
    simp only[List.filter_cons]
    cases ag:q b with
    |true=>simp[hx b ag];exact bt
    |false=>cases p b<;>simp<;>omega
  rcases List.mem_cons.1 h with rfl|h
  · have:=hle l
    simp only[List.filter_cons,aU,aS,if_true,Bool.false_eq_true,if_false,List.length_cons];omega
  · have bt:=filter_lt hx l h aU aS
    simp only[List.filter_cons]
    cases ag:q a with
    |true=>simp[hx a ag];exact bt
    |false=>cases p a<;>simp<;>omega
theorem Rv{ops:Array Oper}(sj:∀o i,ops[i]? =some o->oK o i=true){listed:Array Bool}(bX:listed.size=ops.size)(al:Region.ready .any ops listed=[]):∀i,i<ops.size->listed.getD i true=true:=by
 intro i
 induction i using Nat.strongRecOn with
 |ind i bt=>
  intro hi
  cases aD:listed.getD i true with
  |true=>rfl
  |false=>
   have a7:ops[i]? =some ops[i]:=Array.getElem?_eq_getElem hi
   have:i∈Region.ready .any ops listed:=mem_ready.2 ⟨aD,ops[i],a7,λe he ag=>by
    have:=sj _ _ a7
    unfold oK at this
    rw[List.all_eq_true] at this
    have ae:=this e (by simpa using he)
    simp only[ag,Bool.not_true,Bool.false_or,Nat.blt_eq] at ae
    have aB:=bt e.on ae (by omega)
    have cB:e.on<listed.size:=by omega
    simp[cB] at aB⊢
    exact aB⟩
   rw[al] at this;cases this
theorem Ja{ops:Array Oper}(sj:∀o i,ops[i]? =some o->oK o i=true):∀(fuel t:Nat) (listed:Array Bool) (S:List Nat),listed.size=ops.size->(∀i,i<ops.size->(listed.getD i true=true<->i∈S))->
  ((List.range ops.size).filter λi=>!listed.getD i true).length<=fuel->tF ops S (Region.linearise.go .any ops fuel t listed [])
 |0,t,listed,S,bX,ll,hf=>by
  simp only[Region.linearise.go,List.reverse_nil,tF]
  intro i hi
  rw[<-ll i hi]
  have az:((List.range ops.size).filter λi=>!listed.getD i true)=[]:=List.length_eq_zero_iff.1 (Nat.le_zero.1 hf)
  rw[List.filter_eq_nil_iff] at az
  have:=az i (List.mem_range.2 hi)
  simpa using this
 |fuel+1,t,listed,S,bX,ll,hf=>by
  simp only[Region.linearise.go]
  change tF ops S (match(Region.ready .any ops listed)[t %(Region.ready .any ops listed).length]? with
   |some i=>Region.linearise.go .any ops fuel (t/(Region.ready .any ops listed).length) (listed.setIfInBounds i true) [i]
   |none=>[].reverse)
  cases hi:(Region.ready .any ops listed)[t %(Region.ready .any ops listed).length]? with
  |none=>
   have tG:Region.ready .any ops listed=[]:=by
    cases al:Region.ready .any ops listed with
    |nil=>rfl
    |cons x xs=>
     rw[al] at hi
     have cB:t %(x::xs).length<(x::xs).length:=Nat.mod_lt _ (by simp)
     rw[List.getElem?_eq_getElem cB] at hi;cases hi
   simp only[List.reverse_nil,tF]
   exactλi h=>(ll i h).1 (Rv sj bX tG i h)
  |some i=>
   simp only[]
   rw[linearise_go_acc,List.reverse_singleton,List.singleton_append]
   obtain⟨ab,o,ae,aB⟩:=mem_ready.1 (List.mem_of_getElem? hi)
   have cB:i<ops.size:=(Array.getElem?_eq_some_iff.1 ae).1
   have Dg:i<listed.size:=by omega
   have tu:∀j d,(listed.setIfInBounds i true).getD j d=if j=i then true else listed.getD j d:=λj d=>by
    simp only[Array.getD_eq_getD_getElem?,Array.getElem?_setIfInBounds]
    by_cases e:i=j
    · subst e;simp[Dg]
    · rw[if_neg e,if_neg (λh=>e h.symm)]
   refine⟨cB,λh=>?_,λo' iX e he ag=>?_,Ja sj fuel _ _ _ (by simpa using bX) (λj aV=>?_) ?_⟩
   · have:=(ll i cB).2 h
     rw[ab] at this;cases this
   · rw[ae] at iX;cases iX
     have aP:=aB e he ag
     have A0:e.on<listed.size:=by
      rcases Nat.lt_or_ge e.on listed.size with h|h
      · exact h
      · simp[Array.getElem?_eq_none h] at aP
     rw[<-ll e.on (by omega)]
     simp[A0] at aP⊢
     exact aP
   · rw[tu,List.mem_cons]
     by_cases e:j=i
     · simp[e]
     · rw[if_neg e,ll j aV];simp[e]
   · have acp:((List.range ops.size).filter λj=>!(listed.setIfInBounds i true).getD j true).length<((List.range ops.size).filter λj=>!listed.getD j true).length:=
       filter_lt (λx ad=>by
        rw[tu] at ad
        by_cases e:x=i
        · rw[if_pos e] at ad;cases ad
        · rw[if_neg e] at ad;exact ad) _ (List.mem_range.2 cB) (by rw[ab];rfl) (by rw[tu,if_pos rfl];rfl)
     omega
theorem Rw{ops:Array Oper}(sj:∀o i,ops[i]? =some o->oK o i=true)(t:Nat):tF ops [] (Region.schedule true ops t):=by
 simp only[Region.schedule,Bool.true_or,if_true,Region.linearise]
 refine Ja sj ops.size t _ [] (by simp) (λi hi=>by simp[hi]) ?_
 refine Nat.le_trans (List.length_filter_le _ _) (by simp)
section
variable {P:Program} {g ep:Operand->J}
theorem D1{o:Option Operand}(h:∀x∈o.toArray,g x=ep x):o.map g=o.map ep:=by
 cases o with
 |none=>rfl
 |some x=>simp[h x (by simp)]
theorem x8(o:Oper)(H:aa)(h:∀x∈o.op.operands,g x=ep x):c0 P o g H=c0 P o ep H:=by
 obtain⟨dst,op,type,pos,after,guard⟩:=o
 have A1:∀ps:Array (Nat×Operand),(∀x∈ps.map (·.2),g x=ep x)->(ps.toList.map λp=>(p.1,g p.2))=(ps.toList.map λp=>(p.1,ep p.2)):=λps aU=>
  List.map_congr_left λp hm=>by rw[aU p.2 (Array.mem_map.2 ⟨p,by simpa using hm,rfl⟩)]
 cases op<;>simp only[Op.operands] at h<;>unfold c0
 case build t ps=>simp only[A1 ps λx ad=>h x (by simpa using ad)]
 case buildSlice t n ps=>simp only[A1 ps λx ad=>h x (by simpa using ad)]
 case makeFunc fn first captured=>
  simp only[List.map_congr_left (l:=first.toList) λx ad=>h x (by simp at ad;simp[ad]),List.map_congr_left (l:=captured.toList) λx ad=>h x (by simp at ad;simp[ad])]
 case call c=>
  have bl:c.args.toList.map g=c.args.toList.map ep:=List.map_congr_left λx ad=>h x (by simp at ad;simp[Call.operands,ad])
  simp only[bl]
  cases ai:c.callee with
  |value f=>have hf:g f=ep f:=h f (by simp[Call.operands,ai]);simp only[hf]
  |invoke r m=>have al:g r=ep r:=h r (by simp[Call.operands,ai]);simp only[al]
  |builtin b=>rfl
 case defer c=>
  have bl:c.args.toList.map g=c.args.toList.map ep:=List.map_congr_left λx ad=>h x (by simp at ad;simp[Call.operands,ad])
  simp only[bl]
  cases ai:c.callee with
  |value f=>have hf:g f=ep f:=h f (by simp[Call.operands,ai]);simp only[hf]
  |invoke r m=>rfl
  |builtin b=>rfl
 case makeMap t r=>cases r<;>simp_all
 case slice t x lo hi mx=>
  have aF:lo.map g=lo.map ep:=D1 λy bu=>h y (by simp at bu;simp[bu])
  have aG:hi.map g=hi.map ep:=D1 λy bu=>h y (by simp at bu;simp[bu])
  have bJ:mx.map g=mx.map ep:=D1 λy bu=>h y (by simp at bu;simp[bu])
  have dh:g x=ep x:=h x (by simp)
  have iq:∀o:Option Operand,(o.map λo=>kindName (g o))=(o.map g).map kindName:=λo=>by cases o<;>rfl
  have dL:∀o:Option Operand,(o.map λo=>kindName (ep o))=(o.map ep).map kindName:=λo=>by cases o<;>rfl
  simp only[aF,aG,bJ,dh,iq,dL]
 all_goals (first|rfl|(simp_all;done))
theorem x9(o:Op)(b:Nat)(h:∀x∈o.operands,g x=ep x):lM P o g b=lM P o ep b:=by
 have A1:∀ps:Array (Nat×Operand),(∀x∈ps.map (·.2),g x=ep x)->(ps.toList.map λp=>(p.1,g p.2))=(ps.toList.map λp=>(p.1,ep p.2)):=λps aU=>
  List.map_congr_left λp hm=>by rw[aU p.2 (Array.mem_map.2 ⟨p,by simpa using hm,rfl⟩)]
 cases o<;>simp only[Op.operands] at h<;>unfold lM
 case buildSlice t n ps=>simp only[A1 ps λx ad=>h x (by simpa using ad)]
 case makeMap t r=>cases r<;>rfl
 all_goals (first|rfl|(simp_all;done))
theorem Rx{o:Oper}{H bf:aa}{v:J}(ax:kindOf P o.op=.pure)(h:c0 P o g H=.val v bf):bf=H:=by
 have hF:∀{w:String} {x:Option J},gy H w x=.val v bf->bf=H:=λ{w x} e=>by
  cases x with
  |none=>cases e
  |some y=>cases e;rfl
 obtain⟨dst,op,type,pos,after,guard⟩:=o
 cases op<;>simp only[kindOf] at ax<;>(try (cases ax;done))<;>unfold c0 at h<;>simp only at h
 case move=>cases h;rfl
 case assign=>cases h;rfl
 case pick=>
  split at h
  · cases h;rfl
  · cases h;rfl
  · cases h
 case build=>
  repeat' (first|contradiction|(cases h;rfl)|(cases h;done)|split at h)
 case load=>
  repeat' (first|contradiction|(cases h;rfl)|(cases h;done)|exact hF h|split at h)
 case nilCheck=>repeat' (first|contradiction|(cases h;rfl)|(cases h;done)|exact hF h|split at h)
 case binOp=>exact hF h
 case unOp=>repeat' (first|contradiction|(cases h;rfl)|(cases h;done)|exact hF h|split at h)
 case convert s d x=>
  have eb:∀e,P.underlying d≠some (.slice e):=λe he=>by rw[he] at ax;cases ax
  unfold ec at h
  repeat' (first|exact absurd (by assumption) (eb _)|(cases h;rfl)|(cases h;done)|split at h)
 case makeInterface=>repeat' (first|contradiction|(cases h;rfl)|(cases h;done)|exact hF h|split at h)
 case makeFunc=>repeat' (first|contradiction|(cases h;rfl)|(cases h;done)|exact hF h|split at h)
 case makeMap r=>cases r<;>cases ax
 case slice=>exact hF h
 case fieldAddr=>repeat' (first|contradiction|(cases h;rfl)|(cases h;done)|exact hF h|split at h)
 case field=>repeat' (first|contradiction|(cases h;rfl)|(cases h;done)|exact hF h|split at h)
 case indexAddr=>repeat' (first|contradiction|(cases h;rfl)|(cases h;done)|exact hF h|split at h)
 case index=>repeat' (first|contradiction|(cases h;rfl)|(cases h;done)|exact hF h|split at h)
 case lookup=>exact hF h
 case typeAssert=>repeat' (first|contradiction|(cases h;rfl)|(cases h;done)|exact hF h|split at h)
 case extract=>repeat' (first|contradiction|(cases h;rfl)|(cases h;done)|exact hF h|split at h)
 case call c=>
  cases ai:c.callee with
  |value f=>rw[ai] at ax;cases ax
  |invoke r m=>rw[ai] at ax;cases ax
  |builtin b=>
   rw[ai] at ax h
   simp only at h
   cases b<;>simp only at ax<;>(try (cases ax;done))<;>unfold jn at h<;>simp only at h
   all_goals repeat' (first|contradiction|(cases h;rfl)|(cases h;done)|exact hF h|split at h)
end
end aC
namespace aC
open Go
def lQ(ops:Array Oper)(S:List Nat)(j:Nat):Prop:=∀o,ops[j]? =some o->∀e∈o.after,Region.binds .any e=true->e.on∈S
def A2(ops:Array Oper)(S:List Nat):Prop:=∀j∈S,lQ ops S j
def Sound(ops:Array Oper)(j m:Nat):Prop:=∀S,A2 ops S->lQ ops S j->∀b,Nat.testBit m b=true->b∈S
def x_(ops:Array Oper)(n:Nat)(hb:List Nat):Prop:=∀j,j<n->∃m,nth (n-1-j) hb=some m/\Sound ops j m
theorem Ry(a b:Nat)(h:Nat.testBit (1<<<a) b=true):b=a:=by
 rw[Nat.shiftLeft_eq,Nat.one_mul,Nat.testBit_two_pow] at h
 exact(of_decide_eq_true h).symm
theorem Jb{hb:List Nat}{n:Nat}:∀(l:List Edge) (s b:Nat),Nat.testBit (l.foldl (λs e=>match Region.binds .any e with
  |true=>s|||1<<<e.on|||(nth (n-1-e.on) hb).getD 0
  |false=>s) s) b=true->Nat.testBit s b=true\/∃e∈l,Region.binds .any e=true/\(b=e.on\/Nat.testBit ((nth (n-1-e.on) hb).getD 0) b=true)
 |[],s,b,h=>.inl h
 |e::l,s,b,h=>by
  rw[List.foldl_cons] at h
  rcases Jb l _ b h with h|⟨ed,ab,ae⟩
  · cases ag:Region.binds .any e with
    |false=>rw[ag] at h;exact .inl h
    |true=>
     rw[ag] at h
     simp only[Nat.testBit_or,Bool.or_eq_true] at h
     rcases h with(h|h)|h
     · exact .inl h
     · exact .inr ⟨e,by simp,ag,.inl (Ry _ _ h)⟩
     · exact .inr ⟨e,by simp,ag,.inr h⟩
  · exact .inr ⟨ed,by simp[ab],ae⟩
theorem Rz{ops:Array Oper}{hb:List Nat}{n:Nat}{o:Oper}(a7:ops[n]? =some o)(ag:oK o n=true)(hm:x_ ops n hb):Sound ops n (xu hb n o):=by
 intro S ll al b h
 unfold xu at h
 rw[<-Array.foldl_toList] at h
 rcases Jb _ _ _ h with h|⟨e,ab,ae,aB⟩
 · simp at h
 · have he:e∈o.after:=by simpa using ab
   have A0:=al o a7 e he ae
   rcases aB with rfl|aB
   · exact A0
   · have cB:e.on<n:=by
       unfold oK at ag
       rw[List.all_eq_true] at ag
       have:=ag e ab
       simpa[ae] using this
     obtain⟨m,D2,D3⟩:=hm e.on cB
     rw[D2] at aB
     exact D3 S ll (ll _ A0) b aB
theorem x_.cons{ops:Array Oper}{hb:List Nat}{n m:Nat}(h:x_ ops n hb)(hs:Sound ops n m):x_ ops (n+1) (m::hb):=by
 intro j aV
 by_cases e:j=n
 · subst e;exact⟨m,by simp[nth],hs⟩
 · obtain⟨AX,ab,ae⟩:=h j (by omega)
   refine⟨AX,?_,ae⟩
   have:n+1-1-j=(n-1-j)+1:=by omega
   rw[this];exact ab
theorem Jc:∀(l:List Oper) (n:Nat) (loc:List (Nat×Acc)) (k:Nat) (o:Oper),l[k]? =some o->jC (l.take (k+1)) n loc=mA o (n+k) (jC (l.take k) n loc)
 |[],n,loc,k,o,h=>by simp at h
 |x::l,n,loc,0,o,h=>by simp at h;subst h;simp[jC]
 |x::l,n,loc,k+1,o,h=>by
  have an:l[k]? =some o:=by simpa using h
  have bt:=Jc l (n+1) (mA x n loc) k o an
  simp only[List.take_succ_cons,jC]
  rw[bt]
  have:n+1+k=n+(k+1):=by omega
  rw[this]
theorem ya{ops:Array Oper}:∀(l:List Oper) (n:Nat) (loc:List (Nat×Acc)) (hb:List Nat),(∀k,l[k]? =ops[n+k]?)->(∀s∈fK l n loc hb,oK s.o s.i=true)->x_ ops n hb->∀(k:Nat) (o:Oper),l[k]? =some o->
  ∃s,(fK l n loc hb)[k]? =some s/\s.i=n+k/\s.o=o/\s.loc=jC (l.take k) n loc/\Sound ops (n+k) s.fD
 |[],n,loc,hb,aD,he,hm,k,o,h=>by simp at h
 |x::l,n,loc,hb,aD,he,hm,k,o,h=>by
  simp only[fK] at he⊢
  have ad:ops[n]? =some x:=by have:=aD 0;simpa using this.symm
  have ag:oK x n=true:=he ⟨n,x,xu hb n x,loc⟩ (by simp)
  have hs:=Rz ad ag hm
  cases k with
  |zero=>
   simp at h;subst h
   exact⟨_,rfl,rfl,rfl,rfl,hs⟩
  |succ k=>
   obtain⟨s,ab,ae,aB,aP,cg⟩:=ya l (n+1) (mA x n loc) (xu hb n x::hb) (λj=>by have:=aD (j+1);simp at this;rw[this];congr 1;omega) (λs hs=>he s (by simp[hs])) (hm.cons hs) k o (by simpa using h)
   exact⟨s,by simpa using ab,by omega,aB,by simpa[jC] using aP,by rw[show n+(k+1)=n+1+k by omega];exact cg⟩
theorem D4:∀(l:List Oper) (n:Nat) (loc:List (Nat×Acc)) (hb:List Nat),(fK l n loc hb).length=l.length
 |[],_,_,_=>rfl
 |x::l,n,loc,hb=>by simp[fK,D4 l]
theorem vG{ops:Array Oper}:∀{l:List DStep},qM ops l=true->∀s∈l,oK s.o s.i=true
 |[],_,s,h=>by cases h
 |x::l,aj,s,h=>by
  simp only[qM,Bool.and_eq_true] at aj
  rcases List.mem_cons.1 h with rfl|h
  · exact aj.1.1
  · exact vG aj.2 s h
theorem Jd{ops:Array Oper}{s:DStep}:∀{l:List DStep},Ak ops s l=true->∀a2∈l,(∃t,s.o.dst=some t/\t∈mD ops a2.o)\/(∃t,a2.o.dst=some t/\t∈mD ops s.o)->Nat.testBit a2.fD s.i=true
 |[],_,a2,h=>by cases h
 |x::l,aj,a2,h=>by
  simp only[Ak,Bool.and_eq_true] at aj
  rcases List.mem_cons.1 h with rfl|h
  · intro aM
    have ab:=aj.1
    split at ab
    · exact ab
    · rename_i ai
      exfalso
      rw[Bool.or_eq_false_iff] at ai
      rcases aM with⟨t,e,hm⟩|⟨t,e,hm⟩
      · have:=ai.1;rw[e] at this;simp[hm] at this
      · have:=ai.2;rw[e] at this;simp[hm] at this
  · exact Jd aj.2 a2 h
theorem Je{ops:Array Oper}:∀{l:List DStep},qM ops l=true->∀(i j:Nat) (s a2:DStep),i<j->l[i]? =some s->l[j]? =some a2->(∃t,s.o.dst=some t/\t∈mD ops a2.o)\/(∃t,a2.o.dst=some t/\t∈mD ops s.o)->Nat.testBit a2.fD s.i=true
 |[],_,i,j,s,a2,_,h,_=>by simp at h
 |x::l,aj,i,j,s,a2,yb,ab,ae=>by
  simp only[qM,Bool.and_eq_true] at aj
  cases j with
  |zero=>omega
  |succ j=>
   have p5:l[j]? =some a2:=by simpa using ae
   cases i with
   |zero=>
    simp at ab;subst ab
    exact Jd aj.1.2 a2 (List.mem_of_getElem? p5)
   |succ i=>exact Je aj.2 i j s a2 (by omega) (by simpa using ab) p5
structure tH where
 env:List J
 d:List bU
 q:bH
 h:aa
 bg:List (Nat×Nat×aa)
section
variable {P:Program} {need:Nat} {inR:Bool} {call:aE->List J->aa->ao} {ops:Array Oper} {r:a0} {c5:Nat}
def mM(P:Program)(need:Nat)(r:a0)(s:DStep)(env:List J):Operand->J:=λx=>ez s.i env r (c_ P need s.loc x)
inductive tI(P:Program)(need:Nat)(inR:Bool)(call:aE->List J->aa->ao)(ops:Array Oper)(r:a0)(c5:Nat)(s:DStep)(st:tH):tH->Prop where
 |vH (ax:kindOf P s.o.op=.alloc) (hw:e_ (hD P need ops r s.i st.env s)=some false):tI P need inR call ops r c5 s st {st with env:=.aL []::st.env}
 |alloc {v:J} {ob:cJ} (ax:kindOf P s.o.op=.alloc) (hw:e_ (hD P need ops r s.i st.env s)=some true) (bl:lM P s.o.op (mM P need r s st.env) (c5+s.i)=some (v,ob)):
   tI P need inR call ops r c5 s st {st with env:=v::st.env,h:=st.h.set (c5+s.i) (some ob)}
 |pure {v:J} {bO:List bU} {bE:bH} {an:aa} (ax:kindOf P s.o.op=.pure) (he:eA P inR call (hD P need ops r s.i st.env s) s.o (mM P need r s st.env) st.d st.q st.h=.ok v bO bE an):
   tI P need inR call ops r c5 s st {st with env:=v::st.env}
 |eY {v:J} {bO:List bU} {bE:bH} {an:aa} (ax:kindOf P s.o.op=.eY) (a7:∀e m az l,st.bg=(e,m,az)::l->Nat.testBit s.fD e=true)
   (he:eA P inR call (hD P need ops r s.i st.env s) s.o (mM P need r s st.env) st.d st.q st.h=.ok v bO bE an):tI P need inR call ops r c5 s st ⟨v::st.env,bO,bE,an,(s.i,s.fD,st.h)::st.bg⟩
theorem RA{s:DStep}{rest:List DStep}{st:tH}{x:C2}(h:gT P need inR call ops r c5 (s::rest) st.env st.d st.q st.h st.bg=x)(hf:∀w,x≠ .fail w):
  (∃b_,tI P need inR call ops r c5 s st b_/\gT P need inR call ops r c5 rest b_.env b_.d b_.q b_.h b_.bg=x)\/
  (kindOf P s.o.op=.eY/\(∀e m az l,st.bg=(e,m,az)::l->Nat.testBit s.fD e=true)/\rest.all (λa2=>Nat.testBit a2.fD s.i)=true/\
   ∃v bO bE an,eA P inR call (hD P need ops r s.i st.env s) s.o (mM P need r s st.env) st.d st.q st.h=.bp v bO bE an/\x=.bp v st.env bO bE an ((s.i,s.fD,st.h)::st.bg)):=by
 simp only[gT] at h
 split at h
 · rename_i ax
   split at h
   · exact absurd h.symm (hf _)
   · rename_i hw;exact .inl ⟨_,.vH ax hw,h⟩
   · rename_i hw
     split at h
     · rename_i v ob bl;exact .inl ⟨_,.alloc ax hw bl,h⟩
     · exact absurd h.symm (hf _)
 · rename_i ax
   split at h
   · rename_i he;exact .inl ⟨_,.pure ax he,h⟩
   · exact absurd h.symm (hf _)
   · exact absurd h.symm (hf _)
 · rename_i ax
   split at h
   · exact absurd h.symm (hf _)
   · rename_i a7
     have iX:∀e m az l,st.bg=(e,m,az)::l->Nat.testBit s.fD e=true:=λe m az l hs=>by rw[hs] at a7;exact a7
     split at h
     · rename_i he;exact .inl ⟨_,.eY ax iX he,h⟩
     · rename_i he
       split at h
       · rename_i gm;exact .inr ⟨ax,iX,gm,_,_,_,_,he,h.symm⟩
       · exact absurd h.symm (hf _)
     · exact absurd h.symm (hf _)
theorem Jf:∀(l:List DStep) (st:tH) (x:C2),gT P need inR call ops r c5 l st.env st.d st.q st.h st.bg=x->(∀w,x≠ .fail w)->
  ∃(f:Nat->tH) (N:Nat),f 0=st/\N<=l.length/\(∀k s,k<N->l[k]? =some s->tI P need inR call ops r c5 s (f k) (f (k+1)))/\
   ((N=l.length/\x=.ok (f N).env (f N).d (f N).q (f N).h (f N).bg)\/
    (∃s,l[N]? =some s/\kindOf P s.o.op=.eY/\(∀e m az l,(f N).bg=(e,m,az)::l->Nat.testBit s.fD e=true)/\(∀k a2,N<k->l[k]? =some a2->Nat.testBit a2.fD s.i=true)/\
     ∃v bO bE an,eA P inR call (hD P need ops r s.i (f N).env s) s.o (mM P need r s (f N).env) (f N).d (f N).q (f N).h=.bp v bO bE an/\x=.bp v (f N).env bO bE an ((s.i,s.fD,(f N).h)::(f N).bg)))
 |[],st,x,h,hf=>⟨λ_=>st,0,rfl,Nat.le_refl _,λk s ax=>by omega,.inl ⟨rfl,h.symm⟩⟩
 |s::l,st,x,h,hf=>by
  rcases RA h hf with⟨b_,ab,ae⟩|⟨ab,ae,aB,aP⟩
  · obtain⟨f,N,aq,ak,aQ,a3⟩:=Jf l b_ x ae hf
    refine⟨λk=>match k with|0=>st|k+1=>f k,N+1,rfl,by simpa using ak,λk a2 ax hs=>?_,?_⟩
    · cases k with
      |zero=>simp at hs;subst hs;simp only[Nat.zero_add,aq];exact ab
      |succ k=>exact aQ k a2 (by omega) (by simpa using hs)
    · rcases a3 with⟨aF,aG⟩|⟨s2,aF,aG,bJ,dh,iq⟩
      · exact .inl ⟨by simp[aF],aG⟩
      · refine .inr ⟨s2,by simpa using aF,aG,bJ,λk a2 ax hs=>?_,iq⟩
        cases k with
        |zero=>omega
        |succ k=>exact dh k a2 (by omega) (by simpa using hs)
  · refine⟨λ_=>st,0,rfl,by simp,λk s ax=>by omega,.inr ⟨s,rfl,ab,ae,λk a2 ax hs=>?_,aP⟩⟩
    cases k with
    |zero=>omega
    |succ k=>
     rw[List.all_eq_true] at aB
     exact aB a2 (List.mem_of_getElem? (by simpa using hs))
mutual
theorem beq_eq:∀(a c:J),J.beq a c=true->a=c
 |.bool a,c,h=>by
  cases c<;>simp only[J.beq] at h<;>first|(cases h;done)|(simp at h;subst h;rfl)
 |.int k n,c,h=>by
  cases c<;>simp only[J.beq] at h<;>first|(cases h;done)|(simp[ba] at h;obtain⟨rfl,rfl⟩:=h;rfl)
 |.str s,c,h=>by
  cases c<;>simp only[J.beq] at h<;>first|(cases h;done)|(rw[oR] at h;simp at h;subst h;rfl)
 |.bb,c,h=>by cases c<;>simp only[J.beq] at h<;>first|(cases h;done)|rfl
 |.ptr x y,c,h=>by
  cases c<;>simp only[J.beq] at h<;>first|(cases h;done)|(rw[Bool.and_eq_true,Nat.beq_eq,Nat.beq_eq] at h;obtain⟨rfl,rfl⟩:=h;rfl)
 |.aA,c,h=>by cases c<;>simp only[J.beq] at h<;>first|(cases h;done)|rfl
 |.slice x y z cap,c,h=>by
  cases c<;>simp only[J.beq] at h<;>(try (cases h;done))
  rename_i x' At acq RB
  simp only[Bool.and_eq_true,Nat.beq_eq] at h
  obtain⟨⟨⟨rfl,rfl⟩,rfl⟩,h⟩:=h
  cases cap<;>cases RB<;>simp only[cE.beq] at h<;>first|(cases h;done)|(rw[Nat.beq_eq] at h;subst h;rfl)|rfl
 |.iR,c,h=>by cases c<;>simp only[J.beq] at h<;>first|(cases h;done)|rfl
 |.map x,c,h=>by
  cases c<;>simp only[J.beq] at h<;>first|(cases h;done)|(rw[Nat.beq_eq] at h;subst h;rfl)
 |.gj,c,h=>by cases c<;>simp only[J.beq] at h<;>first|(cases h;done)|rfl
 |.fn x as bs,c,h=>by
  cases c<;>simp only[J.beq] at h<;>(try (cases h;done))
  simp only[Bool.and_eq_true,Nat.beq_eq] at h
  obtain⟨⟨rfl,ab⟩,ae⟩:=h
  rw[vI _ _ ab,vI _ _ ae]
 |.ca x,c,h=>by
  cases c<;>simp only[J.beq] at h<;>first|(cases h;done)|(rw[Nat.beq_eq] at h;subst h;rfl)
 |.fy,c,h=>by cases c<;>simp only[J.beq] at h<;>first|(cases h;done)|rfl
 |.iface t v,c,h=>by
  cases c<;>simp only[J.beq] at h<;>(try (cases h;done))
  simp only[Bool.and_eq_true,Nat.beq_eq] at h
  obtain⟨rfl,ab⟩:=h
  rw[beq_eq _ _ ab]
 |.agg cs,c,h=>by
  cases c<;>simp only[J.beq] at h<;>(try (cases h;done))
  rw[vI _ _ h]
 |.aL cs,c,h=>by
  cases c<;>simp only[J.beq] at h<;>(try (cases h;done))
  rw[vI _ _ h]
 |.bad,c,h=>by cases c<;>simp only[J.beq] at h<;>cases h
theorem vI:∀(a c:List J),J.nS a c=true->a=c
 |[],[],_=>rfl
 |[],_::_,h=>by simp[J.nS] at h
 |_::_,[],h=>by simp[J.nS] at h
 |x::a,y::c,h=>by
  simp only[J.nS,Bool.and_eq_true] at h
  rw[beq_eq _ _ h.1,vI _ _ h.2]
end
end
end aC
