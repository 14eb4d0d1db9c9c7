/-
  PROVED HERE: contracts of functions (Ax). No condition beside each statement's own.
-/
import Derived.Test.YtlelojncabdnoaaDoorAed
import Derived.OpenShut
import Derived.ChangeSame
import Derived.Lay
import Derived.Laws.IdiomRangeMap
import Derived.Test.YtlelojncabdnoaaDoorSxa
set_option linter.unusedVariables false
set_option linter.unusedSimpArgs false
namespace aS
open Go Go.RowKit
section
variable {P:Program}
end
open Go Go.ChangeShapes Go.WideShapes Go.ChangeAt Go.RowKit
mutual
def zm(G n:Nat):I->I
 |.bad=>.bad
 |.bool b=>.bool b
 |.int k x=>.int k x
 |.str s=>.str s
 |.c_=>.c_
 |.ptr b o=>match Nat.blt b G with
  |true=>.bad
  |false=>.ptr (b-G+n) o
 |.bn=>.bn
 |.slice b o l c=>match Nat.blt b G with
  |true=>.bad
  |false=>.slice (b-G+n) o l c
 |.fy=>.fy
 |.map r=>match Nat.blt r G with
  |true=>.bad
  |false=>.map (r-G+n)
 |.h5=>.h5
 |.fn f a b=>.fn f (ug G n a) (ug G n b)
 |.b7 l=>.bad
 |.ej=>.ej
 |.iface t v=>.iface t (zm G n v)
 |.agg cs=>.agg (ug G n cs)
 |.aF vs=>.aF (ug G n vs)
def ug(G n:Nat):List I->List I
 |[]=>[]
 |v::vs=>zm G n v::ug G n vs
end
def Pg(G n:Nat)(e:dj):dj:=⟨zm G n e.key,zm G n e.val,e.born⟩
def Ph(G n:Nat):b8->Option b8
 |.cells cs el k bB ag=>some (.cells (ug G n cs) el k bB ag)
 |.map es c=>some (.map (es.map (Pg G n)) c)
 |_=>none
section
variable {P:Program}
def CR(i1 i2:Nat->List I->J->Option (I×J))(f:Nat)(args:List I)(h:J):Option (I×J):=match i1 f args h with
 |some r=>some r
 |none=>i2 f args h
theorem Pj{i1 i2:Nat->List I->J->Option (I×J)}(h1:hy P i1)(aa:hy P i2):hy P (CR i1 i2):=by
 intro f args H v aD U
 unfold CR at U
 split at U
 · rename_i r aj
   cases U
   exact h1 f args H v aD aj
 · exact aa f args H v aD U
end
section
variable {P:Program}
end
section
variable {P:Program}
end
section
variable {P:Program}
end
section
variable {P:Program}
end
def mL(G n:Nat)(h:J):List (Nat×b8)->J
 |[]=>h
 |(b,o)::l=>(mL G n h l).set (b-G+n) (Ph G n o)
section
variable {P:Program}
end
section
variable {P:Program}
def gJ(P:Program)(need br:Nat)(rd:Option Nat)(c:Code)(r:aN)(d:List bw)(q:az)(H:J)(R:aU->aN->List bw->az->J->Prop):Prop:=
 ∀(b:Frame) (μ:bd) (w:World) (a:Act) (k:List Item) (cs0 cs:List Frame),lU μ b rd->hG need μ r a.tmps->a.tmps.size=br->bg μ H w->fR P μ->eD μ d a.defers->gp μ b.kind cs0 q cs->
  ∃e r' d' aX aD,R e r' d' aX aD/\jK P need br μ H w b k cs0 (lone (b.atR a (.code c::k)) cs w) (.ok e r' d' aX aD)
variable {need br:Nat} {rd:Option Nat} {r:aN} {d:List bw} {q:az} {H:J} {R R1 jS:aU->aN->List bw->az->J->Prop}
theorem gJ.of_run{call:cJ}(ab:iY P call)(hdr:∀need br,j5 P need br call){c:Code}(cP:fQ br c=true){e:aU}{r':aN}{d':List bw}{aX:az}{aD:J}
  (h:cX P need rd call c r d q H=.ok e r' d' aX aD)(dJ:R e r' d' aX aD):gJ P need br rd c r d q H R:=λb μ w a k cs0 cs b1 aj bp af an ak bj=>by
 have h1:=nv ab (hdr need br) (yo ab) rd c cP b r d q H μ w a k cs0 cs b1 aj bp af an ak bj
 rw[h] at h1
 exact⟨e,r',d',aX,aD,dJ,h1⟩
theorem gJ.mono{c:Code}(h:gJ P need br rd c r d q H R1)(hm:∀e r' d' aX aD,R1 e r' d' aX aD->jS e r' d' aX aD):gJ P need br rd c r d q H jS:=λb μ w a k cs0 cs b1 aj bp af an ak bj=>by
 obtain⟨e,r',d',aX,aD,h1,aa⟩:=h b μ w a k cs0 cs b1 aj bp af an ak bj
 exact⟨e,r',d',aX,aD,hm _ _ _ _ _ h1,aa⟩
theorem gJ.seq{x y:Code}(h:gJ P need br rd x r d q H R1)(aa:∀r' d' aX aD,R1 .nrm r' d' aX aD->gJ P need br rd y r' d' aX aD jS)(ao:∀e r' d' aX aD,e≠ .nrm->R1 e r' d' aX aD->jS e r' d' aX aD):gJ P need br rd (.seq x y) r d q H jS:=λb μ w a k cs0 cs b1 aj bp af an ak bj=>by
 obtain⟨e,r',d',aX,aD,bt,bA⟩:=h b μ w a (.code y::k) cs0 cs b1 aj bp af an ak bj
 obtain⟨aL,w',b_,bC,s1,s2,bz,bT,b0,cC,cY⟩:=bA
 by_cases he:e=.nrm
 · subst he
   obtain⟨au,bH,d2,bb,cy,m1,m2⟩:=aa _ _ _ _ bt b aL w' b_ k cs0 bC (b1.mono b0.le) s2 bz bT (an.mono b0.le) cC cY
   exact⟨au,bH,d2,bb,cy,m1,m2.of_steps af bT (Steps.head stepR_seq s1) b0⟩
 · exact⟨e,r',d',aX,aD,ao _ _ _ _ _ he bt,aL,w',b_,bC,(s1.pass (λid h=>by cases h) he).of_steps (.one stepR_seq),s2,bz,bT,b0,cC,cY⟩
def wM(id:Nat):aU->aU
 |.exit i=>if i=id then .nrm else .exit i
 |e=>e
theorem gJ.block{id:Nat}{c:Code}(h:gJ P need br rd c r d q H R1)(hm:∀e r' d' aX aD,R1 e r' d' aX aD->jS (wM id e) r' d' aX aD):gJ P need br rd (.block id c) r d q H jS:=λb μ w a k cs0 cs b1 aj bp af an ak bj=>by
 obtain⟨e,r',d',aX,aD,bt,bA⟩:=h b μ w a (.inBlock id::k) cs0 cs b1 aj bp af an ak bj
 refine⟨wM id e,r',d',aX,aD,hm _ _ _ _ _ bt,?_⟩
 obtain⟨aL,w',b_,bC,s1,s2,bz,bT,b0,cC,cY⟩:=bA
 cases e with
 |nrm=>exact⟨aL,w',b_,bC,Steps.head stepR_block (Steps.trans s1 (.one stepR_inBlock)),s2,bz,bT,b0,cC,cY⟩
 |exit i=>
  obtain⟨cO,av,au⟩:=s1
  by_cases oZ:i=id
  · simp only[wM,oZ,if_true]
    subst oZ
    have bm:exitTo i cO=some k:=by rw[av];simp[exitTo]
    exact⟨aL,w',b_,bC,Steps.head stepR_block (Steps.trans au (.one (stepR_exit bm))),s2,bz,bT,b0,cC,cY⟩
  · simp only[wM,if_neg oZ]
    have:(id==i)=false:=by simp;exactλh=>oZ h.symm
    exact⟨aL,w',b_,bC,⟨cO,av.trans (by simp[exitTo,this]),Steps.head stepR_block au⟩,s2,bz,bT,b0,cC,cY⟩
 |ret=>obtain⟨cO,au⟩:=s1;exact⟨aL,w',b_,bC,⟨cO,Steps.head stepR_block au⟩,s2,bz,bT,b0,cC,cY⟩
 |goto l=>exact s1.elim
 |bu v=>obtain⟨cO,u,av,au⟩:=s1;exact⟨aL,w',b_,bC,⟨cO,u,av,Steps.head stepR_block au⟩,s2,bz,bT,b0,cC,cY⟩
def Pk(inv:Nat->aN->List bw->az->J->Prop)(n:Nat)(R:aU->aN->List bw->az->J->Prop):aU->aN->List bw->az->J->Prop:=λe r d q H=>(e=.nrm/\∃m,m<n/\inv m r d q H)\/(e≠ .nrm/\R e r d q H)
theorem gJ.loop{c:Code}(inv:Nat->aN->List bw->az->J->Prop)(k0:∀n r d q H,inv n r d q H->gJ P need br rd c r d q H (Pk inv n R))(gx:Nat)(aA:inv gx r d q H):gJ P need br rd (.loop c) r d q H R:=λb μ w a k cs0 cs b1 aj bp af an ak bj=>by
 have key:∀(n m:Nat),m<n->∀(r:aN) (d:List bw) (q:az) (H:J) (μ:bd) (w:World) (a:Act) (cs:List Frame),inv m r d q H->lU μ b rd->hG need μ r a.tmps->a.tmps.size=br->bg μ H w->fR P μ->eD μ d a.defers->gp μ b.kind cs0 q cs->
   ∃e r' d' aX aD,R e r' d' aX aD/\jK P need br μ H w b k cs0 (lone (b.atR a (.code c::.inLoop c::k)) cs w) (.ok e r' d' aX aD):=by
  intro n
  induction n with
  |zero=>intro m hm;omega
  |succ n bc=>
   intro m hm r d q H μ w a cs ag b1 aj bp af an ak bj
   obtain⟨e,r',d',aX,aD,bt,aL,w',b_,bC,s1,s2,bz,bT,b0,cC,cY⟩:=k0 m r d q H ag b μ w a (.inLoop c::k) cs0 cs b1 aj bp af an ak bj
   rcases bt with⟨rfl,o0,pX,dV⟩|⟨he,dJ⟩
   · obtain⟨au,bH,d2,bb,cy,m1,m2⟩:=bc o0 (by omega) r' d' aX aD aL w' b_ bC dV (b1.mono b0.le) s2 bz bT (an.mono b0.le) cC cY
     exact⟨au,bH,d2,bb,cy,m1,m2.of_steps af bT (Steps.trans s1 (.one stepR_inLoop)) b0⟩
   · exact⟨e,r',d',aX,aD,dJ,aL,w',b_,bC,s1.pass (λid h=>by cases h) he,s2,bz,bT,b0,cC,cY⟩
 obtain⟨e,r',d',aX,aD,bt,bA⟩:=key (gx+1) gx (by omega) r d q H μ w a cs aA b1 aj bp af an ak bj
 exact⟨e,r',d',aX,aD,bt,bA.of_steps af af (.one stepR_loop) (bN.refl _ _ _)⟩
theorem CS{μ:bd}:∀{es:List dj} {ms:List MapEntry},eE μ es ms->∀m∈ms,∃e∈es,pN μ e m
 |[],_,h,m,hm=>by cases h;cases hm
 |e::es,_,⟨m0,ms,rfl,h1,aa⟩,m,hm=>by
  rcases List.mem_cons.1 hm with rfl|hm
  · exact⟨e,by simp,h1⟩
  · obtain⟨cw,ao,aI⟩:=CS aa m hm
    exact⟨cw,by simp[ao],aI⟩
theorem HK{μ:bd}:∀{es:List dj} {ms:List MapEntry},eE μ es ms->∀e∈es,∃m∈ms,pN μ e m
 |[],_,h,m,hm=>by cases hm
 |e::es,_,⟨m0,ms,rfl,h1,aa⟩,m,hm=>by
  rcases List.mem_cons.1 hm with rfl|hm
  · exact⟨m0,by simp,h1⟩
  · obtain⟨cw,ao,aI⟩:=HK aa m hm
    exact⟨cw,by simp[ao],aI⟩
theorem Pl{μ:bd}{w:World}(af:bg μ H w){t:TypeId}{mM m since last clock:Nat}{seen:List Nat}{es:List dj}{oV:Value}(ag:a1 μ (.ptr mM 0) oV)
  (uh:H.get mM=some (.mapIter (some m) since seen last))(hm:H.get m=some (.map es clock))(hold:∀e∈es,e.born<since)(jt:since<=last):
  ((∀e∈es,e.born∈seen)/\ep P μ H w (Instr.next oV false t) (.aF [.bool false]) H)\/
  ∃e∈es,e.born∉seen/\ep P μ H w (Instr.next oV false t) (.aF [.bool true,e.key,e.val]) (H.set mM (some (.mapIter (some m) since (seen++[e.born]) clock))):=by
 obtain⟨i,gg,rfl⟩:=ag
 obtain⟨er,j,aG,av⟩:=af.rel _ _ i uh gg
 obtain⟨gF,i0,vq⟩:=i
 simp only at er;subst er
 have p7:w.heap[gF]? =some (.mapIter (some j.a6) since ⟨seen⟩ last):=av
 obtain⟨ents,f1,f2⟩:=af.rel _ _ j hm aG
 have fc:(getObj gF).run P w=.ok (.mapIter (some j.a6) since ⟨seen⟩ last) w:=by simp[getObj,Sem.run,p7]
 have x_:(getObj j.a6).run P w=.ok (.map ⟨ents⟩ clock) w:=by simp[getObj,Sem.run,f1]
 have HL:∀x∈(⟨ents⟩:Array MapEntry).toList,x.born<since:=λx U=>by
  obtain⟨e,he,aj⟩:=CS f2 x U
  rw[<-aj.2.2];exact hold e he
 have HM:=next_test_false ⟨seen⟩ ⟨ents⟩ since last HL jt
 have nu:∀x∈(Array.filter (λe=>!(⟨seen⟩:Array Nat).contains e.born) (⟨ents⟩:Array MapEntry)).toList,x.born<since:=λx U=>HL x (by simp at U⊢;exact U.1)
 have dC:∀x∈(Array.filter (λe=>!(⟨seen⟩:Array Nat).contains e.born) (⟨ents⟩:Array MapEntry)).toList,x∈ents/\x.born∉seen:=λx U=>by
  simp at U;exact U
 have dD:(Array.filter (λe=>!(⟨seen⟩:Array Nat).contains e.born) (⟨ents⟩:Array MapEntry)).size=0->∀x∈ents,x.born∈seen:=λaA x U=>by
  by_cases ad:x.born∈seen
  · exact ad
  · exfalso
    have:x∈Array.filter (λe=>!(⟨seen⟩:Array Nat).contains e.born) (⟨ents⟩:Array MapEntry):=by simp;exact⟨U,ad⟩
    rw[Array.eq_empty_of_size_eq_zero aA] at this
    simp at this
 generalize hY:Array.filter (λe=>!(⟨seen⟩:Array Nat).contains e.born) (⟨ents⟩:Array MapEntry)=L at nu dC dD
 have g1:L.filter (λx=>decide (x.born<since))=L:=Array.filter_eq_self.2 (λx U=>by simpa using nu x (by simpa using U))
 have g2:L.filter (λx=>decide (x.born>=since))=#[]:=by
  rw[Array.filter_eq_empty_iff]
  intro x U
  have:=nu x (by simpa using U)
  simp
  omega
 by_cases aA:L.size=0
 · left
   refine⟨λe he=>?_,?_⟩
   · obtain⟨x,U,aj⟩:=HK f2 e he
     rw[aj.2.2];exact dD aA x U
   · refine .same af (v':=.tuple #[.bool false]) ?_ ⟨_,rfl,_,_,rfl,rfl,rfl⟩
     simp only[Instr.next,Sem.run_bind,fc,x_,Result.andThen_ok,HM,Bool.false_eq_true,if_false]
     rw[hY]
     simp only[g1,g2,Array.append_empty]
     have:L=#[]:=Array.eq_empty_of_size_eq_zero aA
     subst this
     simp[choose,Sem.run,Question.forced]
 · right
   have b9:L.isEmpty=false:=by simp[Array.isEmpty,aA]
   have Pm:∃(pg:Nat) (b5:World),pg<L.size/\b5.heap=w.heap/\b5.os=w.os/\b5.output=w.output/\b5.tape=w.tape/\w.drawn<=b5.drawn/\(choose (Question.mapNext L.size)).run P w=.ok pg b5:=by
    by_cases hf:L.size<=1
    · exact⟨0,w,by omega,rfl,rfl,rfl,rfl,Nat.le_refl _,by simp[choose,Sem.run,Question.forced,hf]⟩
    · exact⟨_,w.drew,Nat.mod_lt _ (by omega),rfl,rfl,rfl,rfl,Nat.le_succ _,by
       simp only[choose,Sem.run,Question.forced,decide_eq_true_eq,hf,if_false,Question.cut]
       rfl⟩
   obtain⟨pg,b5,Pn,bO,a2,a3,a4,a5,de⟩:=Pm
   obtain⟨ui,Po⟩:=dC L[pg] (by simp)
   obtain⟨e,he,aj⟩:=CS f2 L[pg] ui
   refine⟨e,he,by rw[aj.2.2];exact Po,?_⟩
   have gN:=af.of_heap bO
   have AY:gF<b5.heap.size:=by rw[bO];exact(af.lt _ _ gg).2
   obtain⟨ba,bH⟩:=gN.update (w':={b5 with heap:=b5.heap.setIfInBounds gF (.mapIter (some j.a6) since ⟨seen++[e.born]⟩ clock)}) (o':=.mapIter (some m) since (seen++[e.born]) clock) uh rfl gg (by simp) (λr aj=>by simp[Array.getElem?_setIfInBounds];intro e;exact absurd e.symm aj) rfl rfl rfl
    ⟨rfl,j,aG,by simp[AY]⟩
   refine⟨μ,_,.tuple #[.bool true,L[pg].key,L[pg].val],?_,⟨_,rfl,_,_,rfl,rfl,_,_,rfl,aj.1,_,_,rfl,aj.2.1,rfl⟩,ba,bN.trans af gN (bN.of_heap bO a2 a3 a4 a5) bH⟩
   have Pp:b5.heap[gF]? =some (.mapIter (some j.a6) since ⟨seen⟩ last):=by rw[bO];exact p7
   have oW:(setObj gF (.mapIter (some j.a6) since ((⟨seen⟩:Array Nat).push L[pg].born) clock)).run P b5=.ok () {b5 with heap:=b5.heap.setIfInBounds gF (.mapIter (some j.a6) since ⟨seen++[e.born]⟩ clock)}:=by
    have:((⟨seen⟩:Array Nat).push L[pg].born)=⟨seen++[e.born]⟩:=by rw[aj.2.2];apply Array.ext';simp
    rw[this]
    simp[setObj,Sem.run,Pp]
   simp only[Instr.next,Sem.run_bind,fc,x_,Result.andThen_ok,HM,Bool.false_eq_true,if_false]
   rw[hY]
   simp only[g1,g2,Array.append_empty,b9,Bool.false_eq_true,if_false,Array.empty_append,Array.size_map,de,Result.andThen_ok,Array.getElem?_map,Array.getElem?_eq_getElem Pn,Option.map_some,Sem.run_bind,oW]
   rfl
theorem gJ.next{call:cJ}(ab:iY P call){id:Nat}{ops:Array Oper}{o:Oper}{rest:List Oper}(aQ:ops.toList=o::rest){it:Operand}(dW:o.op=.next it false)(eb:o.guard=none)(cP:fQ br (.region id ops false)=true)
  {mM m since last clock:Nat}{seen:List Nat}{es:List dj}(CT:cv 0 [] r (bX P need [] it)=.ptr mM 0)(uh:H.get mM=some (.mapIter (some m) since seen last))(hm:H.get m=some (.map es clock))(hold:∀e∈es,e.born<since)(jt:since<=last)
  (sA:(∀e∈es,e.born∈seen)->∃cw r' d' aX aD,lJ need r (iJ P need ops rest (gl o 0 []) 1) (hr P need rd.isSome call r (ju P need ops rest (gl o 0 []) 1) [.aF [.bool false]] d q H)=.ok cw r' d' aX aD/\R cw r' d' aX aD)
  (eW:∀e∈es,e.born∉seen->∃cw r' d' aX aD,lJ need r (iJ P need ops rest (gl o 0 []) 1) (hr P need rd.isSome call r (ju P need ops rest (gl o 0 []) 1) [.aF [.bool true,e.key,e.val]] d q (H.set mM (some (.mapIter (some m) since (seen++[e.born]) clock))))=.ok cw r' d' aX aD/\R cw r' d' aX aD):
  gJ P need br rd (.region id ops false) r d q H R:=λb μ w a k cs0 cs b1 aj bp af an ak bj=>by
 simp only[fQ,Bool.and_eq_true,List.all_eq_true] at cP
 have hK:∀o∈ops.toList,∀t,o.dst=some t->t<br:=λo aQ t bk=>by
  have:=cP.1 o aQ
  rw[bk] at this
  simpa using this
 have HN:=hv.init (P:=P) (need:=need) aj
 have dK:=HN.eval (a:=a) an it
 rw[CT] at dK
 have HO:ops[0]? =some o:=by rw[<-Array.getElem?_toList,aQ];rfl
 have nu:o∈ops.toList:=by rw[aQ];simp
 have rB:∀t,o.dst=some t->t<a.tmps.size:=λt h=>by rw[bp];exact hK o nu t h
 have Pq:ops.size=rest.length+1:=by
  have:=congrArg List.length aQ
  simpa using this
 have Pr:List.range ops.size=0::List.range' 1 rest.length:=by rw[Pq,List.range_eq_range',List.range'_succ]
 have key:∀(v:I) (H1:J),ep P μ H w (Instr.next (a.eval it) false o.type) v H1->
   jK P need br μ H w b k cs0 (lone (b.atR a (.code (.region id ops false)::k)) cs w) (lJ need r (iJ P need ops rest (gl o 0 []) 1) (hr P need rd.isSome call r (ju P need ops rest (gl o 0 []) 1) [v] d q H1)):=by
  intro v H1 aM
  obtain⟨aL,w',u,de,hu,BI,ja⟩:=aM
  have hw:Region.wanted o (yielded ops a.tmps)=true:=by simp[Region.wanted,eb]
  have bW:=stepGR_op (P:=P) (b:=b) (a:=a) (k:=k) (cs:=cs) (w:=w) (rest:=List.range' 1 rest.length) HO hw
  have lQ:o.semAt b.roundOf a.eval=execOp a.eval o:=Oper.semAt_eq _ _ _ λc e=>by rw[dW] at e;cases e
  rw[lQ] at bW
  obtain⟨g1,_⟩:=ry bW
  have hex:(execOp a.eval o).run P w=.ok (.value u) w':=by
   have:execOp a.eval o=(do pure (.value (<-Instr.next (a.eval it) false o.type))):=by
    obtain⟨dst,op,type,pos,after,guard⟩:=o
    simp only at dW
    subst dW
    rfl
   rw[this]
   simp only[Sem.run_bind,de,Result.andThen_ok]
   rfl
  have ad:=g1 u w' hex
  have hW:(b.atR a (.inRegion ops (0::List.range' 1 rest.length)::k)).finish u=b.atR (a.put o.dst u) (.inRegion ops (List.range' 1 rest.length)::k):=by
   rw[Frame.finish_atR,HO];rfl
  rw[hW] at ad
  have vB:=(HN.mono ja.le).step (a:=a) (o:=o) rB hu
  have j2:ops.toList.drop 1=rest:=by rw[aQ];rfl
  have bc:=yk (P:=P) (need:=need) (k:=k) ab hK (b:=b) (inR:=rd.isSome) b1.isSome (r:=r) (cs0:=cs0) rest 1 (gl o 0 []) 1 [v] d q aL H1 w' (a.put o.dst u) cs j2 rfl vB ((rA _ _ _).trans bp) BI (an.mono ja.le) (by rw[put_defers];exact ak.mono ja.le) (bj.mono ja.le)
  have aa:=lT.code bc
  refine jK.of_steps af BI (Steps.trans (.one stepR_region) ?_) ja aa
  rw[Pr]
  exact ad
 rcases Pl (P:=P) af (t:=o.type) dK uh hm hold jt with⟨dD,aM⟩|⟨e,he,jJ,aM⟩
 · obtain⟨cw,r',d',aX,aD,h1,aa⟩:=sA dD
   have:=key _ _ aM
   rw[h1] at this
   exact⟨cw,r',d',aX,aD,aa,this⟩
 · obtain⟨cw,r',d',aX,aD,h1,aa⟩:=eW e he jJ
   have:=key _ _ aM
   rw[h1] at this
   exact⟨cw,r',d',aX,aD,aa,this⟩
end
section
variable {P:Program} {fn:Func} {rd:Option Nat} {call:cJ}
def dp(P:Program)(fn:Func)(rd:Option Nat)(p:List Nat)(st:aB)(R:aU->aB->Prop):Prop:=
 ∀r,Mod r st.Γ->gJ P (bG fn) fn.ntmps rd (sub (c5 fn) p) r st.d st.q st.h (λe r' d' aX ah=>∃cu,Mod r' cu/\R e ⟨cu,d',aX,ah⟩)
theorem dp.of_run(ab:iY P call)(hdr:∀need br,j5 P need br call){p:List Nat}{st bq:aB}{e:aU}(cP:fQ fn.ntmps (sub (c5 fn) p)=true)(h:aZ P fn rd call p st e bq){R:aU->aB->Prop}(dJ:R e bq):dp P fn rd p st R:=λr aj=>by
 obtain⟨r',h1,aa⟩:=h r aj
 exact gJ.of_run ab hdr cP h1 ⟨bq.Γ,aa,dJ⟩
theorem dp.seq{p:List Nat}{st:aB}{R1 jS:aU->aB->Prop}(ad:oe (sub (c5 fn) p)=true)(h1:dp P fn rd (p++[0]) st R1)(aa:∀bq,R1 .nrm bq->dp P fn rd (p++[1]) bq jS)(ao:∀e bq,e≠ .nrm->R1 e bq->jS e bq):dp P fn rd p st jS:=λr aj=>by
 rw[yZ ad]
 have ft:=h1 r aj
 rw[ig] at ft
 refine ft.seq (λr' d' aX aD ⟨cu,m,dJ⟩=>?_) λe r' d' aX aD he ⟨cu,m,dJ⟩=>⟨cu,m,ao e _ he dJ⟩
 have:=aa _ dJ r' m
 rw[ig] at this
 exact this
theorem dp.block{p:List Nat}{id:Nat}{st:aB}{R1 jS:aU->aB->Prop}(ad:r0 id (sub (c5 fn) p)=true)(h1:dp P fn rd (p++[0]) st R1)(aa:∀e bq,R1 e bq->jS (wM id e) bq):dp P fn rd p st jS:=λr aj=>by
 rw[y0 ad]
 have ft:=h1 r aj
 rw[ig] at ft
 exact ft.block λe r' d' aX aD ⟨cu,m,dJ⟩=>⟨cu,m,aa e _ dJ⟩
def HP(inv:Nat->aB->Prop)(n:Nat)(R:aU->aB->Prop):aU->aB->Prop:=λe st=>(e=.nrm/\∃m,m<n/\inv m st)\/(e≠ .nrm/\R e st)
theorem dp.loop{p:List Nat}(inv:Nat->aB->Prop){R:aU->aB->Prop}(ad:r1 (sub (c5 fn) p)=true)(k0:∀n st,inv n st->dp P fn rd (p++[0]) st (HP inv n R))(gx:Nat){st:aB}(aA:inv gx st):dp P fn rd p st R:=λr aj=>by
 rw[GR ad]
 refine gJ.loop (λn r d q H=>∃Γ,Mod r Γ/\inv n ⟨Γ,d,q,H⟩) (λn r d q H ⟨Γ,m,ag⟩=>?_) gx ⟨st.Γ,aj,aA⟩
 have h1:=k0 n ⟨Γ,d,q,H⟩ ag r m
 rw[ig] at h1
 refine h1.mono λe r' d' aX aD ⟨cu,o0,dJ⟩=>?_
 rcases dJ with⟨rfl,k,hk,dV⟩|⟨he,dJ⟩
 · exact .inl ⟨rfl,k,hk,cu,o0,dV⟩
 · exact .inr ⟨he,cu,o0,dJ⟩
theorem dp.mono{p:List Nat}{st:aB}{R1 jS:aU->aB->Prop}(h:dp P fn rd p st R1)(hm:∀e bq,R1 e bq->jS e bq):dp P fn rd p st jS:=λr aj=>(h r aj).mono λe r' d' aX aD ⟨cu,m,dJ⟩=>⟨cu,m,hm e _ dJ⟩
theorem dp.pre{p:List Nat}{st st1:aB}{R:aU->aB->Prop}(h:dp P fn rd p st R)(ad:eI st.Γ st1.Γ)(ak:st1.d=st.d)(bj:st1.q=st.q)(af:st1.h=st.h):dp P fn rd p st1 R:=λr aj=>by
 have:=h r (aj.sub ad)
 rw[ak,bj,af]
 exact this
def stepOf:Code->Option (Nat×Nat×Nat)
 |.region _ ops false=>match ops.toList with
  |[dO,ef]=>match dO.op,dO.guard,dO.dst,ef.op,ef.guard,ef.dst with
   |.next (.tmp it) false,none,some a,.extract (.tmp b) 0,none,some c=>match Nat.beq a b with
    |true=>some (it,a,c)
    |false=>none
   |_,_,_,_,_,_=>none
  |_=>none
 |_=>none
theorem Ps{c:Code}{it a t:Nat}(h:stepOf c=some (it,a,t)):∃id ops dO ef,c=.region id ops false/\ops.toList=[dO,ef]/\dO.op=.next (.tmp it) false/\dO.guard=none/\dO.dst=some a/\ef.op=.extract (.tmp a) 0/\ef.guard=none/\ef.dst=some t:=by
 unfold stepOf at h
 split at h
 · rename_i id ops
   split at h
   · rename_i dO ef hK
     split at h
     · rename_i XH b_ ku c' h1 aa ao aI bl cg
       split at h
       · rename_i kx
         have:=Nat.eq_of_beq_eq_true kx
         subst this
         cases h
         exact⟨id,ops,dO,ef,rfl,hK,h1,aa,ao,aI,bl,cg⟩
       · cases h
     · cases h
   · cases h
 · cases h
theorem dp.next(ab:iY P call){p:List Nat}{st:aB}{R:aU->aB->Prop}{it a t:Nat}(ad:stepOf (sub (c5 fn) p)=some (it,a,t))(cP:fQ fn.ntmps (sub (c5 fn) p)=true)(aC:Nat.testBit (bG fn) it=true)(By:Nat.testBit (bG fn) a=false)(Pt:Nat.testBit (bG fn) t=true)
  {mM m since last clock:Nat}{seen:List Nat}{es:List dj}(aj:c4 it st.Γ=some (.ptr mM 0))(uh:st.h.get mM=some (.mapIter (some m) since seen last))(hm:st.h.get m=some (.map es clock))(hold:∀e∈es,e.born<since)(jt:since<=last)
  (sA:(∀e∈es,e.born∈seen)->R .nrm ⟨put t (.bool false) st.Γ,st.d,st.q,st.h⟩)
  (eW:∀e∈es,e.born∉seen->R .nrm ⟨put t (.bool true) st.Γ,st.d,st.q,st.h.set mM (some (.mapIter (some m) since (seen++[e.born]) clock))⟩):dp P fn rd p st R:=λr rp=>by
 obtain⟨id,ops,dO,ef,Pu,hK,h1,aa,ao,aI,bl,cg⟩:=Ps ad
 rw[Pu] at cP⊢
 have CT:cv 0 [] r (bX P (bG fn) [] (.tmp it))=.ptr mM 0:=by
  simp only[bX,gY,aC,cv]
  exact rp it _ aj
 have fin:∀(b:Bool) (vs:List I) (H:J),∃r',lJ (bG fn) r (iJ P (bG fn) ops [ef] (gl dO 0 []) 1) (hr P (bG fn) rd.isSome call r (ju P (bG fn) ops [ef] (gl dO 0 []) 1) [.aF (.bool b::vs)] st.d st.q H)=.ok .nrm r' st.d st.q H/\Mod r' (put t (.bool b) st.Γ):=by
  intro b vs H
  have eH:aliasOf ef=none:=by
   unfold aliasOf
   rw[aI,bl,cg]
  have Pv:gl dO 0 []=[(a,.env 0)]:=by
   unfold gl;rw[ao]
  have qz:hS P (bG fn) ops [(a,.env 0)] ef=none:=by unfold hS;rw[bl]
  have dK:b6 P ef (λx=>cv 1 [.aF (.bool b::vs)] r (bX P (bG fn) [(a,.env 0)] x)) H=.val (.bool b) H:=by
   have U:cv 1 [.aF (.bool b::vs)] r (bX P (bG fn) [(a,.env 0)] (.tmp a))=.aF (.bool b::vs):=by
    simp[bX,gY,cv,nth]
   simp only[b6,aI,U]
   rfl
  rw[Pv]
  have mn:iJ P (bG fn) ops [ef] [(a,.env 0)] 1=gl ef 1 [(a,.env 0)]:=by
   unfold iJ;rw[eH];rfl
  have rD:ju P (bG fn) ops [ef] [(a,.env 0)] 1=[⟨none,ef,[(a,.env 0)],1⟩]:=by
   unfold ju;rw[eH,qz];rfl
  have Pw:gl ef 1 [(a,.env 0)]=[(t,.env 1),(a,.env 0)]:=by unfold gl;rw[cg]
  rw[mn,rD,Pw]
  refine⟨mX (bG fn) 2 [.bool b,.aF (.bool b::vs)] r [(t,.env 1),(a,.env 0)] r,?_,?_⟩
  · have av:hr P (bG fn) rd.isSome call r [⟨none,ef,[(a,.env 0)],1⟩] [.aF (.bool b::vs)] st.d st.q H=.ok [.bool b,.aF (.bool b::vs)] st.d st.q H:=by
      simp only[hr,dk,dr,dK]
    rw[av]
    rfl
  · have yx:=wk (need:=bG fn) (m:=2) (env:=[.bool b,.aF (.bool b::vs)]) rp [(t,.env 1),(a,.env 0)] r st.Γ rp
    have he:oa (bG fn) 2 [.bool b,.aF (.bool b::vs)] st.Γ [(t,.env 1),(a,.env 0)] st.Γ=put t (.bool b) st.Γ:=by
     simp only[oa,Pt,By]
     rfl
    rw[he] at yx
    exact yx
 refine gJ.next ab hK h1 aa cP CT uh hm hold jt (λdD=>?_) λe he jJ=>?_
 · obtain⟨r',bt,bA⟩:=fin false [] st.h
   exact⟨_,_,_,_,_,bt,_,bA,sA dD⟩
 · obtain⟨r',bt,bA⟩:=fin true [e.key,e.val] _
   exact⟨_,_,_,_,_,bt,_,bA,eW e he jJ⟩
end
section
variable {P:Program}
def sB(μ:bd)(H:J)(w:World)(R:I->J->Prop)(e:Ending)(w':World):Prop:=∃v aD,R v aD/\Ends μ H w (.ret v aD) e w'
def l_(P:Program)(f:Nat)(args:List I)(H:J)(R:I->J->Prop):Prop:=
 ∀(μ:bd) (w:World) (vs:List Value),bg μ H w->fR P μ->bL μ args vs->qc P f vs w (sB μ H w R)
theorem sB.no{μ:bd}{H:J}{w:World}{R:I->J->Prop}:∀w',¬sB μ H w R .outgrown w':=λw' ⟨v,aD,_,h⟩=>by
 obtain⟨_,_,e,_⟩:=h;cases e
theorem l_.zn{call:cJ}(ab:iY P call)(hdr:∀need br,j5 P need br call)(dD:tr P){f:FuncId}{fn:Func}(hf:P.funcs[f]? =some fn)(ae:fn.body.isSome=true){args:List I}(hle:Nat.ble args.length fn.ntmps=true){H:J}{R:I->J->Prop}
  (h:dp P fn none [] ⟨ie 0 args,[],.none,H⟩ (λe s=>(e=.nrm\/e=.ret)/\s.q=.none/\∃v aD,(∀r,Mod r s.Γ->ht P call (bG fn) fn r 100 none s.d s.h=.ret v aD)/\R v aD)):l_ P f args H R:=λμ w vs af an aM=>by
 obtain⟨c,pV⟩:=Option.isSome_iff_exists.1 ae
 obtain⟨vE,tt⟩:=dD f fn c hf pV
 have r3:c5 fn=c:=by simp[c5,pV]
 have h1:=h _ (tR args)
 rw[r3] at h1
 simp only[sub] at h1
 have hlen:=aM.length
 have x3:args.length<=fn.ntmps:=by simpa using hle
 refine .inr ⟨vD hf pV tt _ _,λcs=>?_⟩
 have bj:gp μ .normal cs .none cs:=⟨rfl,λcx hk=>by simp[tryRecover,hk]⟩
 have Bk:Frame.enter P f ⟨vs⟩ .normal=({(default:Frame) with fn:=f,kind:=.normal}:Frame).atR {tmps:=⟨vs⟩++Array.replicate (fn.ntmps-vs.length) undef,defers:=[]} [.code c]:=by
  simp[Frame.enter,Frame.atR,hf,pV]
  rfl
 obtain⟨e,r',d',aX,aD,⟨cu,m1,he,k8,v,CU,eQ,dJ⟩,aL,w',b_,bC,s1,s2,bz,bT,b0,cC,cY⟩:=h1 {(default:Frame) with fn:=f,kind:=.normal} μ w {tmps:=⟨vs⟩++Array.replicate (fn.ntmps-vs.length) undef,defers:=[]} [] cs cs rfl (FK aM _) (by simp;omega) af an rfl bj
 have Px:aX=.none:=k8
 subst Px
 have gf:bC=cs:=cY.1
 subst gf
 rw[<-Bk] at s1
 have dK:ht P call (bG fn) fn r' 100 none d' aD=.ret v CU:=eQ r' m1
 have main:∀(cx:Frame),cx.fn=f->cx.tmps=b_.tmps->cx.defers=b_.defers->cx.kind=.normal->lV aL none cx.mode->Steps P (lone (Frame.enter P f ⟨vs⟩ .normal) bC w) (lone cx bC w')->
   ∃e bQ jb,sB μ H w R e bQ/\Comes P (lone (Frame.enter P f ⟨vs⟩ .normal) bC w) (lone jb bC bQ) e/\jb.fn=f/\jb.leaving P bQ e:=by
  intro cx h1 aa ao aI bl cg
  subst h1
  obtain⟨au,bQ,jb,ba,bH,dv,dm⟩:=yq ab hdr dD 100 none d' aD aL w' cx bC (by rw[dK];rfl) bT (an.mono b0.le) (by rw[aa];exact s2) hf aI (by rw[ao];exact cC) bl
  rw[dK] at ba
  have vG:=Ends.trans af bT b0 ba
  exact⟨au,bQ,jb,⟨v,CU,dJ,vG⟩,FN (cg.trans bH) (λe=>yi (r:=.ret v CU) rfl _ (e▸vG)),dv,dm⟩
 rcases he with rfl|rfl
 · exact main {({(default:Frame) with fn:=f,kind:=.normal}:Frame).atR b_ [] with mode:=.returning} rfl rfl rfl rfl rfl (Steps.trans s1 (.one (stepR_end rfl)))
 · obtain⟨cO,rE⟩:=s1
   exact main {({(default:Frame) with fn:=f,kind:=.normal}:Frame).atR b_ (.code .ret::cO) with mode:=.returning} rfl rfl rfl rfl rfl (Steps.trans rE (.one (stepR_ret rfl)))
theorem zo{call:cJ}{fn:Func}{Γ:Env}{h:J}{v:I}(eQ:hL P (bG fn) fn Γ h=some v):∀r,Mod r Γ->ht P call (bG fn) fn r 100 none [] h=.ret v h:=λr aj=>by
 simp only[ht,tS aj eQ]
theorem Py{call:cJ}{fn:Func}{Γ:Env}{h:J}{v:I}{b:Nat}(an:h.get b=some (.defrd (some [])))(eQ:hL P (bG fn) fn Γ (h.set b (some (.defrd none)))=some v):∀r,Mod r Γ->ht P call (bG fn) fn r 100 none [.collected b] h=.ret v (h.set b (some (.defrd none))):=λr aj=>by
 simp only[ht,an,List.nil_append,tS aj eQ]
def opsOf:Code->Array Oper
 |.region _ ops _=>ops
 |_=>#[]
def HQ(P:Program)(need:Nat):Code->Option (Nat×List Acc×Nat×List (Nat×Acc))
 |.region _ ops false=>match kX P need ops with
  |⟨[s],loc⟩=>match s.guard,s.o.op with
   |none,.call c=>match c.callee with
    |.value (.func f)=>some (f,c.args.toList.map (bX P need s.loc),s.m,loc)
    |_=>none
   |_,_=>none
  |_=>none
 |_=>none
def zp(P:Program)(inR:Bool)(gd:Option (I×Bool))(o:Oper)(g:Operand->I)(d:List bw)(q:az)(H:J)(Q:I->List bw->az->J->Prop):Prop:=
 ∀(μ:bd) (w:World) (b:Frame) (a:Act) (ops:Array Oper) (i:Nat) (rest:List Nat) (k:List Item) (cs0 cs:List Frame),bg μ H w->fR P μ->ops[i]? =some o->(∀lP,dr gd=some lP->Region.wanted o (yielded ops a.tmps)=lP)->(∀x,a1 μ (g x) (a.eval x))->eD μ d a.defers->gp μ b.kind cs0 q cs->inR=b.roundOf.isSome->
  ∃v d' aX aD,Q v d' aX aD/\yg P μ H w b a ops o i rest k cs0 cs (.ok v d' aX aD)
theorem zp.call{inR:Bool}{gd:Option (I×Bool)}(Pz:dr gd=some true){o:Oper}{g:Operand->I}{d:List bw}{q:az}{H:J}{c:Call}(dW:o.op=.call c){f:Nat}{args:List I}(dK:b6 P o g H=.call f args H){R:I->J->Prop}(dJ:l_ P f args H R):zp P inR gd o g d q H (λv d' aX aD=>d'=d/\aX=q/\R v aD):=
 λμ w b a ops i rest k cs0 cs af mA aQ eb an ak bj dC=>by
  have rz:=eb _ Pz
  have hW:∀u,(b.atR a (.inRegion ops (i::rest)::k)).finish u=b.atR {tmps:=(a.put o.dst u).tmps,defers:=a.defers} (.inRegion ops rest::k):=λu=>by
   rw[Frame.finish_atR,aQ,<-tl];rfl
  have bW:=stepGR_op (P:=P) (b:=b) (a:=a) (k:=k) (cs:=cs) (w:=w) (rest:=rest) aQ rz
  have lQ:o.semAt b.roundOf a.eval=execOp a.eval o:=Oper.semAt_eq _ _ _ λc' e=>by rw[dW] at e;cases e
  rw[lQ] at bW
  obtain⟨g1,g2,g3,g4,g5,g6,g7,g8⟩:=ry bW
  have HR:=Fi (P:=P) af o an
  rw[dK] at HR
  obtain⟨_,vs,aj,h1⟩:=HR
  rcases dJ μ w vs af mA h1 with⟨v,w',aT,bb⟩|⟨aT,bb⟩
  · rw[<-aj] at aT
    have ad:=g1 _ _ aT
    obtain⟨v',aD,CV,aL,u,e,aa,ao,aI⟩:=bb
    cases e
    exact⟨v',d,q,aD,⟨rfl,rfl,CV⟩,aL,w',_,a.defers,cs,by rw[<-hW];exact ad,aa,ao,aI,ak.mono aI.le,bj.mono aI.le⟩
  · rw[<-aj] at aT
    have ad:=g5 _ _ _ aT
    obtain⟨e,w',⟨v',aD,CV,dc⟩,ar⟩:=yf sB.no bb (b.atR a (.inRegion ops (i::rest)::k)) cs
    exact⟨v',d,q,aD,⟨rfl,rfl,CV⟩,Bb (r:=.ret v' aD) aQ ak bj ad ⟨e,w',dc,ar⟩⟩
def zq(P:Program)(need:Nat)(inR:Bool)(r:aN):List Step->List I->List bw->az->J->(List I->List bw->az->J->Prop)->Prop
 |[],env,d,q,h,R=>R env d q h
 |s::rest,env,d,q,h,R=>∃Q:I->List bw->az->J->Prop,zp P inR (match s.guard with|none=>none|some (x,c)=>some (cv s.m env r x,c)) s.o (λx=>cv s.m env r (bX P need s.loc x)) d q h Q/\∀v d' aX ah,Q v d' aX ah->zq P need inR r rest (v::env) d' aX ah R
theorem CW{need br:Nat}{ops:Array Oper}(hK:∀o∈ops.toList,∀t,o.dst=some t->t<br){b:Frame}{inR:Bool}(dC:inR=b.roundOf.isSome){r:aN}{k:List Item}{cs0:List Frame}{R:List I->List bw->az->J->Prop}:
  ∀(l:List Oper) (i0:Nat) (loc:List (Nat×Acc)) (m:Nat) (env:List I) (d:List bw) (q:az) (μ:bd) (H:J) (w:World) (a:Act) (cs:List Frame),ops.toList.drop i0=l->env.length=m->
   hv P need μ r m env loc a.tmps->a.tmps.size=br->bg μ H w->fR P μ->eD μ d a.defers->gp μ b.kind cs0 q cs->zq P need inR r (ju P need ops l loc m) env d q H R->
   ∃dS d' aX aD,R dS d' aX aD/\lT P need br μ r H w b k cs0 (lone (b.atR a (.inRegion ops (List.range' i0 l.length)::k)) cs w) (iJ P need ops l loc m) (.ok dS d' aX aD)
 |[],i0,loc,m,env,d,q,μ,H,w,a,cs,ar,hm,k9,bp,af,an,ak,bj,fr=>by
  subst hm
  exact⟨env,d,q,H,fr,μ,w,a,cs,.one stepR_region_end,k9,bp,af,bN.refl _ _ _,ak,bj⟩
 |o::rest,i0,loc,m,env,d,q,μ,H,w,a,cs,ar,hm,k9,bp,af,an,ak,bj,fr=>by
  have aQ:ops[i0]? =some o:=by
   have:=congrArg List.head? ar
   simpa[List.head?_drop] using this
  have j2:ops.toList.drop (i0+1)=rest:=by
   have:=congrArg List.tail ar
   simpa[List.tail_drop] using this
  have nu:o∈ops.toList:=by
   rw[<-Array.getElem?_toList] at aQ
   exact List.mem_of_getElem? aQ
  have rB:∀t,o.dst=some t->t<a.tmps.size:=λt h=>by rw[bp];exact hK o nu t h
  rw[List.length_cons,List.range'_succ]
  unfold ju at fr
  unfold iJ
  cases aJ:aliasOf o with
  |some p=>
   obtain⟨t,x⟩:=p
   rw[aJ] at fr
   simp only at fr⊢
   obtain⟨bO,a2,a3⟩:=Ft aJ
   have hw:Region.wanted o (yielded ops a.tmps)=true:=by simp[Region.wanted,bO]
   have bW:=stepGR_op (P:=P) (b:=b) (a:=a) (k:=k) (cs:=cs) (w:=w) (rest:=List.range' (i0+1) rest.length) aQ hw
   have lQ:o.semAt b.roundOf a.eval=execOp a.eval o:=by
    refine Oper.semAt_eq _ _ _ λc e=>?_
    have:=a3 a.eval
    unfold aliasOf at aJ
    rw[e] at aJ
    split at aJ
    · rename_i h;cases h
    · rename_i h;cases h
    · cases aJ
   rw[lQ] at bW
   obtain⟨g1,_⟩:=ry bW
   have ad:=g1 (a.eval x) w (by rw[a3];rfl)
   have hW:(b.atR a (.inRegion ops (i0::List.range' (i0+1) rest.length)::k)).finish (a.eval x)=b.atR (a.put (some t) (a.eval x)) (.inRegion ops (List.range' (i0+1) rest.length)::k):=by
    rw[Frame.finish_atR,aQ]
    simp only[Option.bind_some,a2]
   rw[hW] at ad
   obtain⟨dS,d',aX,aD,dJ,bc⟩:=CW (k:=k) hK dC rest (i0+1) ((t,bX P need loc x)::loc) m env d q μ H w (a.put (some t) (a.eval x)) cs j2 hm (k9.alias an (rB t a2) x) ((rA _ _ _).trans bp) af an (by rw[put_defers];exact ak) bj fr
   exact⟨dS,d',aX,aD,dJ,bc.of_steps af af ad (bN.refl _ _ _)⟩
  |none=>
   rw[aJ] at fr
   simp only[zq] at fr⊢
   obtain⟨Q,eW,AF⟩:=fr
   obtain⟨v,d',aX,aD,Cj,aL,w',u,iZ,bC,s1,s2,bz,bT,b0,cC⟩:=eW μ w b a ops i0 (List.range' (i0+1) rest.length) k cs0 cs af an aQ (Fs (acc:=cv m env r) k9.rel (λv=>rfl)) (λx=>k9.eval an x) ak bj dC
   have vB:=(k9.mono bT.le).step (a:=a) (o:=o) rB s2
   obtain⟨dS,d2,bb,cy,dJ,bc⟩:=CW (k:=k) hK dC rest (i0+1) (gl o m loc) (m+1) (v::env) d' aX aL aD w' {tmps:=(a.put o.dst u).tmps,defers:=iZ} bC j2 (by simp[hm]) vB ((rA _ _ _).trans bp) bz (an.mono bT.le) b0 cC (AF v d' aX aD Cj)
   exact⟨dS,d2,bb,cy,dJ,bc.of_steps af bz s1 bT⟩
theorem gJ.region{need br:Nat}{rd:Option Nat}{id:Nat}{ops:Array Oper}{r:aN}{d:List bw}{q:az}{H:J}{R:aU->aN->List bw->az->J->Prop}(cP:fQ br (.region id ops false)=true)
  (fr:zq P need rd.isSome r (ju P need ops ops.toList [] 0) [] d q H (λenv d' aX aD=>R .nrm (mX need env.length env r (iJ P need ops ops.toList [] 0) r) d' aX aD)):gJ P need br rd (.region id ops false) r d q H R:=λb μ w a k cs0 cs b1 aj bp af an ak bj=>by
 simp only[fQ,Bool.and_eq_true,List.all_eq_true] at cP
 have hK:∀o∈ops.toList,∀t,o.dst=some t->t<br:=λo aQ t bk=>by
  have:=cP.1 o aQ
  rw[bk] at this
  simpa using this
 obtain⟨dS,d',aX,aD,dJ,h⟩:=CW (P:=P) (need:=need) (k:=k) hK (b:=b) (inR:=rd.isSome) b1.isSome (r:=r) (cs0:=cs0) ops.toList 0 [] 0 [] d q μ H w a cs rfl rfl (hv.init aj) bp af an ak bj fr
 have ar:List.range' 0 ops.toList.length=List.range ops.size:=by rw[List.range_eq_range'];simp
 rw[ar] at h
 exact⟨.nrm,_,d',aX,aD,dJ,jK.of_steps af af (.one stepR_region) (bN.refl _ _ _) (lT.code h)⟩
theorem dp.HS{fn:Func}{rd:Option Nat}{p:List Nat}{st:aB}{R:aU->aB->Prop}{f:Nat}{accs:List Acc}{loc:List (Nat×Acc)}(dt:HQ P (bG fn) (sub (c5 fn) p)=some (f,accs,0,loc))(cP:fQ fn.ntmps (sub (c5 fn) p)=true){args:List I}(gu:accs.map (kF 0 [] st.Γ)=args.map some){R0:I->J->Prop}(hf:l_ P f args st.h R0)
  (dJ:∀v aD,R0 v aD->R .nrm ⟨oa (bG fn) 1 [v] st.Γ loc st.Γ,st.d,st.q,aD⟩):dp P fn rd p st R:=λr hm=>by
 unfold HQ at dt
 split at dt
 · rename_i id ops PA
   split at dt
   · rename_i s HT mn
     split at dt
     · rename_i c eb dW
       split at dt
       · rename_i mC PB
         simp only[Option.some.injEq,Prod.mk.injEq] at dt
         obtain⟨rfl,rfl,np,j7⟩:=dt
         subst j7
         rw[PA] at cP⊢
         have HU:ju P (bG fn) ops ops.toList [] 0=[s]/\iJ P (bG fn) ops ops.toList [] 0=HT:=by
          unfold kX at mn
          rw[yj] at mn
          simp only[List.reverse_nil,List.nil_append,Ao.mk.injEq] at mn
          exact mn
         refine gJ.region cP ?_
         rw[HU.1,HU.2]
         have qz:∀x,bX P (bG fn) s.loc x∈[]->True:=λ_ _=>trivial
         have dK:b6 P s.o (λx=>cv s.m [] r (bX P (bG fn) s.loc x)) st.h=.call mC args st.h:=by
          have aJ:c.args.toList.map (λx=>cv s.m [] r (bX P (bG fn) s.loc x))=args:=by
           have h1:(c.args.toList.map (bX P (bG fn) s.loc)).map (kF s.m [] st.Γ)=args.map some:=by
            rw[np];exact gu
           rw[List.map_map] at h1
           have key:∀(l:List Operand) (as:List I),l.map (kF s.m [] st.Γ∘bX P (bG fn) s.loc)=as.map some->l.map (λx=>cv s.m [] r (bX P (bG fn) s.loc x))=as:=by
            intro l
            induction l with
            |nil=>intro as h;cases as with
             |nil=>rfl
             |cons _ _=>cases h
            |cons x l bc=>intro as h;cases as with
             |nil=>cases h
             |cons a as=>
              simp only[List.map_cons,List.cons.injEq,Function.comp] at h⊢
              exact⟨qq hm h.1,bc as h.2⟩
           exact key _ _ h1
          simp only[b6,dW,PB]
          rw[aJ]
          show iT.call _ ([]++args++[]) st.h=_
          rw[List.nil_append,List.append_nil]
         refine⟨_,zp.call (by rw[eb];rfl) dW dK hf,λv d' aX aD ⟨h1,aa,ao⟩=>?_⟩
         subst h1;subst aa
         exact⟨_,wk (need:=bG fn) (m:=1) (env:=[v]) hm HT r st.Γ hm,dJ v aD ao⟩
       · cases dt
     · cases dt
   · cases dt
 · cases dt
end
section
variable {P:Program} {need br:Nat}
theorem gJ.range{f:Operand}{ps:Array Nat}{as b2:Code}{r:aN}{d:List bw}{q:az}{H:J}{g:Nat}{first caps:List I}{R:aU->aN->List bw->az->J->Prop}{R0:I->J->Prop}(PC:fQ br (.rangeFunc f ps as b2)=true)
  (hf:cv 0 [] r (bX P need [] f)=.fn g first caps)(ab:l_ P g (first++[.b7 (H.n+1)]++caps) ((H.push (.defrd (some []))).push (.loop .ready none need r ps.toList as b2 H.n)) R0)
  (dJ:∀v dn,R0 v dn->∃st dG rg vC pJ pK cK,dn.get (H.n+1)=some (.loop st none dG rg vC pJ pK cK)/\st≠ .busy/\R .nrm r (.collected H.n::d) q (dn.set (H.n+1) (some (.loop .exhausted none dG rg vC pJ pK cK)))):
  gJ P need br none (.rangeFunc f ps as b2) r d q H R:=λb μ w a k cs0 cs b1 aj bp af an ak bj=>by
 have cP:=PC
 simp only[fQ,Bool.and_eq_true,List.all_eq_true] at cP
 have rD:∀t∈ps.toList,t<br:=λt bk=>by simpa using cP.1.1 t bk
 have dK:=(hv.init (P:=P) aj).eval (a:=a) an f
 obtain⟨dN,b5,mark,i,h1,aa,ao,aI,bl⟩:=FD (P:=P) (b:=b) (a:=a) (ps:=ps) (d:=d) (r:=r) ⟨cP.1.2,cP.2,rD⟩ b1 aj bp af ak (l:=H.n+1) (d':=.collected H.n::d) (H1:=(H.push (.defrd (some []))).push (.loop .ready none need r ps.toList as b2 H.n)) rfl rfl
 have Bh:=dK.mono aI.le
 have tq:=FB (P:=P) (f:=f) (k:=k) (cs:=cs) h1
 obtain⟨g1,g2,g3⟩:=FA tq
 have k1:=A8 (P:=P) (w:=b5) ao Bh (args:=[.b7 (H.n+1)]) (vs:=[.func (.yield i.a6) #[] #[]]) ⟨_,_,rfl,⟨i,aa,rfl⟩,rfl⟩
 rw[hf] at k1
 obtain⟨_,vs,av,au⟩:=k1
 have ar:oY P (lone (b.atR a (.code (.rangeFunc f ps as b2)::k)) cs w) (b.atR {tmps:=a.tmps,defers:=mark++a.defers} (.inRangeFunc i.a6::k)) cs (sB dN ((H.push (.defrd (some []))).push (.loop .ready none need r ps.toList as b2 H.n)) b5 R0):=by
  rcases ab dN b5 vs ao (an.mono aI.le) au with⟨v,w',aT,bb⟩|⟨aT,bb⟩
  · rw[<-av] at aT
    exact⟨_,_,bb,g1 _ _ aT⟩
  · rw[<-av] at aT
    exact(yf sB.no bb _ _).of_steps (g2 _ _ _ aT)
 obtain⟨e,j6,⟨v,dn,PD,dc⟩,fr⟩:=ar
 obtain⟨aL,u,rfl,aT,bb,bP⟩:=dc
 obtain⟨st,dG,rg,vC,pJ,pK,cK,qe,ae,PE⟩:=dJ v dn PD
 have hW:(b.atR {tmps:=a.tmps,defers:=mark++a.defers} (.inRangeFunc i.a6::k)).finish u=b.atR {tmps:=a.tmps,defers:=mark++a.defers} (.endRangeFunc i.a6::k):=rfl
 simp only[hW] at fr
 obtain⟨hX,cH,cD,ga⟩:=FI (P:=P) bb (bP.le _ _ aa) qe ae
 have hx:=Steps.trans fr (.one (FC (b:=b) (a:={tmps:=a.tmps,defers:=mark++a.defers}) (k:=k) (cs:=cs) cH))
 have hle:=aI.le.trans (bP.le.trans ga.le)
 have ja:=bN.trans af bb (bN.trans af ao aI bP) ga
 exact⟨.nrm,r,.collected H.n::d,q,_,PE,aL,hX,{tmps:=a.tmps,defers:=mark++a.defers},cs,hx,aj.mono hle,bp,cD,ja,bl.mono (bP.le.trans ga.le),bj.mono hle⟩
mutual
theorem a1.back{μ dN:bd}(hle:dB μ dN):∀(v:I) (u BQ:Value),a1 μ v u->a1 dN v BQ->a1 μ v BQ
 |.bad,_,_,_,_=>trivial
 |.bool _,_,_,_,h=>h
 |.int _ _,_,_,_,h=>h
 |.str _,_,_,_,h=>h
 |.c_,_,_,_,h=>h
 |.ptr b off,_,_,⟨i,h,_⟩,⟨j,ah,cw⟩=>by
  have:=hle _ _ h
  rw[ah] at this;cases this
  exact⟨i,h,cw⟩
 |.bn,_,_,_,h=>h
 |.slice b off len cap,_,_,⟨i,h,_⟩,⟨j,ah,cw⟩=>by
  have:=hle _ _ h
  rw[ah] at this;cases this
  exact⟨i,h,cw⟩
 |.fy,_,_,_,h=>h
 |.map r,_,_,⟨i,h,_⟩,⟨j,ah,cw⟩=>by
  have:=hle _ _ h
  rw[ah] at this;cases this
  exact⟨i,h,cw⟩
 |.h5,_,_,_,h=>h
 |.fn f first caps,_,_,⟨_,_,_,h1,aa⟩,⟨ax,cs,e,bt,bA⟩=>⟨ax,cs,e,bL.back hle _ _ _ h1 bt,bL.back hle _ _ _ aa bA⟩
 |.b7 l,_,_,⟨i,h,_⟩,⟨j,ah,cw⟩=>by
  have:=hle _ _ h
  rw[ah] at this;cases this
  exact⟨i,h,cw⟩
 |.ej,_,_,_,h=>h
 |.iface t x,_,_,⟨_,_,h⟩,⟨y,e,k⟩=>⟨y,e,a1.back hle _ _ _ h k⟩
 |.agg cs,_,_,⟨_,_,h⟩,⟨l,e,k⟩=>⟨l,e,bL.back hle _ _ _ h k⟩
 |.aF cs,_,_,⟨_,_,h⟩,⟨l,e,k⟩=>⟨l,e,bL.back hle _ _ _ h k⟩
theorem bL.back{μ dN:bd}(hle:dB μ dN):∀(vs:List I) (us nn:List Value),bL μ vs us->bL dN vs nn->bL μ vs nn
 |[],_,_,_,h=>h
 |a::as,_,_,⟨_,_,_,h1,aa⟩,⟨v,vs,e,bt,bA⟩=>⟨v,vs,e,a1.back hle _ _ _ h1 bt,bL.back hle _ _ _ aa bA⟩
end
theorem eE.back{μ dN:bd}(hle:dB μ dN):∀(es:List dj) (ms x9:List MapEntry),eE μ es ms->eE dN es x9->eE μ es x9
 |[],_,_,_,h=>h
 |e::es,_,_,⟨_,_,_,h1,aa⟩,⟨m,ms,cw,bt,bA⟩=>⟨m,ms,cw,⟨a1.back hle _ _ _ h1.1 bt.1,a1.back hle _ _ _ h1.2.1 bt.2.1,bt.2.2⟩,eE.back hle _ _ _ aa bA⟩
theorem nc.back{μ dN:bd}(hle:dB μ dN){a:bw}{d d':Deferred}(h:nc μ a d)(k:nc dN a d'):nc μ a d':=by
 cases a with
 |call f args=>
  cases k with
  |call _ _ cap vs bt=>
   cases h with
   |call _ _ XI XJ h1=>exact .call f args cap vs (bL.back hle _ _ _ h1 bt)
 |collected r=>
  cases k with
  |collected _ i bt=>
   cases h with
   |collected _ j h1=>
    have:=hle _ _ h1
    rw[bt] at this;cases this
    exact .collected r i h1
theorem eD.back{μ dN:bd}(hle:dB μ dN):∀(as:List bw) (ds iZ:List Deferred),eD μ as ds->eD dN as iZ->eD μ as iZ
 |[],_,_,_,h=>h
 |_::_,_,_,⟨_,_,_,h1,aa⟩,⟨d,ds,e,bt,bA⟩=>⟨d,ds,e,h1.back hle bt,eD.back hle _ _ _ aa bA⟩
theorem j1.back{μ dN:bd}(hle:dB μ dN){o:b8}{i:fW}{w w':World}(h:j1 μ o i w)(k:j1 dN o i w'):j1 μ o i w':=by
 cases o with
 |cells cs el cO bB ag=>
  obtain⟨c0,_,_,_,aa,_⟩:=h
  obtain⟨c,eK,eL,bt,bA,eU⟩:=k
  refine⟨c,eK,eL,bt,λj v aG=>?_,eU⟩
  obtain⟨XK,_,gB⟩:=aa j v aG
  obtain⟨u,hu,r⟩:=bA j v aG
  exact⟨u,hu,a1.back hle _ _ _ gB r⟩
 |map es clock=>
  obtain⟨_,_,aa⟩:=h
  obtain⟨ents,bt,bA⟩:=k
  exact⟨ents,bt,eE.back hle _ _ _ aa bA⟩
 |oG s pos=>exact k
 |mapIter m since seen last=>
  cases m with
  |none=>exact k
  |some m=>
   obtain⟨_,Bx,h1,_⟩:=h
   obtain⟨kt,j,bt,bA⟩:=k
   have:=hle _ _ h1
   rw[bt] at this;cases this
   exact⟨kt,Bx,h1,bA⟩
 |loop st e4 need kW params as b2 cK=>
  obtain⟨rG,PF,_,h1,_,ao,_⟩:=h
  obtain⟨bF,gb,fn,bt,bA,eU,fe⟩:=k
  have:=hle _ _ h1
  rw[bt] at this;cases this
  exact⟨bF,PF,fn,h1,bA,λt bk=>a1.back hle _ _ _ (ao t bk) (eU t bk),fe⟩
 |defrd calls=>
  cases calls with
  |none=>exact k
  |some ds=>
   obtain⟨_,_,aa⟩:=h
   obtain⟨l,bt,bA⟩:=k
   exact⟨l,bt,eD.back hle _ _ _ aa bA⟩
 |raw o=>exact k
theorem PG{μ aL:bd}{cs:List I}{c:Array Value}{base:Nat}(h:lb cs=true)(ab:tc μ cs c base):tc aL cs c base:=λj v aG=>by
 obtain⟨u,h1,aa⟩:=ab j v aG
 refine⟨u,h1,?_⟩
 have dD:∀(l:List I) (k:Nat),lb l=true->l[k]? =some v->kE v=true:=λl=>by
  induction l with
  |nil=>intro k _ hk;simp at hk
  |cons a l bc=>
   intro k ar hk
   simp only[lb,Bool.and_eq_true] at ar
   cases k with
   |zero=>simp at hk;subst hk;exact ar.1
   |succ k=>exact bc k ar.2 (by simpa using hk)
 exact v7 _ _ (dD cs j h aG) aa
theorem Ends.row{μ:bd}{H H1:J}{w w':World}{c n:Nat}{cap:cb}{cs:List I}{el bB up:Nat}{k:e3}(gf:lb cs=true)(hk:k=.own\/k=.aH)(ab:H.n<=c)(ew:H1.get c=some (.cells cs el k bB up))(mN:∀b,b<H.n->H1.get b=H.get b)(af:bg μ H w){e:Ending}(h:Ends μ H w (.ret (.slice c 0 n cap) H1) e w'):
  Ends μ H w (.ret (.slice H.n 0 n cap) (H.push (.cells cs el k bB up))) e w':=by
 obtain⟨dN,u,rfl,aT,bb,bP⟩:=h
 obtain⟨zr,kC,PH⟩:=aT
 have PI:μ c=none:=by
  cases U:μ c with
  |none=>rfl
  |some y=>have:=(af.lt c y U).1;omega
 obtain⟨aL,zs⟩:∃aL:bd,∀b,aL b=if b<H.n then μ b else if b=H.n then some zr else none:=⟨_,λ_=>rfl⟩
 have hle:dB μ aL:=λb i ae=>by rw[zs,if_pos (af.lt b i ae).1];exact ae
 have fc:∀b,(H.push (.cells cs el k bB up)).get b=if b=H.n then some (.cells cs el k bB up) else H.get b:=λb=>by rw[J.gC]
 have oy:(H.push (.cells cs el k bB up)).n=H.n+1:=rfl
 have lr:∀b i,¬b<H.n->aL b=some i->b=H.n/\i=zr:=λb i ae h1=>by
  rw[zs,if_neg ae] at h1
  by_cases e:b=H.n
  · rw[if_pos e] at h1;cases h1;exact⟨e,rfl⟩
  · rw[if_neg e] at h1;cases h1
 have iD:∀b i,b<H.n->aL b=some i->μ b=some i:=λb i ae h1=>by rw[zs,if_pos ae] at h1;exact h1
 have PJ:(b8.cells cs el k bB up).nd=false:=by rcases hk with rfl|rfl<;>rfl
 have PK:aL H.n=some zr:=by rw[zs,if_neg (Nat.lt_irrefl _),if_pos rfl]
 refine⟨aL,u,rfl,⟨zr,PK,PH⟩,⟨λb o i ae ag=>?_,λb d i j ae ak ag aG nA=>?_,λb i ag=>?_,λb ae=>?_⟩,?_⟩
 · by_cases h1:b<H.n
   · rw[fc,if_neg (by omega)] at ae
     have dV:=iD b i h1 ag
     have ba:=bb.rel b o i (by rw[mN b h1];exact ae) (bP.le b i dV)
     exact(j1.back bP.le (af.rel b o i ae dV) ba).mono hle rfl
   · obtain⟨rfl,rfl⟩:=lr b i h1 ag
     rw[fc,if_pos rfl] at ae;cases ae
     obtain⟨rR,eK,eL,ba,bH,dv⟩:=bb.rel c _ i ew kC
     exact⟨rR,eK,eL,ba,PG gf bH,dv⟩
 · obtain⟨HV,ak,gO⟩:=ak
   by_cases h1:b<H.n
   · have dV:=iD b i h1 ag
     rw[fc,if_neg (by omega)] at ae
     by_cases aa:d<H.n
     · rw[fc,if_neg (by omega)] at ak
       exact af.inj b d i j ae ⟨HV,ak,gO⟩ dV (iD d j aa aG) nA
     · obtain⟨rfl,rfl⟩:=lr d j aa aG
       have:=bb.inj b c i j (by rw[mN b h1];exact ae) ⟨_,ew,PJ⟩ (bP.le b i dV) kC nA
       omega
   · obtain⟨rfl,rfl⟩:=lr b i h1 ag
     by_cases aa:d<H.n
     · rw[fc,if_neg (by omega)] at ak
       have:=bb.inj c d i j (by rw[ew];simp) ⟨HV,by rw[mN d aa];exact ak,gO⟩ kC (bP.le d j (iD d j aa aG)) nA
       omega
     · exact(lr d j aa aG).1.symm
 · by_cases h1:b<H.n
   · have:=af.lt b i (iD b i h1 ag)
     exact⟨by rw[oy];omega,Nat.lt_of_lt_of_le this.2 bP.size⟩
   · obtain⟨rfl,rfl⟩:=lr b i h1 ag
     exact⟨by rw[oy];omega,(bb.lt c i kC).2⟩
 · rw[oy] at ae
   rw[fc,if_neg (by omega)]
   exact af.bound b (by omega)
 · refine⟨hle,bP.size,by rw[oy];omega,λb ae ar=>?_,λb ae hm=>?_,λr aj aQ=>bP.old r aj aQ,λb i ae ag=>?_,λb o i ae aj ag=>?_,bP.os,bP.out,bP.tape,bP.drawn⟩
   · rw[fc,if_neg (by omega)] at ar;exact ar
   · rw[fc,if_neg (by omega)]
   · by_cases h1:b<H.n
     · have:=iD b i h1 ag;rw[ae] at this;cases this
     · obtain⟨rfl,rfl⟩:=lr b i h1 ag
       exact⟨Nat.le_refl _,(bP.new c i PI kC).2⟩
   · have rh:=(af.lt b i ag).1
     refine⟨by rw[fc,if_neg (by omega)];exact ae,(bP.ro b o i ae aj ag).2⟩
theorem Ends.none{μ:bd}{H H1:J}{w w':World}{v:I}(aM:kE v=true)(mN:∀b,b<H.n->H1.get b=H.get b)(af:bg μ H w){e:Ending}(h:Ends μ H w (.ret v H1) e w'):Ends μ H w (.ret v H) e w':=by
 obtain⟨dN,u,rfl,aT,bb,bP⟩:=h
 refine⟨μ,u,rfl,v7 _ _ aM aT,⟨λb o i ae ag=>?_,λb d i j ae ak ag aG nA=>?_,λb i ag=>?_,af.bound⟩,?_⟩
 · have rh:=(af.lt b i ag).1
   exact j1.back bP.le (af.rel b o i ae ag) (bb.rel b o i (by rw[mN b rh];exact ae) (bP.le b i ag))
 · exact af.inj b d i j ae ak ag aG nA
 · have:=af.lt b i ag
   exact⟨this.1,Nat.lt_of_lt_of_le this.2 bP.size⟩
 · refine⟨dB.refl μ,bP.size,Nat.le_refl _,λ_ _ ar=>ar,λ_ _ _=>rfl,λr aj aQ=>bP.old r aj aQ,λb i ae ag=>(by rw[ae] at ag;cases ag),λb o i ae aj ag=>⟨ae,(bP.ro b o i ae aj ag).2⟩,bP.os,bP.out,bP.tape,bP.drawn⟩
end
end aS
