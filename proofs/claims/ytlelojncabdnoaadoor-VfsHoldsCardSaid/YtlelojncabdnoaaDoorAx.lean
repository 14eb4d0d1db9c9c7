/-
  PROVED HERE: contracts of functions (Ax). No condition beside each statement's own.
-/
import Derived.Test.YtlelojncabdnoaaDoorAed
import Derived.OpenShut
import Derived.ChangeSame
import Derived.Lay
import Derived.Laws.IdiomRangeMap
import Derived.Test.YtlelojncabdnoaaDoorSxa
set_option linter.unusedVariables false
set_option linter.unusedSimpArgs false
namespace aU
open Go Go.RowKit
section
variable {P:Program}
end
open Go Go.ChangeShapes Go.WideShapes Go.ChangeAt Go.RowKit
section
variable {P:Program}
def BW(i1 i2:Nat->List I->J->Option (I×J))(f:Nat)(args:List I)(h:J):Option (I×J):=match i1 f args h with
 |some r=>some r
 |none=>i2 f args h
theorem NQ{i1 i2:Nat->List I->J->Option (I×J)}(h1:gN P i1)(aa:gN P i2):gN P (BW i1 i2):=by
 intro f args H v ax U
 unfold BW at U
 split at U
 · rename_i r ah
   cases U
   exact h1 f args H v ax ah
 · exact aa f args H v ax U
end
section
variable {P:Program}
end
section
variable {P:Program}
end
section
variable {P:Program}
end
section
variable {P:Program}
end
section
variable {P:Program}
end
section
variable {P:Program}
def fW(P:Program)(need bk:Nat)(rd:Option Nat)(c:Code)(r:aC)(d:List bo)(q:aJ)(H:J)(R:bh->aC->List bo->aJ->J->Prop):Prop:=
 ∀(b:Frame) (μ:aW) (w:World) (a:Act) (k:List Item) (cs0 cs:List Frame),kX μ b rd->gY need μ r a.tmps->a.tmps.size=bk->a8 μ H w->fi P μ->eb μ d a.defers->fE μ b.kind cs0 q cs->
  ∃e r' d' aR ax,R e r' d' aR ax/\jb P need bk μ H w b k cs0 (lone (b.atR a (.code c::k)) cs w) (.ok e r' d' aR ax)
variable {need bk:Nat} {rd:Option Nat} {r:aC} {d:List bo} {q:aJ} {H:J} {R R1 jf:bh->aC->List bo->aJ->J->Prop}
theorem fW.of_run{call:cJ}(ab:ie P call)(hdr:∀need bk,jq P need bk call){c:Code}(cD:fg bk c=true){e:bh}{r':aC}{d':List bo}{aR:aJ}{ax:J}
  (h:cQ P need rd call c r d q H=.ok e r' d' aR ax)(ei:R e r' d' aR ax):fW P need bk rd c r d q H R:=λb μ w a k cs0 cs bR ah bg af aj al bj=>by
 have h1:=mB ab (hdr need bk) (xu ab) rd c cD b r d q H μ w a k cs0 cs bR ah bg af aj al bj
 rw[h] at h1
 exact⟨e,r',d',aR,ax,ei,h1⟩
theorem fW.mono{c:Code}(h:fW P need bk rd c r d q H R1)(hm:∀e r' d' aR ax,R1 e r' d' aR ax->jf e r' d' aR ax):fW P need bk rd c r d q H jf:=λb μ w a k cs0 cs bR ah bg af aj al bj=>by
 obtain⟨e,r',d',aR,ax,h1,aa⟩:=h b μ w a k cs0 cs bR ah bg af aj al bj
 exact⟨e,r',d',aR,ax,hm _ _ _ _ _ h1,aa⟩
theorem fW.seq{x y:Code}(h:fW P need bk rd x r d q H R1)(aa:∀r' d' aR ax,R1 .nrm r' d' aR ax->fW P need bk rd y r' d' aR ax jf)(ao:∀e r' d' aR ax,e≠ .nrm->R1 e r' d' aR ax->jf e r' d' aR ax):fW P need bk rd (.seq x y) r d q H jf:=λb μ w a k cs0 cs bR ah bg af aj al bj=>by
 obtain⟨e,r',d',aR,ax,bz,bZ⟩:=h b μ w a (.code y::k) cs0 cs bR ah bg af aj al bj
 obtain⟨az,w',b1,bq,s1,s2,bw,bG,bP,cn,cP⟩:=bZ
 by_cases he:e=.nrm
 · subst he
   obtain⟨ar,bx,d2,a_,ch,m1,m2⟩:=aa _ _ _ _ bz b az w' b1 k cs0 bq (bR.mono bP.le) s2 bw bG (aj.mono bP.le) cn cP
   exact⟨ar,bx,d2,a_,ch,m1,m2.of_steps af bG (Steps.head stepR_seq s1) bP⟩
 · exact⟨e,r',d',aR,ax,ao _ _ _ _ _ he bz,az,w',b1,bq,(s1.pass (λid h=>by cases h) he).of_steps (.one stepR_seq),s2,bw,bG,bP,cn,cP⟩
def vC(id:Nat):bh->bh
 |.exit i=>if i=id then .nrm else .exit i
 |e=>e
theorem fW.block{id:Nat}{c:Code}(h:fW P need bk rd c r d q H R1)(hm:∀e r' d' aR ax,R1 e r' d' aR ax->jf (vC id e) r' d' aR ax):fW P need bk rd (.block id c) r d q H jf:=λb μ w a k cs0 cs bR ah bg af aj al bj=>by
 obtain⟨e,r',d',aR,ax,bz,bZ⟩:=h b μ w a (.inBlock id::k) cs0 cs bR ah bg af aj al bj
 refine⟨vC id e,r',d',aR,ax,hm _ _ _ _ _ bz,?_⟩
 obtain⟨az,w',b1,bq,s1,s2,bw,bG,bP,cn,cP⟩:=bZ
 cases e with
 |nrm=>exact⟨az,w',b1,bq,Steps.head stepR_block (Steps.trans s1 (.one stepR_inBlock)),s2,bw,bG,bP,cn,cP⟩
 |exit i=>
  obtain⟨cz,aw,ar⟩:=s1
  by_cases nY:i=id
  · simp only[vC,nY,if_true]
    subst nY
    have bn:exitTo i cz=some k:=by rw[aw];simp[exitTo]
    exact⟨az,w',b1,bq,Steps.head stepR_block (Steps.trans ar (.one (stepR_exit bn))),s2,bw,bG,bP,cn,cP⟩
  · simp only[vC,if_neg nY]
    have:(id==i)=false:=by simp;exactλh=>nY h.symm
    exact⟨az,w',b1,bq,⟨cz,aw.trans (by simp[exitTo,this]),Steps.head stepR_block ar⟩,s2,bw,bG,bP,cn,cP⟩
 |ret=>obtain⟨cz,ar⟩:=s1;exact⟨az,w',b1,bq,⟨cz,Steps.head stepR_block ar⟩,s2,bw,bG,bP,cn,cP⟩
 |goto l=>exact s1.elim
 |bm v=>obtain⟨cz,u,aw,ar⟩:=s1;exact⟨az,w',b1,bq,⟨cz,u,aw,Steps.head stepR_block ar⟩,s2,bw,bG,bP,cn,cP⟩
def NR(inv:Nat->aC->List bo->aJ->J->Prop)(n:Nat)(R:bh->aC->List bo->aJ->J->Prop):bh->aC->List bo->aJ->J->Prop:=λe r d q H=>(e=.nrm/\∃m,m<n/\inv m r d q H)\/(e≠ .nrm/\R e r d q H)
theorem fW.loop{c:Code}(inv:Nat->aC->List bo->aJ->J->Prop)(kd:∀n r d q H,inv n r d q H->fW P need bk rd c r d q H (NR inv n R))(gv:Nat)(ay:inv gv r d q H):fW P need bk rd (.loop c) r d q H R:=λb μ w a k cs0 cs bR ah bg af aj al bj=>by
 have key:∀(n m:Nat),m<n->∀(r:aC) (d:List bo) (q:aJ) (H:J) (μ:aW) (w:World) (a:Act) (cs:List Frame),inv m r d q H->kX μ b rd->gY need μ r a.tmps->a.tmps.size=bk->a8 μ H w->fi P μ->eb μ d a.defers->fE μ b.kind cs0 q cs->
   ∃e r' d' aR ax,R e r' d' aR ax/\jb P need bk μ H w b k cs0 (lone (b.atR a (.code c::.inLoop c::k)) cs w) (.ok e r' d' aR ax):=by
  intro n
  induction n with
  |zero=>intro m hm;omega
  |succ n a7=>
   intro m hm r d q H μ w a cs ag bR ah bg af aj al bj
   obtain⟨e,r',d',aR,ax,bz,az,w',b1,bq,s1,s2,bw,bG,bP,cn,cP⟩:=kd m r d q H ag b μ w a (.inLoop c::k) cs0 cs bR ah bg af aj al bj
   rcases bz with⟨rfl,n0,oS,dG⟩|⟨he,ei⟩
   · obtain⟨ar,bx,d2,a_,ch,m1,m2⟩:=a7 n0 (by omega) r' d' aR ax az w' b1 bq dG (bR.mono bP.le) s2 bw bG (aj.mono bP.le) cn cP
     exact⟨ar,bx,d2,a_,ch,m1,m2.of_steps af bG (Steps.trans s1 (.one stepR_inLoop)) bP⟩
   · exact⟨e,r',d',aR,ax,ei,az,w',b1,bq,s1.pass (λid h=>by cases h) he,s2,bw,bG,bP,cn,cP⟩
 obtain⟨e,r',d',aR,ax,bz,bZ⟩:=key (gv+1) gv (by omega) r d q H μ w a cs ay bR ah bg af aj al bj
 exact⟨e,r',d',aR,ax,bz,bZ.of_steps af af (.one stepR_loop) (bE.refl _ _ _)⟩
theorem BX{μ:aW}:∀{es:List df} {ms:List MapEntry},ec μ es ms->∀m∈ms,∃e∈es,oI μ e m
 |[],_,h,m,hm=>by cases h;cases hm
 |e::es,_,⟨m0,ms,rfl,h1,aa⟩,m,hm=>by
  rcases List.mem_cons.1 hm with rfl|hm
  · exact⟨e,by simp,h1⟩
  · obtain⟨b_,ao,aM⟩:=BX aa m hm
    exact⟨b_,by simp[ao],aM⟩
theorem Gx{μ:aW}:∀{es:List df} {ms:List MapEntry},ec μ es ms->∀e∈es,∃m∈ms,oI μ e m
 |[],_,h,m,hm=>by cases hm
 |e::es,_,⟨m0,ms,rfl,h1,aa⟩,m,hm=>by
  rcases List.mem_cons.1 hm with rfl|hm
  · exact⟨m0,by simp,h1⟩
  · obtain⟨b_,ao,aM⟩:=Gx aa m hm
    exact⟨b_,by simp[ao],aM⟩
theorem NS{μ:aW}{w:World}(af:a8 μ H w){t:TypeId}{l3 m since last clock:Nat}{seen:List Nat}{es:List df}{nV:Value}(ag:aS μ (.ptr l3 0) nV)
  (s8:H.get l3=some (.mapIter (some m) since seen last))(hm:H.get m=some (.map es clock))(hold:∀e∈es,e.born<since)(jn:since<=last):
  ((∀e∈es,e.born∈seen)/\dW P μ H w (Instr.next nV false t) (.aF [.bool false]) H)\/
  ∃e∈es,e.born∉seen/\dW P μ H w (Instr.next nV false t) (.aF [.bool true,e.key,e.val]) (H.set l3 (some (.mapIter (some m) since (seen++[e.born]) clock))):=by
 obtain⟨i,ft,rfl⟩:=ag
 obtain⟨dg,j,aG,aw⟩:=af.rel _ _ i s8 ft
 obtain⟨fR,i0,uv⟩:=i
 simp only at dg;subst dg
 have o1:w.heap[fR]? =some (.mapIter (some j.aT) since ⟨seen⟩ last):=aw
 obtain⟨ents,f1,f2⟩:=af.rel _ _ j hm aG
 have eL:(getObj fR).run P w=.ok (.mapIter (some j.aT) since ⟨seen⟩ last) w:=by simp[getObj,Sem.run,o1]
 have xd:(getObj j.aT).run P w=.ok (.map ⟨ents⟩ clock) w:=by simp[getObj,Sem.run,f1]
 have Gy:∀x∈(⟨ents⟩:Array MapEntry).toList,x.born<since:=λx U=>by
  obtain⟨e,he,ah⟩:=BX f2 x U
  rw[<-ah.2.2];exact hold e he
 have Gz:=next_test_false ⟨seen⟩ ⟨ents⟩ since last Gy jn
 have mA:∀x∈(Array.filter (λe=>!(⟨seen⟩:Array Nat).contains e.born) (⟨ents⟩:Array MapEntry)).toList,x.born<since:=λx U=>Gy x (by simp at U⊢;exact U.1)
 have dU:∀x∈(Array.filter (λe=>!(⟨seen⟩:Array Nat).contains e.born) (⟨ents⟩:Array MapEntry)).toList,x∈ents/\x.born∉seen:=λx U=>by
  simp at U;exact U
 have dn:(Array.filter (λe=>!(⟨seen⟩:Array Nat).contains e.born) (⟨ents⟩:Array MapEntry)).size=0->∀x∈ents,x.born∈seen:=λay x U=>by
  by_cases ae:x.born∈seen
  · exact ae
  · exfalso
    have:x∈Array.filter (λe=>!(⟨seen⟩:Array Nat).contains e.born) (⟨ents⟩:Array MapEntry):=by simp;exact⟨U,ae⟩
    rw[Array.eq_empty_of_size_eq_zero ay] at this
    simp at this
 generalize hr:Array.filter (λe=>!(⟨seen⟩:Array Nat).contains e.born) (⟨ents⟩:Array MapEntry)=L at mA dU dn
 have g1:L.filter (λx=>decide (x.born<since))=L:=Array.filter_eq_self.2 (λx U=>by simpa using mA x (by simpa using U))
 have g2:L.filter (λx=>decide (x.born>=since))=#[]:=by
  rw[Array.filter_eq_empty_iff]
  intro x U
  have:=mA x (by simpa using U)
  simp
  omega
 by_cases ay:L.size=0
 · left
   refine⟨λe he=>?_,?_⟩
   · obtain⟨x,U,ah⟩:=Gx f2 e he
     rw[ah.2.2];exact dn ay x U
   · refine .same af (v':=.tuple #[.bool false]) ?_ ⟨_,rfl,_,_,rfl,rfl,rfl⟩
     simp only[Instr.next,Sem.run_bind,eL,xd,Result.andThen_ok,Gz,Bool.false_eq_true,if_false]
     rw[hr]
     simp only[g1,g2,Array.append_empty]
     have:L=#[]:=Array.eq_empty_of_size_eq_zero ay
     subst this
     simp[choose,Sem.run,Question.forced]
 · right
   have cj:L.isEmpty=false:=by simp[Array.isEmpty,ay]
   have NT:∃(oe:Nat) (cK:World),oe<L.size/\cK.heap=w.heap/\cK.os=w.os/\cK.output=w.output/\cK.tape=w.tape/\w.drawn<=cK.drawn/\(choose (Question.mapNext L.size)).run P w=.ok oe cK:=by
    by_cases hf:L.size<=1
    · exact⟨0,w,by omega,rfl,rfl,rfl,rfl,Nat.le_refl _,by simp[choose,Sem.run,Question.forced,hf]⟩
    · exact⟨_,w.drew,Nat.mod_lt _ (by omega),rfl,rfl,rfl,rfl,Nat.le_succ _,by
       simp only[choose,Sem.run,Question.forced,decide_eq_true_eq,hf,if_false,Question.cut]
       rfl⟩
   obtain⟨oe,cK,NU,bl,a2,a3,a4,a5,dw⟩:=NT
   obtain⟨s9,NV⟩:=dU L[oe] (by simp)
   obtain⟨e,he,ah⟩:=BX f2 L[oe] s9
   refine⟨e,he,by rw[ah.2.2];exact NV,?_⟩
   have ga:=af.of_heap bl
   have zO:fR<cK.heap.size:=by rw[bl];exact(af.lt _ _ ft).2
   obtain⟨aX,bx⟩:=ga.update (w':={cK with heap:=cK.heap.setIfInBounds fR (.mapIter (some j.aT) since ⟨seen++[e.born]⟩ clock)}) (o':=.mapIter (some m) since (seen++[e.born]) clock) s8 rfl ft (by simp) (λr ah=>by simp[Array.getElem?_setIfInBounds];intro e;exact absurd e.symm ah) rfl rfl rfl
    ⟨rfl,j,aG,by simp[zO]⟩
   refine⟨μ,_,.tuple #[.bool true,L[oe].key,L[oe].val],?_,⟨_,rfl,_,_,rfl,rfl,_,_,rfl,ah.1,_,_,rfl,ah.2.1,rfl⟩,aX,bE.trans af ga (bE.of_heap bl a2 a3 a4 a5) bx⟩
   have NW:cK.heap[fR]? =some (.mapIter (some j.aT) since ⟨seen⟩ last):=by rw[bl];exact o1
   have nW:(setObj fR (.mapIter (some j.aT) since ((⟨seen⟩:Array Nat).push L[oe].born) clock)).run P cK=.ok () {cK with heap:=cK.heap.setIfInBounds fR (.mapIter (some j.aT) since ⟨seen++[e.born]⟩ clock)}:=by
    have:((⟨seen⟩:Array Nat).push L[oe].born)=⟨seen++[e.born]⟩:=by rw[ah.2.2];apply Array.ext';simp
    rw[this]
    simp[setObj,Sem.run,NW]
   simp only[Instr.next,Sem.run_bind,eL,xd,Result.andThen_ok,Gz,Bool.false_eq_true,if_false]
   rw[hr]
   simp only[g1,g2,Array.append_empty,cj,Bool.false_eq_true,if_false,Array.empty_append,Array.size_map,dw,Result.andThen_ok,Array.getElem?_map,Array.getElem?_eq_getElem NU,Option.map_some,Sem.run_bind,nW]
   rfl
theorem fW.next{call:cJ}(ab:ie P call){id:Nat}{ops:Array Oper}{o:Oper}{rest:List Oper}(aN:ops.toList=o::rest){it:Operand}(dH:o.op=.next it false)(dN:o.guard=none)(cD:fg bk (.region id ops false)=true)
  {l3 m since last clock:Nat}{seen:List Nat}{es:List df}(BY:b9 0 [] r (bM P need [] it)=.ptr l3 0)(s8:H.get l3=some (.mapIter (some m) since seen last))(hm:H.get m=some (.map es clock))(hold:∀e∈es,e.born<since)(jn:since<=last)
  (rC:(∀e∈es,e.born∈seen)->∃b_ r' d' aR ax,kN need r (hW P need ops rest (fB o 0 []) 1) (gH P need rd.isSome call r (iK P need ops rest (fB o 0 []) 1) [.aF [.bool false]] d q H)=.ok b_ r' d' aR ax/\R b_ r' d' aR ax)
  (et:∀e∈es,e.born∉seen->∃b_ r' d' aR ax,kN need r (hW P need ops rest (fB o 0 []) 1) (gH P need rd.isSome call r (iK P need ops rest (fB o 0 []) 1) [.aF [.bool true,e.key,e.val]] d q (H.set l3 (some (.mapIter (some m) since (seen++[e.born]) clock))))=.ok b_ r' d' aR ax/\R b_ r' d' aR ax):
  fW P need bk rd (.region id ops false) r d q H R:=λb μ w a k cs0 cs bR ah bg af aj al bj=>by
 simp only[fg,Bool.and_eq_true,List.all_eq_true] at cD
 have g_:∀o∈ops.toList,∀t,o.dst=some t->t<bk:=λo aN t bd=>by
  have:=cD.1 o aN
  rw[bd] at this
  simpa using this
 have GA:=gL.init (P:=P) (need:=need) ah
 have dr:=GA.eval (a:=a) aj it
 rw[BY] at dr
 have GB:ops[0]? =some o:=by rw[<-Array.getElem?_toList,aN];rfl
 have mA:o∈ops.toList:=by rw[aN];simp
 have qy:∀t,o.dst=some t->t<a.tmps.size:=λt h=>by rw[bg];exact g_ o mA t h
 have NX:ops.size=rest.length+1:=by
  have:=congrArg List.length aN
  simpa using this
 have NY:List.range ops.size=0::List.range' 1 rest.length:=by rw[NX,List.range_eq_range',List.range'_succ]
 have key:∀(v:I) (H1:J),dW P μ H w (Instr.next (a.eval it) false o.type) v H1->
   jb P need bk μ H w b k cs0 (lone (b.atR a (.code (.region id ops false)::k)) cs w) (kN need r (hW P need ops rest (fB o 0 []) 1) (gH P need rd.isSome call r (iK P need ops rest (fB o 0 []) 1) [v] d q H1)):=by
  intro v H1 aI
  obtain⟨az,w',u,dw,hu,AI,ij⟩:=aI
  have hw:Region.wanted o (yielded ops a.tmps)=true:=by simp[Region.wanted,dN]
  have b0:=stepGR_op (P:=P) (b:=b) (a:=a) (k:=k) (cs:=cs) (w:=w) (rest:=List.range' 1 rest.length) GB hw
  have kT:o.semAt b.roundOf a.eval=execOp a.eval o:=Oper.semAt_eq _ _ _ λc e=>by rw[dH] at e;cases e
  rw[kT] at b0
  obtain⟨g1,_⟩:=qv b0
  have hex:(execOp a.eval o).run P w=.ok (.value u) w':=by
   have:execOp a.eval o=(do pure (.value (<-Instr.next (a.eval it) false o.type))):=by
    obtain⟨dst,op,type,pos,after,guard⟩:=o
    simp only at dH
    subst dH
    rfl
   rw[this]
   simp only[Sem.run_bind,dw,Result.andThen_ok]
   rfl
  have ae:=g1 u w' hex
  have hn:(b.atR a (.inRegion ops (0::List.range' 1 rest.length)::k)).finish u=b.atR (a.put o.dst u) (.inRegion ops (List.range' 1 rest.length)::k):=by
   rw[Frame.finish_atR,GB];rfl
  rw[hn] at ae
  have uF:=(GA.mono ij.le).step (a:=a) (o:=o) qy hu
  have jm:ops.toList.drop 1=rest:=by rw[aN];rfl
  have a7:=xp (P:=P) (need:=need) (k:=k) ab g_ (b:=b) (inR:=rd.isSome) bR.isSome (r:=r) (cs0:=cs0) rest 1 (fB o 0 []) 1 [v] d q az H1 w' (a.put o.dst u) cs jm rfl uF ((qx _ _ _).trans bg) AI (aj.mono ij.le) (by rw[put_defers];exact al.mono ij.le) (bj.mono ij.le)
  have aa:=kW.code a7
  refine jb.of_steps af AI (Steps.trans (.one stepR_region) ?_) ij aa
  rw[NY]
  exact ae
 rcases NS (P:=P) af (t:=o.type) dr s8 hm hold jn with⟨dn,aI⟩|⟨e,he,ja,aI⟩
 · obtain⟨b_,r',d',aR,ax,h1,aa⟩:=rC dn
   have:=key _ _ aI
   rw[h1] at this
   exact⟨b_,r',d',aR,ax,aa,this⟩
 · obtain⟨b_,r',d',aR,ax,h1,aa⟩:=et e he ja
   have:=key _ _ aI
   rw[h1] at this
   exact⟨b_,r',d',aR,ax,aa,this⟩
end
section
variable {P:Program} {fn:Func} {rd:Option Nat} {call:cJ}
def c7(P:Program)(fn:Func)(rd:Option Nat)(p:List Nat)(st:aQ)(R:bh->aQ->Prop):Prop:=
 ∀r,Mod r st.Γ->fW P (bH fn) fn.ntmps rd (sub (cS fn) p) r st.d st.q st.h (λe r' d' aR ai=>∃cg,Mod r' cg/\R e ⟨cg,d',aR,ai⟩)
theorem c7.of_run(ab:ie P call)(hdr:∀need bk,jq P need bk call){p:List Nat}{st bp:aQ}{e:bh}(cD:fg fn.ntmps (sub (cS fn) p)=true)(h:br P fn rd call p st e bp){R:bh->aQ->Prop}(ei:R e bp):c7 P fn rd p st R:=λr ah=>by
 obtain⟨r',h1,aa⟩:=h r ah
 exact fW.of_run ab hdr cD h1 ⟨bp.Γ,aa,ei⟩
theorem c7.seq{p:List Nat}{st:aQ}{R1 jf:bh->aQ->Prop}(ae:nj (sub (cS fn) p)=true)(h1:c7 P fn rd (p++[0]) st R1)(aa:∀bp,R1 .nrm bp->c7 P fn rd (p++[1]) bp jf)(ao:∀e bp,e≠ .nrm->R1 e bp->jf e bp):c7 P fn rd p st jf:=λr ah=>by
 rw[x7 ae]
 have eZ:=h1 r ah
 rw[hG] at eZ
 refine eZ.seq (λr' d' aR ax ⟨cg,m,ei⟩=>?_) λe r' d' aR ax he ⟨cg,m,ei⟩=>⟨cg,m,ao e _ he ei⟩
 have:=aa _ ei r' m
 rw[hG] at this
 exact this
theorem c7.block{p:List Nat}{id:Nat}{st:aQ}{R1 jf:bh->aQ->Prop}(ae:qY id (sub (cS fn) p)=true)(h1:c7 P fn rd (p++[0]) st R1)(aa:∀e bp,R1 e bp->jf (vC id e) bp):c7 P fn rd p st jf:=λr ah=>by
 rw[x8 ae]
 have eZ:=h1 r ah
 rw[hG] at eZ
 exact eZ.block λe r' d' aR ax ⟨cg,m,ei⟩=>⟨cg,m,aa e _ ei⟩
def GC(inv:Nat->aQ->Prop)(n:Nat)(R:bh->aQ->Prop):bh->aQ->Prop:=λe st=>(e=.nrm/\∃m,m<n/\inv m st)\/(e≠ .nrm/\R e st)
theorem c7.loop{p:List Nat}(inv:Nat->aQ->Prop){R:bh->aQ->Prop}(ae:sO (sub (cS fn) p)=true)(kd:∀n st,inv n st->c7 P fn rd (p++[0]) st (GC inv n R))(gv:Nat){st:aQ}(ay:inv gv st):c7 P fn rd p st R:=λr ah=>by
 rw[FI ae]
 refine fW.loop (λn r d q H=>∃Γ,Mod r Γ/\inv n ⟨Γ,d,q,H⟩) (λn r d q H ⟨Γ,m,ag⟩=>?_) gv ⟨st.Γ,ah,ay⟩
 have h1:=kd n ⟨Γ,d,q,H⟩ ag r m
 rw[hG] at h1
 refine h1.mono λe r' d' aR ax ⟨cg,n0,ei⟩=>?_
 rcases ei with⟨rfl,k,hk,dG⟩|⟨he,ei⟩
 · exact .inl ⟨rfl,k,hk,cg,n0,dG⟩
 · exact .inr ⟨he,cg,n0,ei⟩
theorem c7.mono{p:List Nat}{st:aQ}{R1 jf:bh->aQ->Prop}(h:c7 P fn rd p st R1)(hm:∀e bp,R1 e bp->jf e bp):c7 P fn rd p st jf:=λr ah=>(h r ah).mono λe r' d' aR ax ⟨cg,m,ei⟩=>⟨cg,m,hm e _ ei⟩
theorem c7.pre{p:List Nat}{st st1:aQ}{R:bh->aQ->Prop}(h:c7 P fn rd p st R)(ae:eu st.Γ st1.Γ)(al:st1.d=st.d)(bj:st1.q=st.q)(af:st1.h=st.h):c7 P fn rd p st1 R:=λr ah=>by
 have:=h r (ah.sub ae)
 rw[al,bj,af]
 exact this
def stepOf:Code->Option (Nat×Nat×Nat)
 |.region _ ops false=>match ops.toList with
  |[dp,dD]=>match dp.op,dp.guard,dp.dst,dD.op,dD.guard,dD.dst with
   |.next (.tmp it) false,none,some a,.extract (.tmp b) 0,none,some c=>match Nat.beq a b with
    |true=>some (it,a,c)
    |false=>none
   |_,_,_,_,_,_=>none
  |_=>none
 |_=>none
theorem NZ{c:Code}{it a t:Nat}(h:stepOf c=some (it,a,t)):∃id ops dp dD,c=.region id ops false/\ops.toList=[dp,dD]/\dp.op=.next (.tmp it) false/\dp.guard=none/\dp.dst=some a/\dD.op=.extract (.tmp a) 0/\dD.guard=none/\dD.dst=some t:=by
 unfold stepOf at h
 split at h
 · rename_i id ops
   split at h
   · rename_i dp dD g_
     split at h
     · rename_i Ui b1 ib c' h1 aa ao aM bA dB
       split at h
       · rename_i kQ
         have:=Nat.eq_of_beq_eq_true kQ
         subst this
         cases h
         exact⟨id,ops,dp,dD,rfl,g_,h1,aa,ao,aM,bA,dB⟩
       · cases h
     · cases h
   · cases h
 · cases h
theorem c7.next(ab:ie P call){p:List Nat}{st:aQ}{R:bh->aQ->Prop}{it a t:Nat}(ae:stepOf (sub (cS fn) p)=some (it,a,t))(cD:fg fn.ntmps (sub (cS fn) p)=true)(aB:Nat.testBit (bH fn) it=true)(Ax:Nat.testBit (bH fn) a=false)(N0:Nat.testBit (bH fn) t=true)
  {l3 m since last clock:Nat}{seen:List Nat}{es:List df}(ah:cU it st.Γ=some (.ptr l3 0))(s8:st.h.get l3=some (.mapIter (some m) since seen last))(hm:st.h.get m=some (.map es clock))(hold:∀e∈es,e.born<since)(jn:since<=last)
  (rC:(∀e∈es,e.born∈seen)->R .nrm ⟨put t (.bool false) st.Γ,st.d,st.q,st.h⟩)
  (et:∀e∈es,e.born∉seen->R .nrm ⟨put t (.bool true) st.Γ,st.d,st.q,st.h.set l3 (some (.mapIter (some m) since (seen++[e.born]) clock))⟩):c7 P fn rd p st R:=λr qo=>by
 obtain⟨id,ops,dp,dD,N1,g_,h1,aa,ao,aM,bA,dB⟩:=NZ ae
 rw[N1] at cD⊢
 have BY:b9 0 [] r (bM P (bH fn) [] (.tmp it))=.ptr l3 0:=by
  simp only[bM,gx,aB,b9]
  exact qo it _ ah
 have fin:∀(b:Bool) (vs:List I) (H:J),∃r',kN (bH fn) r (hW P (bH fn) ops [dD] (fB dp 0 []) 1) (gH P (bH fn) rd.isSome call r (iK P (bH fn) ops [dD] (fB dp 0 []) 1) [.aF (.bool b::vs)] st.d st.q H)=.ok .nrm r' st.d st.q H/\Mod r' (put t (.bool b) st.Γ):=by
  intro b vs H
  have e7:aliasOf dD=none:=by
   unfold aliasOf
   rw[aM,bA,dB]
  have N2:fB dp 0 []=[(a,.env 0)]:=by
   unfold fB;rw[ao]
  have pz:hg P (bH fn) ops [(a,.env 0)] dD=none:=by unfold hg;rw[bA]
  have dr:bV P dD (λx=>b9 1 [.aF (.bool b::vs)] r (bM P (bH fn) [(a,.env 0)] x)) H=.val (.bool b) H:=by
   have U:b9 1 [.aF (.bool b::vs)] r (bM P (bH fn) [(a,.env 0)] (.tmp a))=.aF (.bool b::vs):=by
    simp[bM,gx,b9,nth]
   simp only[bV,aM,U]
   rfl
  rw[N2]
  have lI:hW P (bH fn) ops [dD] [(a,.env 0)] 1=fB dD 1 [(a,.env 0)]:=by
   unfold hW;rw[e7];rfl
  have qA:iK P (bH fn) ops [dD] [(a,.env 0)] 1=[⟨none,dD,[(a,.env 0)],1⟩]:=by
   unfold iK;rw[e7,pz];rfl
  have N3:fB dD 1 [(a,.env 0)]=[(t,.env 1),(a,.env 0)]:=by unfold fB;rw[dB]
  rw[lI,qA,N3]
  refine⟨mc (bH fn) 2 [.bool b,.aF (.bool b::vs)] r [(t,.env 1),(a,.env 0)] r,?_,?_⟩
  · have aw:gH P (bH fn) rd.isSome call r [⟨none,dD,[(a,.env 0)],1⟩] [.aF (.bool b::vs)] st.d st.q H=.ok [.bool b,.aF (.bool b::vs)] st.d st.q H:=by
      simp only[gH,c5,c8,dr]
    rw[aw]
    rfl
  · have xC:=vg (need:=bH fn) (m:=2) (env:=[.bool b,.aF (.bool b::vs)]) qo [(t,.env 1),(a,.env 0)] r st.Γ qo
    have he:nf (bH fn) 2 [.bool b,.aF (.bool b::vs)] st.Γ [(t,.env 1),(a,.env 0)] st.Γ=put t (.bool b) st.Γ:=by
     simp only[nf,N0,Ax]
     rfl
    rw[he] at xC
    exact xC
 refine fW.next ab g_ h1 aa cD BY s8 hm hold jn (λdn=>?_) λe he ja=>?_
 · obtain⟨r',bz,bZ⟩:=fin false [] st.h
   exact⟨_,_,_,_,_,bz,_,bZ,rC dn⟩
 · obtain⟨r',bz,bZ⟩:=fin true [e.key,e.val] _
   exact⟨_,_,_,_,_,bz,_,bZ,et e he ja⟩
end
section
variable {P:Program}
def rD(μ:aW)(H:J)(w:World)(R:I->J->Prop)(e:Ending)(w':World):Prop:=∃v ax,R v ax/\Ends μ H w (.ret v ax) e w'
def lh(P:Program)(f:Nat)(args:List I)(H:J)(R:I->J->Prop):Prop:=
 ∀(μ:aW) (w:World) (vs:List Value),a8 μ H w->fi P μ->bD μ args vs->o7 P f vs w (rD μ H w R)
theorem rD.no{μ:aW}{H:J}{w:World}{R:I->J->Prop}:∀w',¬rD μ H w R .outgrown w':=λw' ⟨v,ax,_,h⟩=>by
 obtain⟨_,_,e,_⟩:=h;cases e
theorem lh.yw{call:cJ}(ab:ie P call)(hdr:∀need bk,jq P need bk call)(dn:sm P){f:FuncId}{fn:Func}(hf:P.funcs[f]? =some fn)(ad:fn.body.isSome=true){args:List I}(hle:Nat.ble args.length fn.ntmps=true){H:J}{R:I->J->Prop}
  (h:c7 P fn none [] ⟨jy 0 args,[],.none,H⟩ (λe s=>(e=.nrm\/e=.ret)/\s.q=.none/\∃v ax,(∀r,Mod r s.Γ->gJ P call (bH fn) fn r 100 none s.d s.h=.ret v ax)/\R v ax)):lh P f args H R:=λμ w vs af aj aI=>by
 obtain⟨c,oQ⟩:=Option.isSome_iff_exists.1 ad
 obtain⟨uI,sn⟩:=dn f fn c hf oQ
 have q0:cS fn=c:=by simp[cS,oQ]
 have h1:=h _ (sM args)
 rw[q0] at h1
 simp only[sub] at h1
 have hlen:=aI.length
 have w6:args.length<=fn.ntmps:=by simpa using hle
 refine .inr ⟨uH hf oQ sn _ _,λcs=>?_⟩
 have bj:fE μ .normal cs .none cs:=⟨rfl,λca hk=>by simp[tryRecover,hk]⟩
 have Ah:Frame.enter P f ⟨vs⟩ .normal=({(default:Frame) with fn:=f,kind:=.normal}:Frame).atR {tmps:=⟨vs⟩++Array.replicate (fn.ntmps-vs.length) undef,defers:=[]} [.code c]:=by
  simp[Frame.enter,Frame.atR,hf,oQ]
  rfl
 obtain⟨e,r',d',aR,ax,⟨cg,m1,he,sj,v,BZ,eQ,ei⟩,az,w',b1,bq,s1,s2,bw,bG,bP,cn,cP⟩:=h1 {(default:Frame) with fn:=f,kind:=.normal} μ w {tmps:=⟨vs⟩++Array.replicate (fn.ntmps-vs.length) undef,defers:=[]} [] cs cs rfl (EC aI _) (by simp;omega) af aj rfl bj
 have N4:aR=.none:=sj
 subst N4
 have fr:bq=cs:=cP.1
 subst fr
 rw[<-Ah] at s1
 have dr:gJ P call (bH fn) fn r' 100 none d' ax=.ret v BZ:=eQ r' m1
 have main:∀(ca:Frame),ca.fn=f->ca.tmps=b1.tmps->ca.defers=b1.defers->ca.kind=.normal->kY az none ca.mode->Steps P (lone (Frame.enter P f ⟨vs⟩ .normal) bq w) (lone ca bq w')->
   ∃e cf ik,rD μ H w R e cf/\Comes P (lone (Frame.enter P f ⟨vs⟩ .normal) bq w) (lone ik bq cf) e/\ik.fn=f/\ik.leaving P cf e:=by
  intro ca h1 aa ao aM bA dB
  subst h1
  obtain⟨ar,cf,ik,aX,bx,db,dc⟩:=xw ab hdr dn 100 none d' ax az w' ca bq (by rw[dr];rfl) bG (aj.mono bP.le) (by rw[aa];exact s2) hf aM (by rw[ao];exact cn) bA
  rw[dr] at aX
  have uK:=Ends.trans af bG bP aX
  exact⟨ar,cf,ik,⟨v,BZ,ei,uK⟩,EF (dB.trans bx) (λe=>xn (r:=.ret v BZ) rfl _ (e▸uK)),db,dc⟩
 rcases he with rfl|rfl
 · exact main {({(default:Frame) with fn:=f,kind:=.normal}:Frame).atR b1 [] with mode:=.returning} rfl rfl rfl rfl rfl (Steps.trans s1 (.one (stepR_end rfl)))
 · obtain⟨cz,qB⟩:=s1
   exact main {({(default:Frame) with fn:=f,kind:=.normal}:Frame).atR b1 (.code .ret::cz) with mode:=.returning} rfl rfl rfl rfl rfl (Steps.trans qB (.one (stepR_ret rfl)))
theorem yx{call:cJ}{fn:Func}{Γ:Env}{h:J}{v:I}(eQ:jz P (bH fn) fn Γ h=some v):∀r,Mod r Γ->gJ P call (bH fn) fn r 100 none [] h=.ret v h:=λr ah=>by
 simp only[gJ,sN ah eQ]
theorem N5{call:cJ}{fn:Func}{Γ:Env}{h:J}{v:I}{b:Nat}(aj:h.get b=some (.defrd (some [])))(eQ:jz P (bH fn) fn Γ (h.set b (some (.defrd none)))=some v):∀r,Mod r Γ->gJ P call (bH fn) fn r 100 none [.collected b] h=.ret v (h.set b (some (.defrd none))):=λr ah=>by
 simp only[gJ,aj,List.nil_append,sN ah eQ]
def opsOf:Code->Array Oper
 |.region _ ops _=>ops
 |_=>#[]
def GD(P:Program)(need:Nat):Code->Option (Nat×List Acc×Nat×List (Nat×Acc))
 |.region _ ops false=>match j_ P need ops with
  |⟨[s],loc⟩=>match s.guard,s.o.op with
   |none,.call c=>match c.callee with
    |.value (.func f)=>some (f,c.args.toList.map (bM P need s.loc),s.m,loc)
    |_=>none
   |_,_=>none
  |_=>none
 |_=>none
def yy(P:Program)(inR:Bool)(gd:Option (I×Bool))(o:Oper)(g:Operand->I)(d:List bo)(q:aJ)(H:J)(Q:I->List bo->aJ->J->Prop):Prop:=
 ∀(μ:aW) (w:World) (b:Frame) (a:Act) (ops:Array Oper) (i:Nat) (rest:List Nat) (k:List Item) (cs0 cs:List Frame),a8 μ H w->fi P μ->ops[i]? =some o->(∀kS,c8 gd=some kS->Region.wanted o (yielded ops a.tmps)=kS)->(∀x,aS μ (g x) (a.eval x))->eb μ d a.defers->fE μ b.kind cs0 q cs->inR=b.roundOf.isSome->
  ∃v d' aR ax,Q v d' aR ax/\xl P μ H w b a ops o i rest k cs0 cs (.ok v d' aR ax)
theorem yy.call{inR:Bool}{gd:Option (I×Bool)}(N6:c8 gd=some true){o:Oper}{g:Operand->I}{d:List bo}{q:aJ}{H:J}{c:Call}(dH:o.op=.call c){f:Nat}{args:List I}(dr:bV P o g H=.call f args H){R:I->J->Prop}(ei:lh P f args H R):yy P inR gd o g d q H (λv d' aR ax=>d'=d/\aR=q/\R v ax):=
 λμ w b a ops i rest k cs0 cs af lR aN dN aj al bj dU=>by
  have qw:=dN _ N6
  have hn:∀u,(b.atR a (.inRegion ops (i::rest)::k)).finish u=b.atR {tmps:=(a.put o.dst u).tmps,defers:=a.defers} (.inRegion ops rest::k):=λu=>by
   rw[Frame.finish_atR,aN,<-si];rfl
  have b0:=stepGR_op (P:=P) (b:=b) (a:=a) (k:=k) (cs:=cs) (w:=w) (rest:=rest) aN qw
  have kT:o.semAt b.roundOf a.eval=execOp a.eval o:=Oper.semAt_eq _ _ _ λc' e=>by rw[dH] at e;cases e
  rw[kT] at b0
  obtain⟨g1,g2,g3,g4,g5,g6,g7,g8⟩:=qv b0
  have GF:=Eb (P:=P) af o aj
  rw[dr] at GF
  obtain⟨_,vs,ah,h1⟩:=GF
  rcases ei μ w vs af lR h1 with⟨v,w',aK,a_⟩|⟨aK,a_⟩
  · rw[<-ah] at aK
    have ae:=g1 _ _ aK
    obtain⟨v',ax,B0,az,u,e,aa,ao,aM⟩:=a_
    cases e
    exact⟨v',d,q,ax,⟨rfl,rfl,B0⟩,az,w',_,a.defers,cs,by rw[<-hn];exact ae,aa,ao,aM,al.mono aM.le,bj.mono aM.le⟩
  · rw[<-ah] at aK
    have ae:=g5 _ _ _ aK
    obtain⟨e,w',⟨v',ax,B0,dM⟩,aq⟩:=xk rD.no a_ (b.atR a (.inRegion ops (i::rest)::k)) cs
    exact⟨v',d,q,ax,⟨rfl,rfl,B0⟩,z6 (r:=.ret v' ax) aN al bj ae ⟨e,w',dM,aq⟩⟩
def yz(P:Program)(need:Nat)(inR:Bool)(r:aC):List Step->List I->List bo->aJ->J->(List I->List bo->aJ->J->Prop)->Prop
 |[],env,d,q,h,R=>R env d q h
 |s::rest,env,d,q,h,R=>∃Q:I->List bo->aJ->J->Prop,yy P inR (match s.guard with|none=>none|some (x,c)=>some (b9 s.m env r x,c)) s.o (λx=>b9 s.m env r (bM P need s.loc x)) d q h Q/\∀v d' aR ai,Q v d' aR ai->yz P need inR r rest (v::env) d' aR ai R
theorem B1{need bk:Nat}{ops:Array Oper}(g_:∀o∈ops.toList,∀t,o.dst=some t->t<bk){b:Frame}{inR:Bool}(dU:inR=b.roundOf.isSome){r:aC}{k:List Item}{cs0:List Frame}{R:List I->List bo->aJ->J->Prop}:
  ∀(l:List Oper) (i0:Nat) (loc:List (Nat×Acc)) (m:Nat) (env:List I) (d:List bo) (q:aJ) (μ:aW) (H:J) (w:World) (a:Act) (cs:List Frame),ops.toList.drop i0=l->env.length=m->
   gL P need μ r m env loc a.tmps->a.tmps.size=bk->a8 μ H w->fi P μ->eb μ d a.defers->fE μ b.kind cs0 q cs->yz P need inR r (iK P need ops l loc m) env d q H R->
   ∃dE d' aR ax,R dE d' aR ax/\kW P need bk μ r H w b k cs0 (lone (b.atR a (.inRegion ops (List.range' i0 l.length)::k)) cs w) (hW P need ops l loc m) (.ok dE d' aR ax)
 |[],i0,loc,m,env,d,q,μ,H,w,a,cs,aq,hm,km,bg,af,aj,al,bj,eY=>by
  subst hm
  exact⟨env,d,q,H,eY,μ,w,a,cs,.one stepR_region_end,km,bg,af,bE.refl _ _ _,al,bj⟩
 |o::rest,i0,loc,m,env,d,q,μ,H,w,a,cs,aq,hm,km,bg,af,aj,al,bj,eY=>by
  have aN:ops[i0]? =some o:=by
   have:=congrArg List.head? aq
   simpa[List.head?_drop] using this
  have jm:ops.toList.drop (i0+1)=rest:=by
   have:=congrArg List.tail aq
   simpa[List.tail_drop] using this
  have mA:o∈ops.toList:=by
   rw[<-Array.getElem?_toList] at aN
   exact List.mem_of_getElem? aN
  have qy:∀t,o.dst=some t->t<a.tmps.size:=λt h=>by rw[bg];exact g_ o mA t h
  rw[List.length_cons,List.range'_succ]
  unfold iK at eY
  unfold hW
  cases aH:aliasOf o with
  |some p=>
   obtain⟨t,x⟩:=p
   rw[aH] at eY
   simp only at eY⊢
   obtain⟨bl,a2,a3⟩:=Ek aH
   have hw:Region.wanted o (yielded ops a.tmps)=true:=by simp[Region.wanted,bl]
   have b0:=stepGR_op (P:=P) (b:=b) (a:=a) (k:=k) (cs:=cs) (w:=w) (rest:=List.range' (i0+1) rest.length) aN hw
   have kT:o.semAt b.roundOf a.eval=execOp a.eval o:=by
    refine Oper.semAt_eq _ _ _ λc e=>?_
    have:=a3 a.eval
    unfold aliasOf at aH
    rw[e] at aH
    split at aH
    · rename_i h;cases h
    · rename_i h;cases h
    · cases aH
   rw[kT] at b0
   obtain⟨g1,_⟩:=qv b0
   have ae:=g1 (a.eval x) w (by rw[a3];rfl)
   have hn:(b.atR a (.inRegion ops (i0::List.range' (i0+1) rest.length)::k)).finish (a.eval x)=b.atR (a.put (some t) (a.eval x)) (.inRegion ops (List.range' (i0+1) rest.length)::k):=by
    rw[Frame.finish_atR,aN]
    simp only[Option.bind_some,a2]
   rw[hn] at ae
   obtain⟨dE,d',aR,ax,ei,a7⟩:=B1 (k:=k) g_ dU rest (i0+1) ((t,bM P need loc x)::loc) m env d q μ H w (a.put (some t) (a.eval x)) cs jm hm (km.alias aj (qy t a2) x) ((qx _ _ _).trans bg) af aj (by rw[put_defers];exact al) bj eY
   exact⟨dE,d',aR,ax,ei,a7.of_steps af af ae (bE.refl _ _ _)⟩
  |none=>
   rw[aH] at eY
   simp only[yz] at eY⊢
   obtain⟨Q,et,zw⟩:=eY
   obtain⟨v,d',aR,ax,gQ,az,w',u,ig,bq,s1,s2,bw,bG,bP,cn⟩:=et μ w b a ops i0 (List.range' (i0+1) rest.length) k cs0 cs af aj aN (Ej (acc:=b9 m env r) km.rel (λv=>rfl)) (λx=>km.eval aj x) al bj dU
   have uF:=(km.mono bG.le).step (a:=a) (o:=o) qy s2
   obtain⟨dE,d2,a_,ch,ei,a7⟩:=B1 (k:=k) g_ dU rest (i0+1) (fB o m loc) (m+1) (v::env) d' aR az ax w' {tmps:=(a.put o.dst u).tmps,defers:=ig} bq jm (by simp[hm]) uF ((qx _ _ _).trans bg) bw (aj.mono bG.le) bP cn (zw v d' aR ax gQ)
   exact⟨dE,d2,a_,ch,ei,a7.of_steps af bw s1 bG⟩
theorem fW.region{need bk:Nat}{rd:Option Nat}{id:Nat}{ops:Array Oper}{r:aC}{d:List bo}{q:aJ}{H:J}{R:bh->aC->List bo->aJ->J->Prop}(cD:fg bk (.region id ops false)=true)
  (eY:yz P need rd.isSome r (iK P need ops ops.toList [] 0) [] d q H (λenv d' aR ax=>R .nrm (mc need env.length env r (hW P need ops ops.toList [] 0) r) d' aR ax)):fW P need bk rd (.region id ops false) r d q H R:=λb μ w a k cs0 cs bR ah bg af aj al bj=>by
 simp only[fg,Bool.and_eq_true,List.all_eq_true] at cD
 have g_:∀o∈ops.toList,∀t,o.dst=some t->t<bk:=λo aN t bd=>by
  have:=cD.1 o aN
  rw[bd] at this
  simpa using this
 obtain⟨dE,d',aR,ax,ei,h⟩:=B1 (P:=P) (need:=need) (k:=k) g_ (b:=b) (inR:=rd.isSome) bR.isSome (r:=r) (cs0:=cs0) ops.toList 0 [] 0 [] d q μ H w a cs rfl rfl (gL.init ah) bg af aj al bj eY
 have aq:List.range' 0 ops.toList.length=List.range ops.size:=by rw[List.range_eq_range'];simp
 rw[aq] at h
 exact⟨.nrm,_,d',aR,ax,ei,jb.of_steps af af (.one stepR_region) (bE.refl _ _ _) (kW.code h)⟩
theorem c7.GG{fn:Func}{rd:Option Nat}{p:List Nat}{st:aQ}{R:bh->aQ->Prop}{f:Nat}{accs:List Acc}{loc:List (Nat×Acc)}(c9:GD P (bH fn) (sub (cS fn) p)=some (f,accs,0,loc))(cD:fg fn.ntmps (sub (cS fn) p)=true){args:List I}(fG:accs.map (jV 0 [] st.Γ)=args.map some){R0:I->J->Prop}(hf:lh P f args st.h R0)
  (ei:∀v ax,R0 v ax->R .nrm ⟨nf (bH fn) 1 [v] st.Γ loc st.Γ,st.d,st.q,ax⟩):c7 P fn rd p st R:=λr hm=>by
 unfold GD at c9
 split at c9
 · rename_i id ops N7
   split at c9
   · rename_i s GH lI
     split at c9
     · rename_i c dN dH
       split at c9
       · rename_i Ae N8
         simp only[Option.some.injEq,Prod.mk.injEq] at c9
         obtain⟨rfl,rfl,mu,js⟩:=c9
         subst js
         rw[N7] at cD⊢
         have GI:iK P (bH fn) ops ops.toList [] 0=[s]/\hW P (bH fn) ops ops.toList [] 0=GH:=by
          unfold j_ at lI
          rw[xo] at lI
          simp only[List.reverse_nil,List.nil_append,zg.mk.injEq] at lI
          exact lI
         refine fW.region cD ?_
         rw[GI.1,GI.2]
         have pz:∀x,bM P (bH fn) s.loc x∈[]->True:=λ_ _=>trivial
         have dr:bV P s.o (λx=>b9 s.m [] r (bM P (bH fn) s.loc x)) st.h=.call Ae args st.h:=by
          have aH:c.args.toList.map (λx=>b9 s.m [] r (bM P (bH fn) s.loc x))=args:=by
           have h1:(c.args.toList.map (bM P (bH fn) s.loc)).map (jV s.m [] st.Γ)=args.map some:=by
            rw[mu];exact fG
           rw[List.map_map] at h1
           have key:∀(l:List Operand) (as:List I),l.map (jV s.m [] st.Γ∘bM P (bH fn) s.loc)=as.map some->l.map (λx=>b9 s.m [] r (bM P (bH fn) s.loc x))=as:=by
            intro l
            induction l with
            |nil=>intro as h;cases as with
             |nil=>rfl
             |cons _ _=>cases h
            |cons x l a7=>intro as h;cases as with
             |nil=>cases h
             |cons a as=>
              simp only[List.map_cons,List.cons.injEq,Function.comp] at h⊢
              exact⟨pq hm h.1,a7 as h.2⟩
           exact key _ _ h1
          simp only[bV,dH,N8]
          rw[aH]
          show h9.call _ ([]++args++[]) st.h=_
          rw[List.nil_append,List.append_nil]
         refine⟨_,yy.call (by rw[dN];rfl) dH dr hf,λv d' aR ax ⟨h1,aa,ao⟩=>?_⟩
         subst h1;subst aa
         exact⟨_,vg (need:=bH fn) (m:=1) (env:=[v]) hm GH r st.Γ hm,ei v ax ao⟩
       · cases c9
     · cases c9
   · cases c9
 · cases c9
end
section
variable {P:Program} {need bk:Nat}
theorem fW.range{f:Operand}{ps:Array Nat}{as bS:Code}{r:aC}{d:List bo}{q:aJ}{H:J}{g:Nat}{first caps:List I}{R:bh->aC->List bo->aJ->J->Prop}{R0:I->J->Prop}(N9:fg bk (.rangeFunc f ps as bS)=true)
  (hf:b9 0 [] r (bM P need [] f)=.fn g first caps)(ab:lh P g (first++[.bY (H.n+1)]++caps) ((H.push (.defrd (some []))).push (.loop .ready none need r ps.toList as bS H.n)) R0)
  (ei:∀v c6,R0 v c6->∃st du rg uG oE oF ct,c6.get (H.n+1)=some (.loop st none du rg uG oE oF ct)/\st≠ .busy/\R .nrm r (.collected H.n::d) q (c6.set (H.n+1) (some (.loop .exhausted none du rg uG oE oF ct)))):
  fW P need bk none (.rangeFunc f ps as bS) r d q H R:=λb μ w a k cs0 cs bR ah bg af aj al bj=>by
 have cD:=N9
 simp only[fg,Bool.and_eq_true,List.all_eq_true] at cD
 have qA:∀t∈ps.toList,t<bk:=λt bd=>by simpa using cD.1.1 t bd
 have dr:=(gL.init (P:=P) ah).eval (a:=a) aj f
 obtain⟨dv,cK,mark,i,h1,aa,ao,aM,bA⟩:=Ev (P:=P) (b:=b) (a:=a) (ps:=ps) (d:=d) (r:=r) ⟨cD.1.2,cD.2,qA⟩ bR ah bg af al (l:=H.n+1) (d':=.collected H.n::d) (H1:=(H.push (.defrd (some []))).push (.loop .ready none need r ps.toList as bS H.n)) rfl rfl
 have Ac:=dr.mono aM.le
 have Ad:=Et (P:=P) (f:=f) (k:=k) (cs:=cs) h1
 obtain⟨g1,g2,g3⟩:=Es Ad
 have ke:=zY (P:=P) (w:=cK) ao Ac (args:=[.bY (H.n+1)]) (vs:=[.func (.yield i.aT) #[] #[]]) ⟨_,_,rfl,⟨i,aa,rfl⟩,rfl⟩
 rw[hf] at ke
 obtain⟨_,vs,aw,ar⟩:=ke
 have aq:nX P (lone (b.atR a (.code (.rangeFunc f ps as bS)::k)) cs w) (b.atR {tmps:=a.tmps,defers:=mark++a.defers} (.inRangeFunc i.aT::k)) cs (rD dv ((H.push (.defrd (some []))).push (.loop .ready none need r ps.toList as bS H.n)) cK R0):=by
  rcases ab dv cK vs ao (aj.mono aM.le) ar with⟨v,w',aK,a_⟩|⟨aK,a_⟩
  · rw[<-aw] at aK
    exact⟨_,_,a_,g1 _ _ aK⟩
  · rw[<-aw] at aK
    exact(xk rD.no a_ _ _).of_steps (g2 _ _ _ aK)
 obtain⟨e,hD,⟨v,c6,N_,dM⟩,eY⟩:=aq
 obtain⟨az,u,rfl,aK,a_,bO⟩:=dM
 obtain⟨st,du,rg,uG,oE,oF,ct,o9,ad,Oa⟩:=ei v c6 N_
 have hn:(b.atR {tmps:=a.tmps,defers:=mark++a.defers} (.inRangeFunc i.aT::k)).finish u=b.atR {tmps:=a.tmps,defers:=mark++a.defers} (.endRangeFunc i.aT::k):=rfl
 simp only[hn] at eY
 obtain⟨mC,dq,cd,gk⟩:=EA (P:=P) a_ (bO.le _ _ aa) o9 ad
 have gM:=Steps.trans eY (.one (Eu (b:=b) (a:={tmps:=a.tmps,defers:=mark++a.defers}) (k:=k) (cs:=cs) dq))
 have hle:=aM.le.trans (bO.le.trans gk.le)
 have ij:=bE.trans af a_ (bE.trans af ao aM bO) gk
 exact⟨.nrm,r,.collected H.n::d,q,_,Oa,az,mC,{tmps:=a.tmps,defers:=mark++a.defers},cs,gM,ah.mono hle,bg,cd,ij,bA.mono (bO.le.trans gk.le),bj.mono hle⟩
mutual
theorem aS.back{μ dv:aW}(hle:dm μ dv):∀(v:I) (u po:Value),aS μ v u->aS dv v po->aS μ v po
 |.bad,_,_,_,_=>trivial
 |.bool _,_,_,_,h=>h
 |.int _ _,_,_,_,h=>h
 |.str _,_,_,_,h=>h
 |.d_,_,_,_,h=>h
 |.ptr b off,_,_,⟨i,h,_⟩,⟨j,ai,b_⟩=>by
  have:=hle _ _ h
  rw[ai] at this;cases this
  exact⟨i,h,b_⟩
 |.bK,_,_,_,h=>h
 |.slice b off len cap,_,_,⟨i,h,_⟩,⟨j,ai,b_⟩=>by
  have:=hle _ _ h
  rw[ai] at this;cases this
  exact⟨i,h,b_⟩
 |.gw,_,_,_,h=>h
 |.map r,_,_,⟨i,h,_⟩,⟨j,ai,b_⟩=>by
  have:=hle _ _ h
  rw[ai] at this;cases this
  exact⟨i,h,b_⟩
 |.h8,_,_,_,h=>h
 |.fn f first caps,_,_,⟨_,_,_,h1,aa⟩,⟨aP,cs,e,bz,bZ⟩=>⟨aP,cs,e,bD.back hle _ _ _ h1 bz,bD.back hle _ _ _ aa bZ⟩
 |.bY l,_,_,⟨i,h,_⟩,⟨j,ai,b_⟩=>by
  have:=hle _ _ h
  rw[ai] at this;cases this
  exact⟨i,h,b_⟩
 |.dY,_,_,_,h=>h
 |.iface t x,_,_,⟨_,_,h⟩,⟨y,e,k⟩=>⟨y,e,aS.back hle _ _ _ h k⟩
 |.agg cs,_,_,⟨_,_,h⟩,⟨l,e,k⟩=>⟨l,e,bD.back hle _ _ _ h k⟩
 |.aF cs,_,_,⟨_,_,h⟩,⟨l,e,k⟩=>⟨l,e,bD.back hle _ _ _ h k⟩
theorem bD.back{μ dv:aW}(hle:dm μ dv):∀(vs:List I) (us mr:List Value),bD μ vs us->bD dv vs mr->bD μ vs mr
 |[],_,_,_,h=>h
 |a::as,_,_,⟨_,_,_,h1,aa⟩,⟨v,vs,e,bz,bZ⟩=>⟨v,vs,e,aS.back hle _ _ _ h1 bz,bD.back hle _ _ _ aa bZ⟩
end
theorem ec.back{μ dv:aW}(hle:dm μ dv):∀(es:List df) (ms xc:List MapEntry),ec μ es ms->ec dv es xc->ec μ es xc
 |[],_,_,_,h=>h
 |e::es,_,_,⟨_,_,_,h1,aa⟩,⟨m,ms,b_,bz,bZ⟩=>⟨m,ms,b_,⟨aS.back hle _ _ _ h1.1 bz.1,aS.back hle _ _ _ h1.2.1 bz.2.1,bz.2.2⟩,ec.back hle _ _ _ aa bZ⟩
theorem mj.back{μ dv:aW}(hle:dm μ dv){a:bo}{d d':Deferred}(h:mj μ a d)(k:mj dv a d'):mj μ a d':=by
 cases a with
 |call f args=>
  cases k with
  |call _ _ cap vs bz=>
   cases h with
   |call _ _ Uj Uk h1=>exact .call f args cap vs (bD.back hle _ _ _ h1 bz)
 |collected r=>
  cases k with
  |collected _ i bz=>
   cases h with
   |collected _ j h1=>
    have:=hle _ _ h1
    rw[bz] at this;cases this
    exact .collected r i h1
theorem eb.back{μ dv:aW}(hle:dm μ dv):∀(as:List bo) (ds ig:List Deferred),eb μ as ds->eb dv as ig->eb μ as ig
 |[],_,_,_,h=>h
 |_::_,_,_,⟨_,_,_,h1,aa⟩,⟨d,ds,e,bz,bZ⟩=>⟨d,ds,e,h1.back hle bz,eb.back hle _ _ _ aa bZ⟩
theorem jl.back{μ dv:aW}(hle:dm μ dv){o:b2}{i:fl}{w w':World}(h:jl μ o i w)(k:jl dv o i w'):jl μ o i w':=by
 cases o with
 |cells cs el cz bF ag=>
  obtain⟨c0,_,_,_,aa,_⟩:=h
  obtain⟨c,ed,ee,bz,bZ,eO⟩:=k
  refine⟨c,ed,ee,bz,λj v aG=>?_,eO⟩
  obtain⟨Ul,_,ff⟩:=aa j v aG
  obtain⟨u,hu,r⟩:=bZ j v aG
  exact⟨u,hu,aS.back hle _ _ _ ff r⟩
 |map es clock=>
  obtain⟨_,_,aa⟩:=h
  obtain⟨ents,bz,bZ⟩:=k
  exact⟨ents,bz,ec.back hle _ _ _ aa bZ⟩
 |nI s pos=>exact k
 |mapIter m since seen last=>
  cases m with
  |none=>exact k
  |some m=>
   obtain⟨_,Aw,h1,_⟩:=h
   obtain⟨mv,j,bz,bZ⟩:=k
   have:=hle _ _ h1
   rw[bz] at this;cases this
   exact⟨mv,Aw,h1,bZ⟩
 |loop st ey need j9 params as bS ct=>
  obtain⟨qD,Ob,_,h1,_,ao,_⟩:=h
  obtain⟨bC,f_,fn,bz,bZ,eO,ho⟩:=k
  have:=hle _ _ h1
  rw[bz] at this;cases this
  exact⟨bC,Ob,fn,h1,bZ,λt bd=>aS.back hle _ _ _ (ao t bd) (eO t bd),ho⟩
 |defrd calls=>
  cases calls with
  |none=>exact k
  |some ds=>
   obtain⟨_,_,aa⟩:=h
   obtain⟨l,bz,bZ⟩:=k
   exact⟨l,bz,eb.back hle _ _ _ aa bZ⟩
 |raw o=>exact k
theorem Oc{μ az:aW}{cs:List I}{c:Array Value}{base:Nat}(h:kp cs=true)(ab:r_ μ cs c base):r_ az cs c base:=λj v aG=>by
 obtain⟨u,h1,aa⟩:=ab j v aG
 refine⟨u,h1,?_⟩
 have dn:∀(l:List I) (k:Nat),kp l=true->l[k]? =some v->jU v=true:=λl=>by
  induction l with
  |nil=>intro k _ hk;simp at hk
  |cons a l a7=>
   intro k aq hk
   simp only[kp,Bool.and_eq_true] at aq
   cases k with
   |zero=>simp at hk;subst hk;exact aq.1
   |succ k=>exact a7 k aq.2 (by simpa using hk)
 exact u5 _ _ (dn cs j h aG) aa
theorem Ends.row{μ:aW}{H H1:J}{w w':World}{c n:Nat}{cap:cy}{cs:List I}{el bF up:Nat}{k:e3}(fr:kp cs=true)(hk:k=.own\/k=.aE)(ab:H.n<=c)(dZ:H1.get c=some (.cells cs el k bF up))(l4:∀b,b<H.n->H1.get b=H.get b)(af:a8 μ H w){e:Ending}(h:Ends μ H w (.ret (.slice c 0 n cap) H1) e w'):
  Ends μ H w (.ret (.slice H.n 0 n cap) (H.push (.cells cs el k bF up))) e w':=by
 obtain⟨dv,u,rfl,aK,a_,bO⟩:=h
 obtain⟨yA,jS,Od⟩:=aK
 have Oe:μ c=none:=by
  cases U:μ c with
  |none=>rfl
  |some y=>have:=(af.lt c y U).1;omega
 obtain⟨az,yB⟩:∃az:aW,∀b,az b=if b<H.n then μ b else if b=H.n then some yA else none:=⟨_,λ_=>rfl⟩
 have hle:dm μ az:=λb i ad=>by rw[yB,if_pos (af.lt b i ad).1];exact ad
 have eL:∀b,(H.push (.cells cs el k bF up)).get b=if b=H.n then some (.cells cs el k bF up) else H.get b:=λb=>by rw[J.fO]
 have pJ:(H.push (.cells cs el k bF up)).n=H.n+1:=rfl
 have s_:∀b i,¬b<H.n->az b=some i->b=H.n/\i=yA:=λb i ad h1=>by
  rw[yB,if_neg ad] at h1
  by_cases e:b=H.n
  · rw[if_pos e] at h1;cases h1;exact⟨e,rfl⟩
  · rw[if_neg e] at h1;cases h1
 have hS:∀b i,b<H.n->az b=some i->μ b=some i:=λb i ad h1=>by rw[yB,if_pos ad] at h1;exact h1
 have Of:(b2.cells cs el k bF up).ml=false:=by rcases hk with rfl|rfl<;>rfl
 have Og:az H.n=some yA:=by rw[yB,if_neg (Nat.lt_irrefl _),if_pos rfl]
 refine⟨az,u,rfl,⟨yA,Og,Od⟩,⟨λb o i ad ag=>?_,λb d i j ad al ag aG mF=>?_,λb i ag=>?_,λb ad=>?_⟩,?_⟩
 · by_cases h1:b<H.n
   · rw[eL,if_neg (by omega)] at ad
     have dG:=hS b i h1 ag
     have aX:=a_.rel b o i (by rw[l4 b h1];exact ad) (bO.le b i dG)
     exact(jl.back bO.le (af.rel b o i ad dG) aX).mono hle rfl
   · obtain⟨rfl,rfl⟩:=s_ b i h1 ag
     rw[eL,if_pos rfl] at ad;cases ad
     obtain⟨qN,ed,ee,aX,bx,db⟩:=a_.rel c _ i dZ jS
     exact⟨qN,ed,ee,aX,Oc fr bx,db⟩
 · obtain⟨GJ,al,gb⟩:=al
   by_cases h1:b<H.n
   · have dG:=hS b i h1 ag
     rw[eL,if_neg (by omega)] at ad
     by_cases aa:d<H.n
     · rw[eL,if_neg (by omega)] at al
       exact af.inj b d i j ad ⟨GJ,al,gb⟩ dG (hS d j aa aG) mF
     · obtain⟨rfl,rfl⟩:=s_ d j aa aG
       have:=a_.inj b c i j (by rw[l4 b h1];exact ad) ⟨_,dZ,Of⟩ (bO.le b i dG) jS mF
       omega
   · obtain⟨rfl,rfl⟩:=s_ b i h1 ag
     by_cases aa:d<H.n
     · rw[eL,if_neg (by omega)] at al
       have:=a_.inj c d i j (by rw[dZ];simp) ⟨GJ,by rw[l4 d aa];exact al,gb⟩ jS (bO.le d j (hS d j aa aG)) mF
       omega
     · exact(s_ d j aa aG).1.symm
 · by_cases h1:b<H.n
   · have:=af.lt b i (hS b i h1 ag)
     exact⟨by rw[pJ];omega,Nat.lt_of_lt_of_le this.2 bO.size⟩
   · obtain⟨rfl,rfl⟩:=s_ b i h1 ag
     exact⟨by rw[pJ];omega,(a_.lt c i jS).2⟩
 · rw[pJ] at ad
   rw[eL,if_neg (by omega)]
   exact af.bound b (by omega)
 · refine⟨hle,bO.size,by rw[pJ];omega,λb ad aq=>?_,λb ad hm=>?_,λr ah aN=>bO.old r ah aN,λb i ad ag=>?_,λb o i ad ah ag=>?_,bO.os,bO.out,bO.tape,bO.drawn⟩
   · rw[eL,if_neg (by omega)] at aq;exact aq
   · rw[eL,if_neg (by omega)]
   · by_cases h1:b<H.n
     · have:=hS b i h1 ag;rw[ad] at this;cases this
     · obtain⟨rfl,rfl⟩:=s_ b i h1 ag
       exact⟨Nat.le_refl _,(bO.new c i Oe jS).2⟩
   · have zv:=(af.lt b i ag).1
     refine⟨by rw[eL,if_neg (by omega)];exact ad,(bO.ro b o i ad ah ag).2⟩
theorem Ends.none{μ:aW}{H H1:J}{w w':World}{v:I}(aI:jU v=true)(l4:∀b,b<H.n->H1.get b=H.get b)(af:a8 μ H w){e:Ending}(h:Ends μ H w (.ret v H1) e w'):Ends μ H w (.ret v H) e w':=by
 obtain⟨dv,u,rfl,aK,a_,bO⟩:=h
 refine⟨μ,u,rfl,u5 _ _ aI aK,⟨λb o i ad ag=>?_,λb d i j ad al ag aG mF=>?_,λb i ag=>?_,af.bound⟩,?_⟩
 · have zv:=(af.lt b i ag).1
   exact jl.back bO.le (af.rel b o i ad ag) (a_.rel b o i (by rw[l4 b zv];exact ad) (bO.le b i ag))
 · exact af.inj b d i j ad al ag aG mF
 · have:=af.lt b i ag
   exact⟨this.1,Nat.lt_of_lt_of_le this.2 bO.size⟩
 · refine⟨dm.refl μ,bO.size,Nat.le_refl _,λ_ _ aq=>aq,λ_ _ _=>rfl,λr ah aN=>bO.old r ah aN,λb i ad ag=>(by rw[ad] at ag;cases ag),λb o i ad ah ag=>⟨ad,(bO.ro b o i ad ah ag).2⟩,bO.os,bO.out,bO.tape,bO.drawn⟩
end
end aU
