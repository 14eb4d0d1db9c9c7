/-
  PROVED HERE: contracts of functions (Ax). No condition beside each statement's own.
-/
import Derived.Test.YtjkomfonmcmgdaaGreatDoorAed
import Derived.OpenShut
import Derived.ChangeSame
import Derived.Lay
import Derived.Laws.IdiomRangeMap
import Derived.Test.YtjkomfonmcmgdaaGreatDoorSxa
set_option linter.unusedVariables false
set_option linter.unusedSimpArgs false
namespace bt
open Go Go.RowKit
section
variable {P:Program}
end
open Go Go.ChangeShapes Go.WideShapes Go.ChangeAt Go.RowKit
section
variable {P:Program}
def Gn(i1 i2:Nat->List I->J->Option (I×J))(f:Nat)(args:List I)(h:J):Option (I×J):=match i1 f args h with
 |some r=>some r
 |none=>i2 f args h
theorem Vg{i1 i2:Nat->List I->J->Option (I×J)}(aa:om P i1)(ad:om P i2):om P (Gn i1 i2):=by
 intro f args H v aX ab
 unfold Gn at ab
 split at ab
 · rename_i r aj
   cases ab
   exact aa f args H v aX aj
 · exact ad f args H v aX ab
end
section
variable {P:Program}
end
section
variable {P:Program}
end
section
variable {P:Program}
end
section
variable {P:Program}
end
section
variable {P:Program}
end
section
variable {P:Program}
def ji(P:Program)(need bW:Nat)(rd:Option Nat)(c:Code)(r:a2)(d:List bZ)(q:bL)(H:J)(R:bu->a2->List bZ->bL->J->Prop):Prop:=
 ∀(b:Frame) (μ:bz) (w:World) (a:Act) (k:List Item) (cs0 cs:List Frame),nq μ b rd->i_ need μ r a.tmps->a.tmps.size=bW->bB μ H w->hG P μ->gE μ d a.defers->hU μ b.kind cs0 q cs->
  ∃e r' bh bn aX,R e r' bh bn aX/\lu P need bW μ H w b k cs0 (lone (b.atR a (.code c::k)) cs w) (.ok e r' bh bn aX)
variable {need bW:Nat} {rd:Option Nat} {r:a2} {d:List bZ} {q:bL} {H:J} {R R1 mT:bu->a2->List bZ->bL->J->Prop}
theorem ji.of_run{call:aP}(ag:jM P call)(hdr:∀need bW,nr P need bW call){c:Code}(dq:hQ bW c=true){e:bu}{r':a2}{bh:List bZ}{bn:bL}{aX:J}
  (h:dJ P need rd call c r d q H=.ok e r' bh bn aX)(ei:R e r' bh bn aX):ji P need bW rd c r d q H R:=λb μ w a k cs0 cs cK aj bA ak al ao aJ=>by
 have aa:=o2 ag (hdr need bW) (BD ag) rd c dq b r d q H μ w a k cs0 cs cK aj bA ak al ao aJ
 rw[h] at aa
 exact⟨e,r',bh,bn,aX,ei,aa⟩
theorem ji.mono{c:Code}(h:ji P need bW rd c r d q H R1)(hm:∀e r' bh bn aX,R1 e r' bh bn aX->mT e r' bh bn aX):ji P need bW rd c r d q H mT:=λb μ w a k cs0 cs cK aj bA ak al ao aJ=>by
 obtain⟨e,r',bh,bn,aX,aa,ad⟩:=h b μ w a k cs0 cs cK aj bA ak al ao aJ
 exact⟨e,r',bh,bn,aX,hm _ _ _ _ _ aa,ad⟩
theorem ji.seq{x y:Code}(h:ji P need bW rd x r d q H R1)(ad:∀r' bh bn aX,R1 .nrm r' bh bn aX->ji P need bW rd y r' bh bn aX mT)(av:∀e r' bh bn aX,e≠ .nrm->R1 e r' bh bn aX->mT e r' bh bn aX):ji P need bW rd (.seq x y) r d q H mT:=λb μ w a k cs0 cs cK aj bA ak al ao aJ=>by
 obtain⟨e,r',bh,bn,aX,bJ,bQ⟩:=h b μ w a (.code y::k) cs0 cs cK aj bA ak al ao aJ
 obtain⟨a0,w',cF,bT,s1,s2,bN,bS,cr,c3,dE⟩:=bQ
 by_cases he:e=.nrm
 · subst he
   obtain⟨ax,r2,d2,a1,aM,a5,bX⟩:=ad _ _ _ _ bJ b a0 w' cF k cs0 bT (cK.mono cr.le) s2 bN bS (al.mono cr.le) c3 dE
   exact⟨ax,r2,d2,a1,aM,a5,bX.of_steps ak bS (Steps.head stepR_seq s1) cr⟩
 · exact⟨e,r',bh,bn,aX,av _ _ _ _ _ he bJ,a0,w',cF,bT,(s1.pass (λid h=>by cases h) he).of_steps (.one stepR_seq),s2,bN,bS,cr,c3,dE⟩
def zy(id:Nat):bu->bu
 |.exit i=>if i=id then .nrm else .exit i
 |e=>e
theorem ji.block{id:Nat}{c:Code}(h:ji P need bW rd c r d q H R1)(hm:∀e r' bh bn aX,R1 e r' bh bn aX->mT (zy id e) r' bh bn aX):ji P need bW rd (.block id c) r d q H mT:=λb μ w a k cs0 cs cK aj bA ak al ao aJ=>by
 obtain⟨e,r',bh,bn,aX,bJ,bQ⟩:=h b μ w a (.inBlock id::k) cs0 cs cK aj bA ak al ao aJ
 refine⟨zy id e,r',bh,bn,aX,hm _ _ _ _ _ bJ,?_⟩
 obtain⟨a0,w',cF,bT,s1,s2,bN,bS,cr,c3,dE⟩:=bQ
 cases e with
 |nrm=>exact⟨a0,w',cF,bT,Steps.head stepR_block (Steps.trans s1 (.one stepR_inBlock)),s2,bN,bS,cr,c3,dE⟩
 |exit i=>
  obtain⟨bk,aA,ax⟩:=s1
  by_cases hn:i=id
  · simp only[zy,hn,if_true]
    subst hn
    have bD:exitTo i bk=some k:=by rw[aA];simp[exitTo]
    exact⟨a0,w',cF,bT,Steps.head stepR_block (Steps.trans ax (.one (stepR_exit bD))),s2,bN,bS,cr,c3,dE⟩
  · simp only[zy,if_neg hn]
    have:(id==i)=false:=by simp;exactλh=>hn h.symm
    exact⟨a0,w',cF,bT,⟨bk,aA.trans (by simp[exitTo,this]),Steps.head stepR_block ax⟩,s2,bN,bS,cr,c3,dE⟩
 |ret=>obtain⟨bk,ax⟩:=s1;exact⟨a0,w',cF,bT,⟨bk,Steps.head stepR_block ax⟩,s2,bN,bS,cr,c3,dE⟩
 |goto l=>exact s1.elim
 |ca v=>obtain⟨bk,u,aA,ax⟩:=s1;exact⟨a0,w',cF,bT,⟨bk,u,aA,Steps.head stepR_block ax⟩,s2,bN,bS,cr,c3,dE⟩
def Vh(inv:Nat->a2->List bZ->bL->J->Prop)(n:Nat)(R:bu->a2->List bZ->bL->J->Prop):bu->a2->List bZ->bL->J->Prop:=λe r d q H=>(e=.nrm/\∃m,m<n/\inv m r d q H)\/(e≠ .nrm/\R e r d q H)
theorem ji.loop{c:Code}(inv:Nat->a2->List bZ->bL->J->Prop)(qW:∀n r d q H,inv n r d q H->ji P need bW rd c r d q H (Vh inv n R))(ql:Nat)(h0:inv ql r d q H):ji P need bW rd (.loop c) r d q H R:=λb μ w a k cs0 cs cK aj bA ak al ao aJ=>by
 have key:∀(n m:Nat),m<n->∀(r:a2) (d:List bZ) (q:bL) (H:J) (μ:bz) (w:World) (a:Act) (cs:List Frame),inv m r d q H->nq μ b rd->i_ need μ r a.tmps->a.tmps.size=bW->bB μ H w->hG P μ->gE μ d a.defers->hU μ b.kind cs0 q cs->
   ∃e r' bh bn aX,R e r' bh bn aX/\lu P need bW μ H w b k cs0 (lone (b.atR a (.code c::.inLoop c::k)) cs w) (.ok e r' bh bn aX):=by
  intro n
  induction n with
  |zero=>intro m hm;omega
  |succ n bb=>
   intro m hm r d q H μ w a cs af cK aj bA ak al ao aJ
   obtain⟨e,r',bh,bn,aX,bJ,a0,w',cF,bT,s1,s2,bN,bS,cr,c3,dE⟩:=qW m r d q H af b μ w a (.inLoop c::k) cs0 cs cK aj bA ak al ao aJ
   rcases bJ with⟨rfl,j5,qZ,eY⟩|⟨he,ei⟩
   · obtain⟨ax,r2,d2,a1,aM,a5,bX⟩:=bb j5 (by omega) r' bh bn aX a0 w' cF bT eY (cK.mono cr.le) s2 bN bS (al.mono cr.le) c3 dE
     exact⟨ax,r2,d2,a1,aM,a5,bX.of_steps ak bS (Steps.trans s1 (.one stepR_inLoop)) cr⟩
   · exact⟨e,r',bh,bn,aX,ei,a0,w',cF,bT,s1.pass (λid h=>by cases h) he,s2,bN,bS,cr,c3,dE⟩
 obtain⟨e,r',bh,bn,aX,bJ,bQ⟩:=key (ql+1) ql (by omega) r d q H μ w a cs h0 cK aj bA ak al ao aJ
 exact⟨e,r',bh,bn,aX,bJ,bQ.of_steps ak ak (.one stepR_loop) (cg.refl _ _ _)⟩
theorem Gp{μ:bz}:∀{es:List dU} {ms:List MapEntry},gh μ es ms->∀m∈ms,∃e∈es,sb μ e m
 |[],_,h,m,hm=>by cases h;cases hm
 |e::es,_,⟨fq,ms,rfl,aa,ad⟩,m,hm=>by
  rcases List.mem_cons.1 hm with rfl|hm
  · exact⟨e,by simp,aa⟩
  · obtain⟨cI,av,aG⟩:=Gp ad m hm
    exact⟨cI,by simp[av],aG⟩
theorem L5{μ:bz}:∀{es:List dU} {ms:List MapEntry},gh μ es ms->∀e∈es,∃m∈ms,sb μ e m
 |[],_,h,m,hm=>by cases hm
 |e::es,_,⟨fq,ms,rfl,aa,ad⟩,m,hm=>by
  rcases List.mem_cons.1 hm with rfl|hm
  · exact⟨fq,by simp,aa⟩
  · obtain⟨cI,av,aG⟩:=L5 ad m hm
    exact⟨cI,by simp[av],aG⟩
theorem Vi{μ:bz}{w:World}(ak:bB μ H w){t:TypeId}{ma m since last clock:Nat}{seen:List Nat}{es:List dU}{q7:Value}(af:bp μ (.ptr ma 0) q7)
  (sX:H.get ma=some (.mapIter (some m) since seen last))(hm:H.get m=some (.map es clock))(hold:∀e∈es,e.born<since)(jv:since<=last):
  ((∀e∈es,e.born∈seen)/\e5 P μ H w (Instr.next q7 false t) (.aO [.bool false]) H)\/
  ∃e∈es,e.born∉seen/\e5 P μ H w (Instr.next q7 false t) (.aO [.bool true,e.key,e.val]) (H.set ma (some (.mapIter (some m) since (seen++[e.born]) clock))):=by
 obtain⟨i,h_,rfl⟩:=af
 obtain⟨dc,j,aK,aA⟩:=ak.rel _ _ i sX h_
 obtain⟨hF,i0,yy⟩:=i
 simp only at dc;subst dc
 have vT:w.heap[hF]? =some (.mapIter (some j.bo) since ⟨seen⟩ last):=aA
 obtain⟨ents,f1,f2⟩:=ak.rel _ _ j hm aK
 have h8:(getObj hF).run P w=.ok (.mapIter (some j.bo) since ⟨seen⟩ last) w:=by simp[getObj,Sem.run,vT]
 have Bn:(getObj j.bo).run P w=.ok (.map ⟨ents⟩ clock) w:=by simp[getObj,Sem.run,f1]
 have L6:∀x∈(⟨ents⟩:Array MapEntry).toList,x.born<since:=λx ab=>by
  obtain⟨e,he,aj⟩:=Gp f2 x ab
  rw[<-aj.2.2];exact hold e he
 have L7:=next_test_false ⟨seen⟩ ⟨ents⟩ since last L6 jv
 have hl:∀x∈(Array.filter (λe=>!(⟨seen⟩:Array Nat).contains e.born) (⟨ents⟩:Array MapEntry)).toList,x.born<since:=λx ab=>L6 x (by simp at ab⊢;exact ab.1)
 have ft:∀x∈(Array.filter (λe=>!(⟨seen⟩:Array Nat).contains e.born) (⟨ents⟩:Array MapEntry)).toList,x∈ents/\x.born∉seen:=λx ab=>by
  simp at ab;exact ab
 have eB:(Array.filter (λe=>!(⟨seen⟩:Array Nat).contains e.born) (⟨ents⟩:Array MapEntry)).size=0->∀x∈ents,x.born∈seen:=λh0 x ab=>by
  by_cases hs:x.born∈seen
  · exact hs
  · exfalso
    have:x∈Array.filter (λe=>!(⟨seen⟩:Array Nat).contains e.born) (⟨ents⟩:Array MapEntry):=by simp;exact⟨ab,hs⟩
    rw[Array.eq_empty_of_size_eq_zero h0] at this
    simp at this
 generalize hx:Array.filter (λe=>!(⟨seen⟩:Array Nat).contains e.born) (⟨ents⟩:Array MapEntry)=L at hl ft eB
 have ai:L.filter (λx=>decide (x.born<since))=L:=Array.filter_eq_self.2 (λx ab=>by simpa using hl x (by simpa using ab))
 have au:L.filter (λx=>decide (x.born>=since))=#[]:=by
  rw[Array.filter_eq_empty_iff]
  intro x ab
  have:=hl x (by simpa using ab)
  simp
  omega
 by_cases h0:L.size=0
 · left
   refine⟨λe he=>?_,?_⟩
   · obtain⟨x,ab,aj⟩:=L5 f2 e he
     rw[aj.2.2];exact eB h0 x ab
   · refine .same ak (v':=.tuple #[.bool false]) ?_ ⟨_,rfl,_,_,rfl,rfl,rfl⟩
     simp only[Instr.next,Sem.run_bind,h8,Bn,Result.andThen_ok,L7,Bool.false_eq_true,if_false]
     rw[hx]
     simp only[ai,au,Array.append_empty]
     have:L=#[]:=Array.eq_empty_of_size_eq_zero h0
     subst this
     simp[choose,Sem.run,Question.forced]
 · right
   have cX:L.isEmpty=false:=by simp[Array.isEmpty,h0]
   have L8:∃(rB:Nat) (cW:World),rB<L.size/\cW.heap=w.heap/\cW.os=w.os/\cW.output=w.output/\cW.tape=w.tape/\w.drawn<=cW.drawn/\(choose (Question.mapNext L.size)).run P w=.ok rB cW:=by
    by_cases hf:L.size<=1
    · exact⟨0,w,by omega,rfl,rfl,rfl,rfl,Nat.le_refl _,by simp[choose,Sem.run,Question.forced,hf]⟩
    · exact⟨_,w.drew,Nat.mod_lt _ (by omega),rfl,rfl,rfl,rfl,Nat.le_succ _,by
       simp only[choose,Sem.run,Question.forced,decide_eq_true_eq,hf,if_false,Question.cut]
       rfl⟩
   obtain⟨rB,cW,Vj,b6,cU,c8,ek,en,e6⟩:=L8
   obtain⟨qm,rC⟩:=ft L[rB] (by simp)
   obtain⟨e,he,aj⟩:=Gp f2 L[rB] qm
   refine⟨e,he,by rw[aj.2.2];exact rC,?_⟩
   have ju:=ak.of_heap b6
   have Ex:hF<cW.heap.size:=by rw[b6];exact(ak.lt _ _ h_).2
   obtain⟨r1,r2⟩:=ju.update (w':={cW with heap:=cW.heap.setIfInBounds hF (.mapIter (some j.bo) since ⟨seen++[e.born]⟩ clock)}) (o':=.mapIter (some m) since (seen++[e.born]) clock) sX rfl h_ (by simp) (λr aj=>by simp[Array.getElem?_setIfInBounds];intro e;exact absurd e.symm aj) rfl rfl rfl
    ⟨rfl,j,aK,by simp[Ex]⟩
   refine⟨μ,_,.tuple #[.bool true,L[rB].key,L[rB].val],?_,⟨_,rfl,_,_,rfl,rfl,_,_,rfl,aj.1,_,_,rfl,aj.2.1,rfl⟩,r1,cg.trans ak ju (cg.of_heap b6 cU c8 ek en) r2⟩
   have Vk:cW.heap[hF]? =some (.mapIter (some j.bo) since ⟨seen⟩ last):=by rw[b6];exact vT
   have q8:(setObj hF (.mapIter (some j.bo) since ((⟨seen⟩:Array Nat).push L[rB].born) clock)).run P cW=.ok () {cW with heap:=cW.heap.setIfInBounds hF (.mapIter (some j.bo) since ⟨seen++[e.born]⟩ clock)}:=by
    have:((⟨seen⟩:Array Nat).push L[rB].born)=⟨seen++[e.born]⟩:=by rw[aj.2.2];apply Array.ext';simp
    rw[this]
    simp[setObj,Sem.run,Vk]
   simp only[Instr.next,Sem.run_bind,h8,Bn,Result.andThen_ok,L7,Bool.false_eq_true,if_false]
   rw[hx]
   simp only[ai,au,Array.append_empty,cX,Bool.false_eq_true,if_false,Array.empty_append,Array.size_map,e6,Result.andThen_ok,Array.getElem?_map,Array.getElem?_eq_getElem Vj,Option.map_some,Sem.run_bind,q8]
   rfl
theorem ji.next{call:aP}(ag:jM P call){id:Nat}{ops:Array Oper}{o:Oper}{rest:List Oper}(aY:ops.toList=o::rest){it:Operand}(eV:o.op=.next it false)(gK:o.guard=none)(dq:hQ bW (.region id ops false)=true)
  {ma m since last clock:Nat}{seen:List Nat}{es:List dU}(Gq:dI 0 [] r (cR P need [] it)=.ptr ma 0)(sX:H.get ma=some (.mapIter (some m) since seen last))(hm:H.get m=some (.map es clock))(hold:∀e∈es,e.born<since)(jv:since<=last)
  (uX:(∀e∈es,e.born∈seen)->∃cI r' bh bn aX,nd need r (lr P need ops rest (hC o 0 []) 1) (iG P need rd.isSome call r (mG P need ops rest (hC o 0 []) 1) [.aO [.bool false]] d q H)=.ok cI r' bh bn aX/\R cI r' bh bn aX)
  (fW:∀e∈es,e.born∉seen->∃cI r' bh bn aX,nd need r (lr P need ops rest (hC o 0 []) 1) (iG P need rd.isSome call r (mG P need ops rest (hC o 0 []) 1) [.aO [.bool true,e.key,e.val]] d q (H.set ma (some (.mapIter (some m) since (seen++[e.born]) clock))))=.ok cI r' bh bn aX/\R cI r' bh bn aX):
  ji P need bW rd (.region id ops false) r d q H R:=λb μ w a k cs0 cs cK aj bA ak al ao aJ=>by
 simp only[hQ,Bool.and_eq_true,List.all_eq_true] at dq
 have kU:∀o∈ops.toList,∀t,o.dst=some t->t<bW:=λo aY t bc=>by
  have:=dq.1 o aY
  rw[bc] at this
  simpa using this
 have L9:=jN.init (P:=P) (need:=need) aj
 have fA:=L9.eval (a:=a) al it
 rw[Gq] at fA
 have L_:ops[0]? =some o:=by rw[<-Array.getElem?_toList,aY];rfl
 have hl:o∈ops.toList:=by rw[aY];simp
 have Bz:∀t,o.dst=some t->t<a.tmps.size:=λt h=>by rw[bA];exact kU o hl t h
 have Vl:ops.size=rest.length+1:=by
  have:=congrArg List.length aY
  simpa using this
 have Vm:List.range ops.size=0::List.range' 1 rest.length:=by rw[Vl,List.range_eq_range',List.range'_succ]
 have key:∀(v:I) (H1:J),e5 P μ H w (Instr.next (a.eval it) false o.type) v H1->
   lu P need bW μ H w b k cs0 (lone (b.atR a (.code (.region id ops false)::k)) cs w) (nd need r (lr P need ops rest (hC o 0 []) 1) (iG P need rd.isSome call r (mG P need ops rest (hC o 0 []) 1) [v] d q H1)):=by
  intro v H1 aD
  obtain⟨a0,w',u,e6,hu,Fh,kV⟩:=aD
  have hw:Region.wanted o (yielded ops a.tmps)=true:=by simp[Region.wanted,gK]
  have cA:=stepGR_op (P:=P) (b:=b) (a:=a) (k:=k) (cs:=cs) (w:=w) (rest:=List.range' 1 rest.length) L_ hw
  have tX:o.semAt b.roundOf a.eval=execOp a.eval o:=Oper.semAt_eq _ _ _ λc e=>by rw[eV] at e;cases e
  rw[tX] at cA
  obtain⟨ai,_⟩:=Bt cA
  have hex:(execOp a.eval o).run P w=.ok (.value u) w':=by
   have:execOp a.eval o=(do pure (.value (<-Instr.next (a.eval it) false o.type))):=by
    obtain⟨dst,op,type,pos,after,guard⟩:=o
    simp only at eV
    subst eV
    rfl
   rw[this]
   simp only[Sem.run_bind,e6,Result.andThen_ok]
   rfl
  have hs:=ai u w' hex
  have nn:(b.atR a (.inRegion ops (0::List.range' 1 rest.length)::k)).finish u=b.atR (a.put o.dst u) (.inRegion ops (List.range' 1 rest.length)::k):=by
   rw[Frame.finish_atR,L_];rfl
  rw[nn] at hs
  have EO:=(L9.mono kV.le).step (a:=a) (o:=o) Bz hu
  have n7:ops.toList.drop 1=rest:=by rw[aY];rfl
  have bb:=By (P:=P) (need:=need) (k:=k) ag kU (b:=b) (inR:=rd.isSome) cK.isSome (r:=r) (cs0:=cs0) rest 1 (hC o 0 []) 1 [v] d q a0 H1 w' (a.put o.dst u) cs n7 rfl EO ((yO _ _ _).trans bA) Fh (al.mono kV.le) (by rw[put_defers];exact ao.mono kV.le) (aJ.mono kV.le)
  have ad:=o1.code bb
  refine lu.of_steps ak Fh (Steps.trans (.one stepR_region) ?_) kV ad
  rw[Vm]
  exact hs
 rcases Vi (P:=P) ak (t:=o.type) fA sX hm hold jv with⟨eB,aD⟩|⟨e,he,ia,aD⟩
 · obtain⟨cI,r',bh,bn,aX,aa,ad⟩:=uX eB
   have:=key _ _ aD
   rw[aa] at this
   exact⟨cI,r',bh,bn,aX,ad,this⟩
 · obtain⟨cI,r',bh,bn,aX,aa,ad⟩:=fW e he ia
   have:=key _ _ aD
   rw[aa] at this
   exact⟨cI,r',bh,bn,aX,ad,this⟩
theorem bB.dropped{μ:bz}{w:World}{nI:J}(ak:bB μ H w)(aN:nI.n=H.n)(tL:∀b,nI.get b=H.get b\/nI.get b=none):bB μ nI w:=by
 have up:∀b o,nI.get b=some o->H.get b=some o:=λb o h=>by
  rcases tL b with e|e
  · rw[<-e];exact h
  · rw[e] at h;cases h
 refine⟨λb o i ae af=>ak.rel b o i (up b o ae) af,λb c i j ae ag af aK sF=>?_,λb i af=>by rw[aN];exact ak.lt b i af,λb ae=>?_⟩
 · obtain⟨o,aa,ad⟩:=ag
   refine ak.inj b c i j ?_ ⟨o,up c o aa,ad⟩ af aK sF
   cases ab:nI.get b with
   |none=>exact absurd ab ae
   |some o=>rw[up b o ab];exactλh=>by cases h
 · rw[aN] at ae
   rcases tL b with e|e
   · rw[e];exact ak.bound b ae
   · exact e
theorem Vn{call:aP}(ag:jM P call)(hdr:∀need bW,nr P need bW call)(eB:vX P){f:FuncId}{fn:Func}{c:Code}(hf:P.funcs[f]? =some fn)(ae:fn.body=some c){args:List I}(hle:args.length<=fn.ntmps){v:I}{nI:J}
  (h:ji P (dR fn) fn.ntmps none c (n5 0 args .leaf) [] .none H (λe r' bh bn aX=>(e=.nrm\/e=.ret)/\bh=[]/\bn=.none/\qR P (dR fn) fn r' aX=some v/\nI.n=aX.n/\∀b,nI.get b=aX.get b\/(nI.get b=none/\H.n<=b)))
  {μ:bz}{w:World}{vs:List Value}(ak:bB μ H w)(al:hG P μ)(aD:cm μ args vs):tV P f vs w (Ends μ H w (.ret v nI)):=by
 obtain⟨kW,re⟩:=eB f fn c hf ae
 refine .inr ⟨BE hf ae re _ _,λcs=>?_⟩
 have aJ:hU μ .normal cs .none cs:=⟨rfl,λdj aq=>by simp[tryRecover,aq]⟩
 have hlen:=aD.length
 have EU:Frame.enter P f ⟨vs⟩ .normal=({(default:Frame) with fn:=f,kind:=.normal}:Frame).atR {tmps:=⟨vs⟩++Array.replicate (fn.ntmps-vs.length) undef,defers:=[]} [.code c]:=by
  simp[Frame.enter,Frame.atR,hf,ae]
  rfl
 obtain⟨e,r',bh,bn,aX,⟨he,Ma,tY,jx,aN,tL⟩,a0,w',cF,bT,s1,s2,bN,bS,cr,c3,dE⟩:=h {(default:Frame) with fn:=f,kind:=.normal} μ w {tmps:=⟨vs⟩++Array.replicate (fn.ntmps-vs.length) undef,defers:=[]} [] cs cs rfl (Ki aD _) (by simp;omega) ak al rfl aJ
 subst Ma tY
 have fN:bT=cs:=dE.1
 subst fN
 rw[<-EU] at s1
 have gK:(jJ P call (dR fn) fn r' 100 none [] aX).lq=true:=by simp only[jJ,jx];rfl
 have fA:jJ P call (dR fn) fn r' 100 none [] aX=.ret v aX:=by simp only[jJ,jx]
 have main:∀(dj:Frame),dj.fn=f->dj.tmps=cF.tmps->dj.defers=cF.defers->dj.kind=.normal->nu a0 none dj.mode->Steps P (lone (Frame.enter P f ⟨vs⟩ .normal) bT w) (lone dj bT w')->
   ∃e cN kj,Ends μ H w (.ret v nI) e cN/\Comes P (lone (Frame.enter P f ⟨vs⟩ .normal) bT w) (lone kj bT cN) e/\kj.fn=f/\kj.leaving P cN e:=by
  intro dj aa ad av aG bI cq
  subst aa
  obtain⟨ax,cN,kj,r1,r2,dS,eZ⟩:=BF ag hdr eB 100 none [] aX a0 w' dj bT gK bS (al.mono cr.le) (by rw[ad];exact s2) hf aG (by rw[av];exact c3) bI
  rw[fA] at r1
  have ua:=Ends.trans ak bS cr r1
  refine⟨ax,cN,kj,?_,Kl (cq.trans r2) (λe=>Bw (r:=.ret v aX) rfl _ (e▸ua)),dS,eZ⟩
  obtain⟨vL,u,rfl,t1,t2,t3⟩:=ua
  refine⟨vL,u,rfl,t1,t2.dropped aN (λb=>?_),?_⟩
  · rcases tL b with e|⟨e,_⟩
    · exact .inl e
    · exact .inr e
  · have low:∀b,b<H.n->nI.get b=aX.get b:=λb ae=>by
      rcases tL b with e|⟨_,e⟩
      · exact e
      · omega
    refine⟨t3.le,t3.size,by rw[aN];exact t3.n,λb ae aw=>t3.live b ae (by rw[<-low b ae];exact aw),λb ae hm=>(low b ae).trans (t3.idle b ae hm),t3.old,t3.new,λb o i rr gi af=>?_,t3.os,t3.out,t3.tape,t3.drawn⟩
    obtain⟨bC,cS⟩:=t3.ro b o i rr gi af
    exact⟨(low b (ak.lt b i af).1).trans bC,cS⟩
 rcases he with rfl|rfl
 · exact main {({(default:Frame) with fn:=f,kind:=.normal}:Frame).atR cF [] with mode:=.returning} rfl rfl rfl rfl rfl (Steps.trans s1 (.one (stepR_end rfl)))
 · obtain⟨bk,t_⟩:=s1
   exact main {({(default:Frame) with fn:=f,kind:=.normal}:Frame).atR cF (.code .ret::bk) with mode:=.returning} rfl rfl rfl rfl rfl (Steps.trans t_ (.one (stepR_ret rfl)))
end
section
variable {P:Program} {fn:Func} {rd:Option Nat} {call:aP}
def gn(P:Program)(fn:Func)(rd:Option Nat)(p:List Nat)(st:ah)(R:bu->ah->Prop):Prop:=
 ∀r,Mod r st.Γ->ji P (dR fn) fn.ntmps rd (sub (fk fn) p) r st.d st.q st.h (λe r' bh bn an=>∃cx,Mod r' cx/\R e ⟨cx,bh,bn,an⟩)
theorem gn.of_run(ag:jM P call)(hdr:∀need bW,nr P need bW call){p:List Nat}{st b5:ah}{e:bu}(dq:hQ fn.ntmps (sub (fk fn) p)=true)(h:aB P fn rd call p st e b5){R:bu->ah->Prop}(ei:R e b5):gn P fn rd p st R:=λr aj=>by
 obtain⟨r',aa,ad⟩:=h r aj
 exact ji.of_run ag hdr dq aa ⟨b5.Γ,ad,ei⟩
theorem gn.seq{p:List Nat}{st:ah}{R1 mT:bu->ah->Prop}(hs:uy (sub (fk fn) p)=true)(aa:gn P fn rd (p++[0]) st R1)(ad:∀b5,R1 .nrm b5->gn P fn rd (p++[1]) b5 mT)(av:∀e b5,e≠ .nrm->R1 e b5->mT e b5):gn P fn rd p st mT:=λr aj=>by
 rw[Cf hs]
 have hq:=aa r aj
 rw[jR] at hq
 refine hq.seq (λr' bh bn aX ⟨cx,m,ei⟩=>?_) λe r' bh bn aX he ⟨cx,m,ei⟩=>⟨cx,m,av e _ he ei⟩
 have:=ad _ ei r' m
 rw[jR] at this
 exact this
theorem gn.block{p:List Nat}{id:Nat}{st:ah}{R1 mT:bu->ah->Prop}(hs:wx id (sub (fk fn) p)=true)(aa:gn P fn rd (p++[0]) st R1)(ad:∀e b5,R1 e b5->mT (zy id e) b5):gn P fn rd p st mT:=λr aj=>by
 rw[Cg hs]
 have hq:=aa r aj
 rw[jR] at hq
 exact hq.block λe r' bh bn aX ⟨cx,m,ei⟩=>⟨cx,m,ad e _ ei⟩
def Gr(inv:Nat->ah->Prop)(n:Nat)(R:bu->ah->Prop):bu->ah->Prop:=λe st=>(e=.nrm/\∃m,m<n/\inv m st)\/(e≠ .nrm/\R e st)
theorem gn.loop{p:List Nat}(inv:Nat->ah->Prop){R:bu->ah->Prop}(hs:zg (sub (fk fn) p)=true)(qW:∀n st,inv n st->gn P fn rd (p++[0]) st (Gr inv n R))(ql:Nat){st:ah}(h0:inv ql st):gn P fn rd p st R:=λr aj=>by
 rw[Ln hs]
 refine ji.loop (λn r d q H=>∃Γ,Mod r Γ/\inv n ⟨Γ,d,q,H⟩) (λn r d q H ⟨Γ,m,af⟩=>?_) ql ⟨st.Γ,aj,h0⟩
 have aa:=qW n ⟨Γ,d,q,H⟩ af r m
 rw[jR] at aa
 refine aa.mono λe r' bh bn aX ⟨cx,j5,ei⟩=>?_
 rcases ei with⟨rfl,k,aq,eY⟩|⟨he,ei⟩
 · exact .inl ⟨rfl,k,aq,cx,j5,eY⟩
 · exact .inr ⟨he,cx,j5,ei⟩
theorem gn.pre{p:List Nat}{st st1:ah}{R:bu->ah->Prop}(h:gn P fn rd p st R)(hs:cd st.Γ st1.Γ)(ao:st1.d=st.d)(aJ:st1.q=st.q)(ak:st1.h=st.h):gn P fn rd p st1 R:=λr aj=>by
 have:=h r (aj.sub hs)
 rw[ao,aJ,ak]
 exact this
def stepOf:Code->Option (Nat×Nat×Nat)
 |.region _ ops false=>match ops.toList with
  |[dA,dK]=>match dA.op,dA.guard,dA.dst,dK.op,dK.guard,dK.dst with
   |.next (.tmp it) false,none,some a,.extract (.tmp b) 0,none,some c=>match Nat.beq a b with
    |true=>some (it,a,c)
    |false=>none
   |_,_,_,_,_,_=>none
  |_=>none
 |_=>none
theorem Vo{c:Code}{it a t:Nat}(h:stepOf c=some (it,a,t)):∃id ops dA dK,c=.region id ops false/\ops.toList=[dA,dK]/\dA.op=.next (.tmp it) false/\dA.guard=none/\dA.dst=some a/\dK.op=.extract (.tmp a) 0/\dK.guard=none/\dK.dst=some t:=by
 unfold stepOf at h
 split at h
 · rename_i id ops
   split at h
   · rename_i dA dK kU
     split at h
     · rename_i afR cF hT c' aa ad av aG bI cq
       split at h
       · rename_i fw
         have:=Nat.eq_of_beq_eq_true fw
         subst this
         cases h
         exact⟨id,ops,dA,dK,rfl,kU,aa,ad,av,aG,bI,cq⟩
       · cases h
     · cases h
   · cases h
 · cases h
theorem gn.next(ag:jM P call){p:List Nat}{st:ah}{R:bu->ah->Prop}{it a t:Nat}(hs:stepOf (sub (fk fn) p)=some (it,a,t))(dq:hQ fn.ntmps (sub (fk fn) p)=true)(aN:Nat.testBit (dR fn) it=true)(E_:Nat.testBit (dR fn) a=false)(Vp:Nat.testBit (dR fn) t=true)
  {ma m since last clock:Nat}{seen:List Nat}{es:List dU}(aj:ej it st.Γ=some (.ptr ma 0))(sX:st.h.get ma=some (.mapIter (some m) since seen last))(hm:st.h.get m=some (.map es clock))(hold:∀e∈es,e.born<since)(jv:since<=last)
  (uX:(∀e∈es,e.born∈seen)->R .nrm ⟨put t (.bool false) st.Γ,st.d,st.q,st.h⟩)
  (fW:∀e∈es,e.born∉seen->R .nrm ⟨put t (.bool true) st.Γ,st.d,st.q,st.h.set ma (some (.mapIter (some m) since (seen++[e.born]) clock))⟩):gn P fn rd p st R:=λr tR=>by
 obtain⟨id,ops,dA,dK,Vq,kU,aa,ad,av,aG,bI,cq⟩:=Vo hs
 rw[Vq] at dq⊢
 have Gq:dI 0 [] r (cR P (dR fn) [] (.tmp it))=.ptr ma 0:=by
  simp only[cR,iy,aN,dI]
  exact tR it _ aj
 have fin:∀(b:Bool) (vs:List I) (H:J),∃r',nd (dR fn) r (lr P (dR fn) ops [dK] (hC dA 0 []) 1) (iG P (dR fn) rd.isSome call r (mG P (dR fn) ops [dK] (hC dA 0 []) 1) [.aO (.bool b::vs)] st.d st.q H)=.ok .nrm r' st.d st.q H/\Mod r' (put t (.bool b) st.Γ):=by
  intro b vs H
  have ho:aliasOf dK=none:=by
   unfold aliasOf
   rw[aG,bI,cq]
  have lG:hC dA 0 []=[(a,.env 0)]:=by
   unfold hC;rw[av]
  have uQ:j0 P (dR fn) ops [(a,.env 0)] dK=none:=by unfold j0;rw[bI]
  have fA:cP P dK (λx=>dI 1 [.aO (.bool b::vs)] r (cR P (dR fn) [(a,.env 0)] x)) H=.val (.bool b) H:=by
   have ab:dI 1 [.aO (.bool b::vs)] r (cR P (dR fn) [(a,.env 0)] (.tmp a))=.aO (.bool b::vs):=by
    simp[cR,iy,dI,nth]
   simp only[cP,aG,ab]
   rfl
  rw[lG]
  have hj:lr P (dR fn) ops [dK] [(a,.env 0)] 1=hC dK 1 [(a,.env 0)]:=by
   unfold lr;rw[ho];rfl
  have o3:mG P (dR fn) ops [dK] [(a,.env 0)] 1=[⟨none,dK,[(a,.env 0)],1⟩]:=by
   unfold mG;rw[ho,uQ];rfl
  have Vr:hC dK 1 [(a,.env 0)]=[(t,.env 1),(a,.env 0)]:=by unfold hC;rw[cq]
  rw[hj,o3,Vr]
  refine⟨pR (dR fn) 2 [.bool b,.aO (.bool b::vs)] r [(t,.env 1),(a,.env 0)] r,?_,?_⟩
  · have aA:iG P (dR fn) rd.isSome call r [⟨none,dK,[(a,.env 0)],1⟩] [.aO (.bool b::vs)] st.d st.q H=.ok [.bool b,.aO (.bool b::vs)] st.d st.q H:=by
      simp only[iG,dV,eK,fA]
    rw[aA]
    rfl
  · have BK:=Cb (need:=dR fn) (m:=2) (env:=[.bool b,.aO (.bool b::vs)]) tR [(t,.env 1),(a,.env 0)] r st.Γ tR
    have he:rn (dR fn) 2 [.bool b,.aO (.bool b::vs)] st.Γ [(t,.env 1),(a,.env 0)] st.Γ=put t (.bool b) st.Γ:=by
     simp only[rn,Vp,E_]
     rfl
    rw[he] at BK
    exact BK
 refine ji.next ag kU aa ad dq Gq sX hm hold jv (λeB=>?_) λe he ia=>?_
 · obtain⟨r',bJ,bQ⟩:=fin false [] st.h
   exact⟨_,_,_,_,_,bJ,_,bQ,uX eB⟩
 · obtain⟨r',bJ,bQ⟩:=fin true [e.key,e.val] _
   exact⟨_,_,_,_,_,bJ,_,bQ,fW e he ia⟩
end
end bt
