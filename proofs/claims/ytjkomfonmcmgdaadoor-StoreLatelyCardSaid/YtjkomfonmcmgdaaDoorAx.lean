/-
  PROVED HERE: contracts of functions (Ax). No condition beside each statement's own.
-/
import Derived.Test.YtjkomfonmcmgdaaDoorAed
import Derived.OpenShut
import Derived.ChangeSame
import Derived.Lay
import Derived.Laws.IdiomRangeMap
import Derived.Test.YtjkomfonmcmgdaaDoorSxa
set_option linter.unusedVariables false
set_option linter.unusedSimpArgs false
namespace a8
open Go Go.RowKit
section
variable {P:Program}
end
open Go Go.ChangeShapes Go.WideShapes Go.ChangeAt Go.RowKit
section
variable {P:Program}
def Dc(i1 i2:Nat->List I->ab->Option (I×ab))(f:Nat)(args:List I)(h:ab):Option (I×ab):=match i1 f args h with
 |some r=>some r
 |none=>i2 f args h
theorem QF{i1 i2:Nat->List I->ab->Option (I×ab)}(aa:l6 P i1)(ad:l6 P i2):l6 P (Dc i1 i2):=by
 intro f args H v aI J
 unfold Dc at J
 split at J
 · rename_i r ai
   cases J
   exact aa f args H v aI ai
 · exact ad f args H v aI J
end
section
variable {P:Program}
end
section
variable {P:Program}
end
section
variable {P:Program}
end
section
variable {P:Program}
end
section
variable {P:Program}
end
section
variable {P:Program}
def hI(P:Program)(need bx:Nat)(rd:Option Nat)(c:Code)(r:aN)(d:List bz)(q:bu)(H:ab)(R:bk->aN->List bz->bu->ab->Prop):Prop:=
 ∀(b:Frame) (μ:bb) (w:World) (a:Act) (k:List Item) (cs0 cs:List Frame),k9 μ b rd->hA need μ r a.tmps->a.tmps.size=bx->bc μ H w->gm P μ->fh μ d a.defers->gA μ b.kind cs0 q cs->
  ∃e r' aW a0 aI,R e r' aW a0 aI/\jJ P need bx μ H w b k cs0 (lone (b.atR a (.code c::k)) cs w) (.ok e r' aW a0 aI)
variable {need bx:Nat} {rd:Option Nat} {r:aN} {d:List bz} {q:bu} {H:ab} {R R1 kQ:bk->aN->List bz->bu->ab->Prop}
theorem hI.of_run{call:bt}(af:h6 P call)(hdr:∀need bx,k_ P need bx call){c:Code}(cV:gx bx c=true){e:bk}{r':aN}{aW:List bz}{a0:bu}{aI:ab}
  (h:c2 P need rd call c r d q H=.ok e r' aW a0 aI)(g8:R e r' aW a0 aI):hI P need bx rd c r d q H R:=λb μ w a k cs0 cs cf ai bh ah aj ak aE=>by
 have aa:=mM af (hdr need bx) (yq af) rd c cV b r d q H μ w a k cs0 cs cf ai bh ah aj ak aE
 rw[h] at aa
 exact⟨e,r',aW,a0,aI,g8,aa⟩
theorem hI.mono{c:Code}(h:hI P need bx rd c r d q H R1)(hm:∀e r' aW a0 aI,R1 e r' aW a0 aI->kQ e r' aW a0 aI):hI P need bx rd c r d q H kQ:=λb μ w a k cs0 cs cf ai bh ah aj ak aE=>by
 obtain⟨e,r',aW,a0,aI,aa,ad⟩:=h b μ w a k cs0 cs cf ai bh ah aj ak aE
 exact⟨e,r',aW,a0,aI,hm _ _ _ _ _ aa,ad⟩
theorem hI.seq{x y:Code}(h:hI P need bx rd x r d q H R1)(ad:∀r' aW a0 aI,R1 .nrm r' aW a0 aI->hI P need bx rd y r' aW a0 aI kQ)(aq:∀e r' aW a0 aI,e≠ .nrm->R1 e r' aW a0 aI->kQ e r' aW a0 aI):hI P need bx rd (.seq x y) r d q H kQ:=λb μ w a k cs0 cs cf ai bh ah aj ak aE=>by
 obtain⟨e,r',aW,a0,aI,bJ,bR⟩:=h b μ w a (.code y::k) cs0 cs cf ai bh ah aj ak aE
 obtain⟨aK,w',cb,bw,s1,s2,cq,b9,cg,cT,dn⟩:=bR
 by_cases he:e=.nrm
 · subst he
   obtain⟨av,r2,d2,ba,bU,aR,bD⟩:=ad _ _ _ _ bJ b aK w' cb k cs0 bw (cf.mono cg.le) s2 cq b9 (aj.mono cg.le) cT dn
   exact⟨av,r2,d2,ba,bU,aR,bD.of_steps ah b9 (Steps.head stepR_seq s1) cg⟩
 · exact⟨e,r',aW,a0,aI,aq _ _ _ _ _ he bJ,aK,w',cb,bw,(s1.pass (λid h=>by cases h) he).of_steps (.one stepR_seq),s2,cq,b9,cg,cT,dn⟩
def wE(id:Nat):bk->bk
 |.exit i=>if i=id then .nrm else .exit i
 |e=>e
theorem hI.block{id:Nat}{c:Code}(h:hI P need bx rd c r d q H R1)(hm:∀e r' aW a0 aI,R1 e r' aW a0 aI->kQ (wE id e) r' aW a0 aI):hI P need bx rd (.block id c) r d q H kQ:=λb μ w a k cs0 cs cf ai bh ah aj ak aE=>by
 obtain⟨e,r',aW,a0,aI,bJ,bR⟩:=h b μ w a (.inBlock id::k) cs0 cs cf ai bh ah aj ak aE
 refine⟨wE id e,r',aW,a0,aI,hm _ _ _ _ _ bJ,?_⟩
 obtain⟨aK,w',cb,bw,s1,s2,cq,b9,cg,cT,dn⟩:=bR
 cases e with
 |nrm=>exact⟨aK,w',cb,bw,Steps.head stepR_block (Steps.trans s1 (.one stepR_inBlock)),s2,cq,b9,cg,cT,dn⟩
 |exit i=>
  obtain⟨b2,ax,av⟩:=s1
  by_cases gU:i=id
  · simp only[wE,gU,if_true]
    subst gU
    have bq:exitTo i b2=some k:=by rw[ax];simp[exitTo]
    exact⟨aK,w',cb,bw,Steps.head stepR_block (Steps.trans av (.one (stepR_exit bq))),s2,cq,b9,cg,cT,dn⟩
  · simp only[wE,if_neg gU]
    have:(id==i)=false:=by simp;exactλh=>gU h.symm
    exact⟨aK,w',cb,bw,⟨b2,ax.trans (by simp[exitTo,this]),Steps.head stepR_block av⟩,s2,cq,b9,cg,cT,dn⟩
 |ret=>obtain⟨b2,av⟩:=s1;exact⟨aK,w',cb,bw,⟨b2,Steps.head stepR_block av⟩,s2,cq,b9,cg,cT,dn⟩
 |goto l=>exact s1.elim
 |bK v=>obtain⟨b2,u,ax,av⟩:=s1;exact⟨aK,w',cb,bw,⟨b2,u,ax,Steps.head stepR_block av⟩,s2,cq,b9,cg,cT,dn⟩
def QG(inv:Nat->aN->List bz->bu->ab->Prop)(n:Nat)(R:bk->aN->List bz->bu->ab->Prop):bk->aN->List bz->bu->ab->Prop:=λe r d q H=>(e=.nrm/\∃m,m<n/\inv m r d q H)\/(e≠ .nrm/\R e r d q H)
theorem hI.loop{c:Code}(inv:Nat->aN->List bz->bu->ab->Prop)(ox:∀n r d q H,inv n r d q H->hI P need bx rd c r d q H (QG inv n R))(n1:Nat)(h0:inv n1 r d q H):hI P need bx rd (.loop c) r d q H R:=λb μ w a k cs0 cs cf ai bh ah aj ak aE=>by
 have key:∀(n m:Nat),m<n->∀(r:aN) (d:List bz) (q:bu) (H:ab) (μ:bb) (w:World) (a:Act) (cs:List Frame),inv m r d q H->k9 μ b rd->hA need μ r a.tmps->a.tmps.size=bx->bc μ H w->gm P μ->fh μ d a.defers->gA μ b.kind cs0 q cs->
   ∃e r' aW a0 aI,R e r' aW a0 aI/\jJ P need bx μ H w b k cs0 (lone (b.atR a (.code c::.inLoop c::k)) cs w) (.ok e r' aW a0 aI):=by
  intro n
  induction n with
  |zero=>intro m hm;omega
  |succ n a3=>
   intro m hm r d q H μ w a cs ag cf ai bh ah aj ak aE
   obtain⟨e,r',aW,a0,aI,bJ,aK,w',cb,bw,s1,s2,cq,b9,cg,cT,dn⟩:=ox m r d q H ag b μ w a (.inLoop c::k) cs0 cs cf ai bh ah aj ak aE
   rcases bJ with⟨rfl,oI,s4,ey⟩|⟨he,g8⟩
   · obtain⟨av,r2,d2,ba,bU,aR,bD⟩:=a3 oI (by omega) r' aW a0 aI aK w' cb bw ey (cf.mono cg.le) s2 cq b9 (aj.mono cg.le) cT dn
     exact⟨av,r2,d2,ba,bU,aR,bD.of_steps ah b9 (Steps.trans s1 (.one stepR_inLoop)) cg⟩
   · exact⟨e,r',aW,a0,aI,g8,aK,w',cb,bw,s1.pass (λid h=>by cases h) he,s2,cq,b9,cg,cT,dn⟩
 obtain⟨e,r',aW,a0,aI,bJ,bR⟩:=key (n1+1) n1 (by omega) r d q H μ w a cs h0 cf ai bh ah aj ak aE
 exact⟨e,r',aW,a0,aI,bJ,bR.of_steps ah ah (.one stepR_loop) (bN.refl _ _ _)⟩
theorem Dd{μ:bb}:∀{es:List db} {ms:List MapEntry},e2 μ es ms->∀m∈ms,∃e∈es,pC μ e m
 |[],_,h,m,hm=>by cases h;cases hm
 |e::es,_,⟨eN,ms,rfl,aa,ad⟩,m,hm=>by
  rcases List.mem_cons.1 hm with rfl|hm
  · exact⟨e,by simp,aa⟩
  · obtain⟨cn,aq,aC⟩:=Dd ad m hm
    exact⟨cn,by simp[aq],aC⟩
theorem Is{μ:bb}:∀{es:List db} {ms:List MapEntry},e2 μ es ms->∀e∈es,∃m∈ms,pC μ e m
 |[],_,h,m,hm=>by cases hm
 |e::es,_,⟨eN,ms,rfl,aa,ad⟩,m,hm=>by
  rcases List.mem_cons.1 hm with rfl|hm
  · exact⟨eN,by simp,aa⟩
  · obtain⟨cn,aq,aC⟩:=Is ad m hm
    exact⟨cn,by simp[aq],aC⟩
theorem QH{μ:bb}{w:World}(ah:bc μ H w){t:TypeId}{kj m since last clock:Nat}{seen:List Nat}{es:List db}{oC:Value}(ag:a2 μ (.ptr kj 0) oC)
  (qo:H.get kj=some (.mapIter (some m) since seen last))(hm:H.get m=some (.map es clock))(hold:∀e∈es,e.born<since)(jk:since<=last):
  ((∀e∈es,e.born∈seen)/\dV P μ H w (Instr.next oC false t) (.aJ [.bool false]) H)\/
  ∃e∈es,e.born∉seen/\dV P μ H w (Instr.next oC false t) (.aJ [.bool true,e.key,e.val]) (H.set kj (some (.mapIter (some m) since (seen++[e.born]) clock))):=by
 obtain⟨i,gS,rfl⟩:=ag
 obtain⟨da,j,aF,ax⟩:=ah.rel _ _ i qo gS
 obtain⟨gk,i0,vq⟩:=i
 simp only at da;subst da
 have s_:w.heap[gk]? =some (.mapIter (some j.a1) since ⟨seen⟩ last):=ax
 obtain⟨ents,f1,f2⟩:=ah.rel _ _ j hm aF
 have gQ:(getObj gk).run P w=.ok (.mapIter (some j.a1) since ⟨seen⟩ last) w:=by simp[getObj,Sem.run,s_]
 have x_:(getObj j.a1).run P w=.ok (.map ⟨ents⟩ clock) w:=by simp[getObj,Sem.run,f1]
 have It:∀x∈(⟨ents⟩:Array MapEntry).toList,x.born<since:=λx J=>by
  obtain⟨e,he,ai⟩:=Dd f2 x J
  rw[<-ai.2.2];exact hold e he
 have Iu:=next_test_false ⟨seen⟩ ⟨ents⟩ since last It jk
 have iC:∀x∈(Array.filter (λe=>!(⟨seen⟩:Array Nat).contains e.born) (⟨ents⟩:Array MapEntry)).toList,x.born<since:=λx J=>It x (by simp at J⊢;exact J.1)
 have eT:∀x∈(Array.filter (λe=>!(⟨seen⟩:Array Nat).contains e.born) (⟨ents⟩:Array MapEntry)).toList,x∈ents/\x.born∉seen:=λx J=>by
  simp at J;exact J
 have dx:(Array.filter (λe=>!(⟨seen⟩:Array Nat).contains e.born) (⟨ents⟩:Array MapEntry)).size=0->∀x∈ents,x.born∈seen:=λh0 x J=>by
  by_cases hs:x.born∈seen
  · exact hs
  · exfalso
    have:x∈Array.filter (λe=>!(⟨seen⟩:Array Nat).contains e.born) (⟨ents⟩:Array MapEntry):=by simp;exact⟨J,hs⟩
    rw[Array.eq_empty_of_size_eq_zero h0] at this
    simp at this
 generalize fS:Array.filter (λe=>!(⟨seen⟩:Array Nat).contains e.born) (⟨ents⟩:Array MapEntry)=L at iC eT dx
 have al:L.filter (λx=>decide (x.born<since))=L:=Array.filter_eq_self.2 (λx J=>by simpa using iC x (by simpa using J))
 have aA:L.filter (λx=>decide (x.born>=since))=#[]:=by
  rw[Array.filter_eq_empty_iff]
  intro x J
  have:=iC x (by simpa using J)
  simp
  omega
 by_cases h0:L.size=0
 · left
   refine⟨λe he=>?_,?_⟩
   · obtain⟨x,J,ai⟩:=Is f2 e he
     rw[ai.2.2];exact dx h0 x J
   · refine .same ah (v':=.tuple #[.bool false]) ?_ ⟨_,rfl,_,_,rfl,rfl,rfl⟩
     simp only[Instr.next,Sem.run_bind,gQ,x_,Result.andThen_ok,Iu,Bool.false_eq_true,if_false]
     rw[fS]
     simp only[al,aA,Array.append_empty]
     have:L=#[]:=Array.eq_empty_of_size_eq_zero h0
     subst this
     simp[choose,Sem.run,Question.forced]
 · right
   have cF:L.isEmpty=false:=by simp[Array.isEmpty,h0]
   have De:∃(oZ:Nat) (cz:World),oZ<L.size/\cz.heap=w.heap/\cz.os=w.os/\cz.output=w.output/\cz.tape=w.tape/\w.drawn<=cz.drawn/\(choose (Question.mapNext L.size)).run P w=.ok oZ cz:=by
    by_cases hf:L.size<=1
    · exact⟨0,w,by omega,rfl,rfl,rfl,rfl,Nat.le_refl _,by simp[choose,Sem.run,Question.forced,hf]⟩
    · exact⟨_,w.drew,Nat.mod_lt _ (by omega),rfl,rfl,rfl,rfl,Nat.le_succ _,by
       simp only[choose,Sem.run,Question.forced,decide_eq_true_eq,hf,if_false,Question.cut]
       rfl⟩
   obtain⟨oZ,cz,QI,b8,cG,dw,gF,gf,dW⟩:=De
   obtain⟨jS,o0⟩:=eT L[oZ] (by simp)
   obtain⟨e,he,ai⟩:=Dd f2 L[oZ] jS
   refine⟨e,he,by rw[ai.2.2];exact o0,?_⟩
   have hR:=ah.of_heap b8
   have Bo:gk<cz.heap.size:=by rw[b8];exact(ah.lt _ _ gS).2
   obtain⟨r1,r2⟩:=hR.update (w':={cz with heap:=cz.heap.setIfInBounds gk (.mapIter (some j.a1) since ⟨seen++[e.born]⟩ clock)}) (o':=.mapIter (some m) since (seen++[e.born]) clock) qo rfl gS (by simp) (λr ai=>by simp[Array.getElem?_setIfInBounds];intro e;exact absurd e.symm ai) rfl rfl rfl
    ⟨rfl,j,aF,by simp[Bo]⟩
   refine⟨μ,_,.tuple #[.bool true,L[oZ].key,L[oZ].val],?_,⟨_,rfl,_,_,rfl,rfl,_,_,rfl,ai.1,_,_,rfl,ai.2.1,rfl⟩,r1,bN.trans ah hR (bN.of_heap b8 cG dw gF gf) r2⟩
   have QJ:cz.heap[gk]? =some (.mapIter (some j.a1) since ⟨seen⟩ last):=by rw[b8];exact s_
   have oD:(setObj gk (.mapIter (some j.a1) since ((⟨seen⟩:Array Nat).push L[oZ].born) clock)).run P cz=.ok () {cz with heap:=cz.heap.setIfInBounds gk (.mapIter (some j.a1) since ⟨seen++[e.born]⟩ clock)}:=by
    have:((⟨seen⟩:Array Nat).push L[oZ].born)=⟨seen++[e.born]⟩:=by rw[ai.2.2];apply Array.ext';simp
    rw[this]
    simp[setObj,Sem.run,QJ]
   simp only[Instr.next,Sem.run_bind,gQ,x_,Result.andThen_ok,Iu,Bool.false_eq_true,if_false]
   rw[fS]
   simp only[al,aA,Array.append_empty,cF,Bool.false_eq_true,if_false,Array.empty_append,Array.size_map,dW,Result.andThen_ok,Array.getElem?_map,Array.getElem?_eq_getElem QI,Option.map_some,Sem.run_bind,oD]
   rfl
theorem hI.next{call:bt}(af:h6 P call){id:Nat}{ops:Array Oper}{o:Oper}{rest:List Oper}(aQ:ops.toList=o::rest){it:Operand}(dO:o.op=.next it false)(fp:o.guard=none)(cV:gx bx (.region id ops false)=true)
  {kj m since last clock:Nat}{seen:List Nat}{es:List db}(Df:c1 0 [] r (cl P need [] it)=.ptr kj 0)(qo:H.get kj=some (.mapIter (some m) since seen last))(hm:H.get m=some (.map es clock))(hold:∀e∈es,e.born<since)(jk:since<=last)
  (r_:(∀e∈es,e.born∈seen)->∃cn r' aW a0 aI,k4 need r (jI P need ops rest (gg o 0 []) 1) (hh P need rd.isSome call r (kI P need ops rest (gg o 0 []) 1) [.aJ [.bool false]] d q H)=.ok cn r' aW a0 aI/\R cn r' aW a0 aI)
  (eU:∀e∈es,e.born∉seen->∃cn r' aW a0 aI,k4 need r (jI P need ops rest (gg o 0 []) 1) (hh P need rd.isSome call r (kI P need ops rest (gg o 0 []) 1) [.aJ [.bool true,e.key,e.val]] d q (H.set kj (some (.mapIter (some m) since (seen++[e.born]) clock))))=.ok cn r' aW a0 aI/\R cn r' aW a0 aI):
  hI P need bx rd (.region id ops false) r d q H R:=λb μ w a k cs0 cs cf ai bh ah aj ak aE=>by
 simp only[gx,Bool.and_eq_true,List.all_eq_true] at cV
 have jn:∀o∈ops.toList,∀t,o.dst=some t->t<bx:=λo aQ t bm=>by
  have:=cV.1 o aQ
  rw[bm] at this
  simpa using this
 have Iv:=h7.init (P:=P) (need:=need) ai
 have eD:=Iv.eval (a:=a) aj it
 rw[Df] at eD
 have Iw:ops[0]? =some o:=by rw[<-Array.getElem?_toList,aQ];rfl
 have iC:o∈ops.toList:=by rw[aQ];simp
 have ym:∀t,o.dst=some t->t<a.tmps.size:=λt h=>by rw[bh];exact jn o iC t h
 have QK:ops.size=rest.length+1:=by
  have:=congrArg List.length aQ
  simpa using this
 have QL:List.range ops.size=0::List.range' 1 rest.length:=by rw[QK,List.range_eq_range',List.range'_succ]
 have key:∀(v:I) (H1:ab),dV P μ H w (Instr.next (a.eval it) false o.type) v H1->
   jJ P need bx μ H w b k cs0 (lone (b.atR a (.code (.region id ops false)::k)) cs w) (k4 need r (jI P need ops rest (gg o 0 []) 1) (hh P need rd.isSome call r (kI P need ops rest (gg o 0 []) 1) [v] d q H1)):=by
  intro v H1 aD
  obtain⟨aK,w',u,dW,hu,B8,jq⟩:=aD
  have hw:Region.wanted o (yielded ops a.tmps)=true:=by simp[Region.wanted,fp]
  have bY:=stepGR_op (P:=P) (b:=b) (a:=a) (k:=k) (cs:=cs) (w:=w) (rest:=List.range' 1 rest.length) Iw hw
  have rm:o.semAt b.roundOf a.eval=execOp a.eval o:=Oper.semAt_eq _ _ _ λc e=>by rw[dO] at e;cases e
  rw[rm] at bY
  obtain⟨al,_⟩:=yg bY
  have hex:(execOp a.eval o).run P w=.ok (.value u) w':=by
   have:execOp a.eval o=(do pure (.value (<-Instr.next (a.eval it) false o.type))):=by
    obtain⟨dst,op,type,pos,after,guard⟩:=o
    simp only at dO
    subst dO
    rfl
   rw[this]
   simp only[Sem.run_bind,dW,Result.andThen_ok]
   rfl
  have hs:=al u w' hex
  have k7:(b.atR a (.inRegion ops (0::List.range' 1 rest.length)::k)).finish u=b.atR (a.put o.dst u) (.inRegion ops (List.range' 1 rest.length)::k):=by
   rw[Frame.finish_atR,Iw];rfl
  rw[k7] at hs
  have BG:=(Iv.mono jq.le).step (a:=a) (o:=o) ym hu
  have lU:ops.toList.drop 1=rest:=by rw[aQ];rfl
  have a3:=yl (P:=P) (need:=need) (k:=k) af jn (b:=b) (inR:=rd.isSome) cf.isSome (r:=r) (cs0:=cs0) rest 1 (gg o 0 []) 1 [v] d q aK H1 w' (a.put o.dst u) cs lU rfl BG ((vH _ _ _).trans bh) B8 (aj.mono jq.le) (by rw[put_defers];exact ak.mono jq.le) (aE.mono jq.le)
  have ad:=mL.code a3
  refine jJ.of_steps ah B8 (Steps.trans (.one stepR_region) ?_) jq ad
  rw[QL]
  exact hs
 rcases QH (P:=P) ah (t:=o.type) eD qo hm hold jk with⟨dx,aD⟩|⟨e,he,h5,aD⟩
 · obtain⟨cn,r',aW,a0,aI,aa,ad⟩:=r_ dx
   have:=key _ _ aD
   rw[aa] at this
   exact⟨cn,r',aW,a0,aI,ad,this⟩
 · obtain⟨cn,r',aW,a0,aI,aa,ad⟩:=eU e he h5
   have:=key _ _ aD
   rw[aa] at this
   exact⟨cn,r',aW,a0,aI,ad,this⟩
theorem bc.dropped{μ:bb}{w:World}{lC:ab}(ah:bc μ H w)(aH:lC.n=H.n)(q6:∀b,lC.get b=H.get b\/lC.get b=none):bc μ lC w:=by
 have up:∀b o,lC.get b=some o->H.get b=some o:=λb o h=>by
  rcases q6 b with e|e
  · rw[<-e];exact h
  · rw[e] at h;cases h
 refine⟨λb o i ae ag=>ah.rel b o i (up b o ae) ag,λb c i j ae af ag aF rv=>?_,λb i ag=>by rw[aH];exact ah.lt b i ag,λb ae=>?_⟩
 · obtain⟨o,aa,ad⟩:=af
   refine ah.inj b c i j ?_ ⟨o,up c o aa,ad⟩ ag aF rv
   cases J:lC.get b with
   |none=>exact absurd J ae
   |some o=>rw[up b o J];exactλh=>by cases h
 · rw[aH] at ae
   rcases q6 b with e|e
   · rw[e];exact ah.bound b ae
   · exact e
theorem QM{call:bt}(af:h6 P call)(hdr:∀need bx,k_ P need bx call)(dx:te P){f:FuncId}{fn:Func}{c:Code}(hf:P.funcs[f]? =some fn)(ae:fn.body=some c){args:List I}(hle:args.length<=fn.ntmps){v:I}{lC:ab}
  (h:hI P (c8 fn) fn.ntmps none c (lP 0 args .leaf) [] .none H (λe r' aW a0 aI=>(e=.nrm\/e=.ret)/\aW=[]/\a0=.none/\oo P (c8 fn) fn r' aI=some v/\lC.n=aI.n/\∀b,lC.get b=aI.get b\/(lC.get b=none/\H.n<=b)))
  {μ:bb}{w:World}{vs:List Value}(ah:bc μ H w)(aj:gm P μ)(aD:bP μ args vs):rk P f vs w (Ends μ H w (.ret v lC)):=by
 obtain⟨ld,oH⟩:=dx f fn c hf ae
 refine .inr ⟨yu hf ae oH _ _,λcs=>?_⟩
 have aE:gA μ .normal cs .none cs:=⟨rfl,λcK an=>by simp[tryRecover,an]⟩
 have hlen:=aD.length
 have BL:Frame.enter P f ⟨vs⟩ .normal=({(default:Frame) with fn:=f,kind:=.normal}:Frame).atR {tmps:=⟨vs⟩++Array.replicate (fn.ntmps-vs.length) undef,defers:=[]} [.code c]:=by
  simp[Frame.enter,Frame.atR,hf,ae]
  rfl
 obtain⟨e,r',aW,a0,aI,⟨he,Ix,BA,hT,aH,q6⟩,aK,w',cb,bw,s1,s2,cq,b9,cg,cT,dn⟩:=h {(default:Frame) with fn:=f,kind:=.normal} μ w {tmps:=⟨vs⟩++Array.replicate (fn.ntmps-vs.length) undef,defers:=[]} [] cs cs rfl (Gx aD _) (by simp;omega) ah aj rfl aE
 subst Ix BA
 have g6:bw=cs:=dn.1
 subst g6
 rw[<-BL] at s1
 have fp:(h3 P call (c8 fn) fn r' 100 none [] aI).jG=true:=by simp only[h3,hT];rfl
 have eD:h3 P call (c8 fn) fn r' 100 none [] aI=.ret v aI:=by simp only[h3,hT]
 have main:∀(cK:Frame),cK.fn=f->cK.tmps=cb.tmps->cK.defers=cb.defers->cK.kind=.normal->lb aK none cK.mode->Steps P (lone (Frame.enter P f ⟨vs⟩ .normal) bw w) (lone cK bw w')->
   ∃e cA iD,Ends μ H w (.ret v lC) e cA/\Comes P (lone (Frame.enter P f ⟨vs⟩ .normal) bw w) (lone iD bw cA) e/\iD.fn=f/\iD.leaving P cA e:=by
  intro cK aa ad aq aC bC dd
  subst aa
  obtain⟨av,cA,iD,r1,r2,dJ,gj⟩:=yv af hdr dx 100 none [] aI aK w' cK bw fp b9 (aj.mono cg.le) (by rw[ad];exact s2) hf aC (by rw[aq];exact cT) bC
  rw[eD] at r1
  have vK:=Ends.trans ah b9 cg r1
  refine⟨av,cA,iD,?_,GA (dd.trans r2) (λe=>yj (r:=.ret v aI) rfl _ (e▸vK)),dJ,gj⟩
  obtain⟨sX,u,rfl,t1,t2,t3⟩:=vK
  refine⟨sX,u,rfl,t1,t2.dropped aH (λb=>?_),?_⟩
  · rcases q6 b with e|⟨e,_⟩
    · exact .inl e
    · exact .inr e
  · have low:∀b,b<H.n->lC.get b=aI.get b:=λb ae=>by
      rcases q6 b with e|⟨_,e⟩
      · exact e
      · omega
    refine⟨t3.le,t3.size,by rw[aH];exact t3.n,λb ae ar=>t3.live b ae (by rw[<-low b ae];exact ar),λb ae hm=>(low b ae).trans (t3.idle b ae hm),t3.old,t3.new,λb o i oT fk ag=>?_,t3.os,t3.out,t3.tape,t3.drawn⟩
    obtain⟨bM,cU⟩:=t3.ro b o i oT fk ag
    exact⟨(low b (ah.lt b i ag).1).trans bM,cU⟩
 rcases he with rfl|rfl
 · exact main {({(default:Frame) with fn:=f,kind:=.normal}:Frame).atR cb [] with mode:=.returning} rfl rfl rfl rfl rfl (Steps.trans s1 (.one (stepR_end rfl)))
 · obtain⟨b2,rq⟩:=s1
   exact main {({(default:Frame) with fn:=f,kind:=.normal}:Frame).atR cb (.code .ret::b2) with mode:=.returning} rfl rfl rfl rfl rfl (Steps.trans rq (.one (stepR_ret rfl)))
end
section
variable {P:Program} {fn:Func} {rd:Option Nat} {call:bt}
def e4(P:Program)(fn:Func)(rd:Option Nat)(p:List Nat)(st:au)(R:bk->au->Prop):Prop:=
 ∀r,Mod r st.Γ->hI P (c8 fn) fn.ntmps rd (sub (en fn) p) r st.d st.q st.h (λe r' aW a0 ao=>∃b3,Mod r' b3/\R e ⟨b3,aW,a0,ao⟩)
theorem e4.of_run(af:h6 P call)(hdr:∀need bx,k_ P need bx call){p:List Nat}{st bG:au}{e:bk}(cV:gx fn.ntmps (sub (en fn) p)=true)(h:bS P fn rd call p st e bG){R:bk->au->Prop}(g8:R e bG):e4 P fn rd p st R:=λr ai=>by
 obtain⟨r',aa,ad⟩:=h r ai
 exact hI.of_run af hdr cV aa ⟨bG.Γ,ad,g8⟩
theorem e4.seq{p:List Nat}{st:au}{R1 kQ:bk->au->Prop}(hs:rN (sub (en fn) p)=true)(aa:e4 P fn rd (p++[0]) st R1)(ad:∀bG,R1 .nrm bG->e4 P fn rd (p++[1]) bG kQ)(aq:∀e bG,e≠ .nrm->R1 e bG->kQ e bG):e4 P fn rd p st kQ:=λr ai=>by
 rw[y4 hs]
 have hF:=aa r ai
 rw[h_] at hF
 refine hF.seq (λr' aW a0 aI ⟨b3,m,g8⟩=>?_) λe r' aW a0 aI he ⟨b3,m,g8⟩=>⟨b3,m,aq e _ he g8⟩
 have:=ad _ g8 r' m
 rw[h_] at this
 exact this
theorem e4.block{p:List Nat}{id:Nat}{st:au}{R1 kQ:bk->au->Prop}(hs:tE id (sub (en fn) p)=true)(aa:e4 P fn rd (p++[0]) st R1)(ad:∀e bG,R1 e bG->kQ (wE id e) bG):e4 P fn rd p st kQ:=λr ai=>by
 rw[y5 hs]
 have hF:=aa r ai
 rw[h_] at hF
 exact hF.block λe r' aW a0 aI ⟨b3,m,g8⟩=>⟨b3,m,ad e _ g8⟩
def Dg(inv:Nat->au->Prop)(n:Nat)(R:bk->au->Prop):bk->au->Prop:=λe st=>(e=.nrm/\∃m,m<n/\inv m st)\/(e≠ .nrm/\R e st)
theorem e4.loop{p:List Nat}(inv:Nat->au->Prop){R:bk->au->Prop}(hs:wb (sub (en fn) p)=true)(ox:∀n st,inv n st->e4 P fn rd (p++[0]) st (Dg inv n R))(n1:Nat){st:au}(h0:inv n1 st):e4 P fn rd p st R:=λr ai=>by
 rw[HI hs]
 refine hI.loop (λn r d q H=>∃Γ,Mod r Γ/\inv n ⟨Γ,d,q,H⟩) (λn r d q H ⟨Γ,m,ag⟩=>?_) n1 ⟨st.Γ,ai,h0⟩
 have aa:=ox n ⟨Γ,d,q,H⟩ ag r m
 rw[h_] at aa
 refine aa.mono λe r' aW a0 aI ⟨b3,oI,g8⟩=>?_
 rcases g8 with⟨rfl,k,an,ey⟩|⟨he,g8⟩
 · exact .inl ⟨rfl,k,an,b3,oI,ey⟩
 · exact .inr ⟨he,b3,oI,g8⟩
theorem e4.pre{p:List Nat}{st st1:au}{R:bk->au->Prop}(h:e4 P fn rd p st R)(hs:cd st.Γ st1.Γ)(ak:st1.d=st.d)(aE:st1.q=st.q)(ah:st1.h=st.h):e4 P fn rd p st1 R:=λr ai=>by
 have:=h r (ai.sub hs)
 rw[ak,aE,ah]
 exact this
def stepOf:Code->Option (Nat×Nat×Nat)
 |.region _ ops false=>match ops.toList with
  |[de,c9]=>match de.op,de.guard,de.dst,c9.op,c9.guard,c9.dst with
   |.next (.tmp it) false,none,some a,.extract (.tmp b) 0,none,some c=>match Nat.beq a b with
    |true=>some (it,a,c)
    |false=>none
   |_,_,_,_,_,_=>none
  |_=>none
 |_=>none
theorem QN{c:Code}{it a t:Nat}(h:stepOf c=some (it,a,t)):∃id ops de c9,c=.region id ops false/\ops.toList=[de,c9]/\de.op=.next (.tmp it) false/\de.guard=none/\de.dst=some a/\c9.op=.extract (.tmp a) 0/\c9.guard=none/\c9.dst=some t:=by
 unfold stepOf at h
 split at h
 · rename_i id ops
   split at h
   · rename_i de c9 jn
     split at h
     · rename_i Ym cb g7 c' aa ad aq aC bC dd
       split at h
       · rename_i eA
         have:=Nat.eq_of_beq_eq_true eA
         subst this
         cases h
         exact⟨id,ops,de,c9,rfl,jn,aa,ad,aq,aC,bC,dd⟩
       · cases h
     · cases h
   · cases h
 · cases h
theorem e4.next(af:h6 P call){p:List Nat}{st:au}{R:bk->au->Prop}{it a t:Nat}(hs:stepOf (sub (en fn) p)=some (it,a,t))(cV:gx fn.ntmps (sub (en fn) p)=true)(aH:Nat.testBit (c8 fn) it=true)(B1:Nat.testBit (c8 fn) a=false)(QO:Nat.testBit (c8 fn) t=true)
  {kj m since last clock:Nat}{seen:List Nat}{es:List db}(ai:dp it st.Γ=some (.ptr kj 0))(qo:st.h.get kj=some (.mapIter (some m) since seen last))(hm:st.h.get m=some (.map es clock))(hold:∀e∈es,e.born<since)(jk:since<=last)
  (r_:(∀e∈es,e.born∈seen)->R .nrm ⟨put t (.bool false) st.Γ,st.d,st.q,st.h⟩)
  (eU:∀e∈es,e.born∉seen->R .nrm ⟨put t (.bool true) st.Γ,st.d,st.q,st.h.set kj (some (.mapIter (some m) since (seen++[e.born]) clock))⟩):e4 P fn rd p st R:=λr pS=>by
 obtain⟨id,ops,de,c9,QP,jn,aa,ad,aq,aC,bC,dd⟩:=QN hs
 rw[QP] at cV⊢
 have Df:c1 0 [] r (cl P (c8 fn) [] (.tmp it))=.ptr kj 0:=by
  simp only[cl,g4,aH,c1]
  exact pS it _ ai
 have fin:∀(b:Bool) (vs:List I) (H:ab),∃r',k4 (c8 fn) r (jI P (c8 fn) ops [c9] (gg de 0 []) 1) (hh P (c8 fn) rd.isSome call r (kI P (c8 fn) ops [c9] (gg de 0 []) 1) [.aJ (.bool b::vs)] st.d st.q H)=.ok .nrm r' st.d st.q H/\Mod r' (put t (.bool b) st.Γ):=by
  intro b vs H
  have gC:aliasOf c9=none:=by
   unfold aliasOf
   rw[aC,bC,dd]
  have kR:gg de 0 []=[(a,.env 0)]:=by
   unfold gg;rw[aq]
  have wo:il P (c8 fn) ops [(a,.env 0)] c9=none:=by unfold il;rw[bC]
  have eD:cj P c9 (λx=>c1 1 [.aJ (.bool b::vs)] r (cl P (c8 fn) [(a,.env 0)] x)) H=.val (.bool b) H:=by
   have J:c1 1 [.aJ (.bool b::vs)] r (cl P (c8 fn) [(a,.env 0)] (.tmp a))=.aJ (.bool b::vs):=by
    simp[cl,g4,c1,nth]
   simp only[cj,aC,J]
   rfl
  rw[kR]
  have jE:jI P (c8 fn) ops [c9] [(a,.env 0)] 1=gg c9 1 [(a,.env 0)]:=by
   unfold jI;rw[gC];rfl
  have BI:kI P (c8 fn) ops [c9] [(a,.env 0)] 1=[⟨none,c9,[(a,.env 0)],1⟩]:=by
   unfold kI;rw[gC,wo];rfl
  have QQ:gg c9 1 [(a,.env 0)]=[(t,.env 1),(a,.env 0)]:=by unfold gg;rw[dd]
  rw[jE,BI,QQ]
  refine⟨nw (c8 fn) 2 [.bool b,.aJ (.bool b::vs)] r [(t,.env 1),(a,.env 0)] r,?_,?_⟩
  · have ax:hh P (c8 fn) rd.isSome call r [⟨none,c9,[(a,.env 0)],1⟩] [.aJ (.bool b::vs)] st.d st.q H=.ok [.bool b,.aJ (.bool b::vs)] st.d st.q H:=by
      simp only[hh,dc,dC,eD]
    rw[ax]
    rfl
  · have yA:=y0 (need:=c8 fn) (m:=2) (env:=[.bool b,.aJ (.bool b::vs)]) pS [(t,.env 1),(a,.env 0)] r st.Γ pS
    have he:oR (c8 fn) 2 [.bool b,.aJ (.bool b::vs)] st.Γ [(t,.env 1),(a,.env 0)] st.Γ=put t (.bool b) st.Γ:=by
     simp only[oR,QO,B1]
     rfl
    rw[he] at yA
    exact yA
 refine hI.next af jn aa ad cV Df qo hm hold jk (λdx=>?_) λe he h5=>?_
 · obtain⟨r',bJ,bR⟩:=fin false [] st.h
   exact⟨_,_,_,_,_,bJ,_,bR,r_ dx⟩
 · obtain⟨r',bJ,bR⟩:=fin true [e.key,e.val] _
   exact⟨_,_,_,_,_,bJ,_,bR,eU e he h5⟩
end
end a8
