/-
  PROVED HERE: contracts of functions (Ax). No condition beside each statement's own.
-/
import Derived.Test.YtjkomfonmcmgdaaGreatDoorAed
import Derived.OpenShut
import Derived.ChangeSame
import Derived.Lay
import Derived.Laws.IdiomRangeMap
import Derived.Test.YtjkomfonmcmgdaaGreatDoorSxa
set_option linter.unusedVariables false
set_option linter.unusedSimpArgs false
namespace aP
open Go Go.RowKit
section
variable {P:Program}
end
end aP
namespace aP
open Go Go.ChangeShapes Go.WideShapes Go.ChangeAt Go.RowKit
end aP
namespace aP
open Go Go.RowKit
section
variable {P:Program}
def Fa(i1 i2:Nat->List I->J->Option (I×J))(f:Nat)(args:List I)(h:J):Option (I×J):=match i1 f args h with
 |some r=>some r
 |none=>i2 f args h
theorem TG{i1 i2:Nat->List I->J->Option (I×J)}(ab:nG P i1)(ad:nG P i2):nG P (Fa i1 i2):=by
 intro f args H v aW aa
 unfold Fa at aa
 split at aa
 · rename_i r aj
   cases aa
   exact ab f args H v aW aj
 · exact ad f args H v aW aa
end
end aP
namespace aP
open Go Go.ChangeShapes Go.WideShapes Go.ChangeAt Go.RowKit
end aP
namespace aP
open Go
end aP
namespace aP
open Go
end aP
namespace aP
open Go Go.RowKit
section
variable {P:Program}
end
end aP
namespace aP
open Go Go.RowKit
section
variable {P:Program}
end
end aP
namespace aP
open Go Go.RowKit
section
variable {P:Program}
end
end aP
namespace aP
open Go Go.RowKit
section
variable {P:Program}
end
end aP
namespace aP
open Go Go.RowKit
section
variable {P:Program}
end
end aP
namespace aP
open Go
section
variable {P:Program}
def iN(P:Program)(need bP:Nat)(rd:Option Nat)(c:Code)(r:aY)(d:List bU)(q:bF)(H:J)(R:bn->aY->List bU->bF->J->Prop):Prop:=
 ∀(b:Frame) (μ:bq) (w:World) (a:Act) (k:List Item) (cs0 cs:List Frame),mK μ b rd->iE need μ r a.tmps->a.tmps.size=bP->bt μ H w->hn P μ->gq μ d a.defers->hD μ b.kind cs0 q cs->
  ∃e r' bd bk aW,R e r' bd bk aW/\k2 P need bP μ H w b k cs0 (lone (b.atR a (.code c::k)) cs w) (.ok e r' bd bk aW)
variable {need bP:Nat} {rd:Option Nat} {r:aY} {d:List bU} {q:bF} {H:J} {R R1 mc:bn->aY->List bU->bF->J->Prop}
theorem iN.of_run{call:aI->List I->J->av}(ag:jq P call)(hdr:∀need bP,mL P need bP call){c:Code}(de:hA bP c=true){e:bn}{r':aY}{bd:List bU}{bk:bF}{aW:J}
  (h:dy P need rd call c r d q H=.ok e r' bd bk aW)(dP:R e r' bd bk aW):iN P need bP rd c r d q H R:=λb μ w a k cs0 cs cI aj bx ak al ao aM=>by
 have ab:=oq ag (hdr need bP) (AG ag) rd c de b r d q H μ w a k cs0 cs cI aj bx ak al ao aM
 rw[h] at ab
 exact⟨e,r',bd,bk,aW,dP,ab⟩
theorem iN.mono{c:Code}(h:iN P need bP rd c r d q H R1)(hm:∀e r' bd bk aW,R1 e r' bd bk aW->mc e r' bd bk aW):iN P need bP rd c r d q H mc:=λb μ w a k cs0 cs cI aj bx ak al ao aM=>by
 obtain⟨e,r',bd,bk,aW,ab,ad⟩:=h b μ w a k cs0 cs cI aj bx ak al ao aM
 exact⟨e,r',bd,bk,aW,hm _ _ _ _ _ ab,ad⟩
theorem iN.seq{x y:Code}(h:iN P need bP rd x r d q H R1)(ad:∀r' bd bk aW,R1 .nrm r' bd bk aW->iN P need bP rd y r' bd bk aW mc)(ar:∀e r' bd bk aW,e≠ .nrm->R1 e r' bd bk aW->mc e r' bd bk aW):iN P need bP rd (.seq x y) r d q H mc:=λb μ w a k cs0 cs cI aj bx ak al ao aM=>by
 obtain⟨e,r',bd,bk,aW,bH,bY⟩:=h b μ w a (.code y::k) cs0 cs cI aj bx ak al ao aM
 obtain⟨aX,w',cA,bO,s1,s2,bK,bN,ch,c3,dA⟩:=bY
 by_cases he:e=.nrm
 · subst he
   obtain⟨ay,r2,d2,a6,aR,aZ,bQ⟩:=ad _ _ _ _ bH b aX w' cA k cs0 bO (cI.mono ch.le) s2 bK bN (al.mono ch.le) c3 dA
   exact⟨ay,r2,d2,a6,aR,aZ,bQ.of_steps ak bN (Steps.head stepR_seq s1) ch⟩
 · exact⟨e,r',bd,bk,aW,ar _ _ _ _ _ he bH,aX,w',cA,bO,(s1.pass (λid h=>by cases h) he).of_steps (.one stepR_seq),s2,bK,bN,ch,c3,dA⟩
def yG(id:Nat):bn->bn
 |.exit i=>if i=id then .nrm else .exit i
 |e=>e
theorem iN.block{id:Nat}{c:Code}(h:iN P need bP rd c r d q H R1)(hm:∀e r' bd bk aW,R1 e r' bd bk aW->mc (yG id e) r' bd bk aW):iN P need bP rd (.block id c) r d q H mc:=λb μ w a k cs0 cs cI aj bx ak al ao aM=>by
 obtain⟨e,r',bd,bk,aW,bH,bY⟩:=h b μ w a (.inBlock id::k) cs0 cs cI aj bx ak al ao aM
 refine⟨yG id e,r',bd,bk,aW,hm _ _ _ _ _ bH,?_⟩
 obtain⟨aX,w',cA,bO,s1,s2,bK,bN,ch,c3,dA⟩:=bY
 cases e with
 |nrm=>exact⟨aX,w',cA,bO,Steps.head stepR_block (Steps.trans s1 (.one stepR_inBlock)),s2,bK,bN,ch,c3,dA⟩
 |exit i=>
  obtain⟨bh,aA,ay⟩:=s1
  by_cases iJ:i=id
  · simp only[yG,iJ,if_true]
    subst iJ
    have bw:exitTo i bh=some k:=by rw[aA];simp[exitTo]
    exact⟨aX,w',cA,bO,Steps.head stepR_block (Steps.trans ay (.one (stepR_exit bw))),s2,bK,bN,ch,c3,dA⟩
  · simp only[yG,if_neg iJ]
    have:(id==i)=false:=by simp;exactλh=>iJ h.symm
    exact⟨aX,w',cA,bO,⟨bh,aA.trans (by simp[exitTo,this]),Steps.head stepR_block ay⟩,s2,bK,bN,ch,c3,dA⟩
 |ret=>obtain⟨bh,ay⟩:=s1;exact⟨aX,w',cA,bO,⟨bh,Steps.head stepR_block ay⟩,s2,bK,bN,ch,c3,dA⟩
 |goto l=>exact s1.elim
 |b6 v=>obtain⟨bh,u,aA,ay⟩:=s1;exact⟨aX,w',cA,bO,⟨bh,u,aA,Steps.head stepR_block ay⟩,s2,bK,bN,ch,c3,dA⟩
def TH(inv:Nat->aY->List bU->bF->J->Prop)(n:Nat)(R:bn->aY->List bU->bF->J->Prop):bn->aY->List bU->bF->J->Prop:=λe r d q H=>(e=.nrm/\∃m,m<n/\inv m r d q H)\/(e≠ .nrm/\R e r d q H)
theorem iN.loop{c:Code}(inv:Nat->aY->List bU->bF->J->Prop)(qm:∀n r d q H,inv n r d q H->iN P need bP rd c r d q H (TH inv n R))(qT:Nat)(h0:inv qT r d q H):iN P need bP rd (.loop c) r d q H R:=λb μ w a k cs0 cs cI aj bx ak al ao aM=>by
 have key:∀(n m:Nat),m<n->∀(r:aY) (d:List bU) (q:bF) (H:J) (μ:bq) (w:World) (a:Act) (cs:List Frame),inv m r d q H->mK μ b rd->iE need μ r a.tmps->a.tmps.size=bP->bt μ H w->hn P μ->gq μ d a.defers->hD μ b.kind cs0 q cs->
   ∃e r' bd bk aW,R e r' bd bk aW/\k2 P need bP μ H w b k cs0 (lone (b.atR a (.code c::.inLoop c::k)) cs w) (.ok e r' bd bk aW):=by
  intro n
  induction n with
  |zero=>intro m hm;omega
  |succ n a7=>
   intro m hm r d q H μ w a cs af cI aj bx ak al ao aM
   obtain⟨e,r',bd,bk,aW,bH,aX,w',cA,bO,s1,s2,bK,bN,ch,c3,dA⟩:=qm m r d q H af b μ w a (.inLoop c::k) cs0 cs cI aj bx ak al ao aM
   rcases bH with⟨rfl,jW,qo,eQ⟩|⟨he,dP⟩
   · obtain⟨ay,r2,d2,a6,aR,aZ,bQ⟩:=a7 jW (by omega) r' bd bk aW aX w' cA bO eQ (cI.mono ch.le) s2 bK bN (al.mono ch.le) c3 dA
     exact⟨ay,r2,d2,a6,aR,aZ,bQ.of_steps ak bN (Steps.trans s1 (.one stepR_inLoop)) ch⟩
   · exact⟨e,r',bd,bk,aW,dP,aX,w',cA,bO,s1.pass (λid h=>by cases h) he,s2,bK,bN,ch,c3,dA⟩
 obtain⟨e,r',bd,bk,aW,bH,bY⟩:=key (qT+1) qT (by omega) r d q H μ w a cs h0 cI aj bx ak al ao aM
 exact⟨e,r',bd,bk,aW,bH,bY.of_steps ak ak (.one stepR_loop) (cb.refl _ _ _)⟩
theorem Fb{μ:bq}:∀{es:List dN} {ms:List MapEntry},fW μ es ms->∀m∈ms,∃e∈es,rm μ e m
 |[],_,h,m,hm=>by cases h;cases hm
 |e::es,_,⟨fe,ms,rfl,ab,ad⟩,m,hm=>by
  rcases List.mem_cons.1 hm with rfl|hm
  · exact⟨e,by simp,ab⟩
  · obtain⟨cF,ar,aG⟩:=Fb ad m hm
    exact⟨cF,by simp[ar],aG⟩
theorem KX{μ:bq}:∀{es:List dN} {ms:List MapEntry},fW μ es ms->∀e∈es,∃m∈ms,rm μ e m
 |[],_,h,m,hm=>by cases hm
 |e::es,_,⟨fe,ms,rfl,ab,ad⟩,m,hm=>by
  rcases List.mem_cons.1 hm with rfl|hm
  · exact⟨fe,by simp,ab⟩
  · obtain⟨cF,ar,aG⟩:=KX ad m hm
    exact⟨cF,by simp[ar],aG⟩
theorem TI{μ:bq}{w:World}(ak:bt μ H w){t:TypeId}{lB m since last clock:Nat}{seen:List Nat}{es:List dN}{qy:Value}(af:bm μ (.ptr lB 0) qy)
  (sc:H.get lB=some (.mapIter (some m) since seen last))(hm:H.get m=some (.map es clock))(hold:∀e∈es,e.born<since)(jm:since<=last):
  ((∀e∈es,e.born∈seen)/\eW P μ H w (Instr.next qy false t) (.aQ [.bool false]) H)\/
  ∃e∈es,e.born∉seen/\eW P μ H w (Instr.next qy false t) (.aQ [.bool true,e.key,e.val]) (H.set lB (some (.mapIter (some m) since (seen++[e.born]) clock))):=by
 obtain⟨i,hR,rfl⟩:=af
 obtain⟨c9,j,aJ,aA⟩:=ak.rel _ _ i sc hR
 obtain⟨hl,i0,xI⟩:=i
 simp only at c9;subst c9
 have u7:w.heap[hl]? =some (.mapIter (some j.bl) since ⟨seen⟩ last):=aA
 obtain⟨ents,f1,f2⟩:=ak.rel _ _ j hm aJ
 have hP:(getObj hl).run P w=.ok (.mapIter (some j.bl) since ⟨seen⟩ last) w:=by simp[getObj,Sem.run,u7]
 have Ap:(getObj j.bl).run P w=.ok (.map ⟨ents⟩ clock) w:=by simp[getObj,Sem.run,f1]
 have KY:∀x∈(⟨ents⟩:Array MapEntry).toList,x.born<since:=λx aa=>by
  obtain⟨e,he,aj⟩:=Fb f2 x aa
  rw[<-aj.2.2];exact hold e he
 have KZ:=next_test_false ⟨seen⟩ ⟨ents⟩ since last KY jm
 have h8:∀x∈(Array.filter (λe=>!(⟨seen⟩:Array Nat).contains e.born) (⟨ents⟩:Array MapEntry)).toList,x.born<since:=λx aa=>KY x (by simp at aa⊢;exact aa.1)
 have fj:∀x∈(Array.filter (λe=>!(⟨seen⟩:Array Nat).contains e.born) (⟨ents⟩:Array MapEntry)).toList,x∈ents/\x.born∉seen:=λx aa=>by
  simp at aa;exact aa
 have en:(Array.filter (λe=>!(⟨seen⟩:Array Nat).contains e.born) (⟨ents⟩:Array MapEntry)).size=0->∀x∈ents,x.born∈seen:=λh0 x aa=>by
  by_cases hs:x.born∈seen
  · exact hs
  · exfalso
    have:x∈Array.filter (λe=>!(⟨seen⟩:Array Nat).contains e.born) (⟨ents⟩:Array MapEntry):=by simp;exact⟨aa,hs⟩
    rw[Array.eq_empty_of_size_eq_zero h0] at this
    simp at this
 generalize ha:Array.filter (λe=>!(⟨seen⟩:Array Nat).contains e.born) (⟨ents⟩:Array MapEntry)=L at h8 fj en
 have ai:L.filter (λx=>decide (x.born<since))=L:=Array.filter_eq_self.2 (λx aa=>by simpa using h8 x (by simpa using aa))
 have ax:L.filter (λx=>decide (x.born>=since))=#[]:=by
  rw[Array.filter_eq_empty_iff]
  intro x aa
  have:=h8 x (by simpa using aa)
  simp
  omega
 by_cases h0:L.size=0
 · left
   refine⟨λe he=>?_,?_⟩
   · obtain⟨x,aa,aj⟩:=KX f2 e he
     rw[aj.2.2];exact en h0 x aa
   · refine .same ak (v':=.tuple #[.bool false]) ?_ ⟨_,rfl,_,_,rfl,rfl,rfl⟩
     simp only[Instr.next,Sem.run_bind,hP,Ap,Result.andThen_ok,KZ,Bool.false_eq_true,if_false]
     rw[ha]
     simp only[ai,ax,Array.append_empty]
     have:L=#[]:=Array.eq_empty_of_size_eq_zero h0
     subst this
     simp[choose,Sem.run,Question.forced]
 · right
   have cS:L.isEmpty=false:=by simp[Array.isEmpty,h0]
   have K0:∃(qU:Nat) (cN:World),qU<L.size/\cN.heap=w.heap/\cN.os=w.os/\cN.output=w.output/\cN.tape=w.tape/\w.drawn<=cN.drawn/\(choose (Question.mapNext L.size)).run P w=.ok qU cN:=by
    by_cases hf:L.size<=1
    · exact⟨0,w,by omega,rfl,rfl,rfl,rfl,Nat.le_refl _,by simp[choose,Sem.run,Question.forced,hf]⟩
    · exact⟨_,w.drew,Nat.mod_lt _ (by omega),rfl,rfl,rfl,rfl,Nat.le_succ _,by
       simp only[choose,Sem.run,Question.forced,decide_eq_true_eq,hf,if_false,Question.cut]
       rfl⟩
   obtain⟨qU,cN,TJ,cr,cZ,dp,eS,eG,eX⟩:=K0
   obtain⟨pP,qV⟩:=fj L[qU] (by simp)
   obtain⟨e,he,aj⟩:=Fb f2 L[qU] pP
   refine⟨e,he,by rw[aj.2.2];exact qV,?_⟩
   have iT:=ak.of_heap cr
   have Dj:hl<cN.heap.size:=by rw[cr];exact(ak.lt _ _ hR).2
   obtain⟨r1,r2⟩:=iT.update (w':={cN with heap:=cN.heap.setIfInBounds hl (.mapIter (some j.bl) since ⟨seen++[e.born]⟩ clock)}) (o':=.mapIter (some m) since (seen++[e.born]) clock) sc rfl hR (by simp) (λr aj=>by simp[Array.getElem?_setIfInBounds];intro e;exact absurd e.symm aj) rfl rfl rfl
    ⟨rfl,j,aJ,by simp[Dj]⟩
   refine⟨μ,_,.tuple #[.bool true,L[qU].key,L[qU].val],?_,⟨_,rfl,_,_,rfl,rfl,_,_,rfl,aj.1,_,_,rfl,aj.2.1,rfl⟩,r1,cb.trans ak iT (cb.of_heap cr cZ dp eS eG) r2⟩
   have TK:cN.heap[hl]? =some (.mapIter (some j.bl) since ⟨seen⟩ last):=by rw[cr];exact u7
   have qz:(setObj hl (.mapIter (some j.bl) since ((⟨seen⟩:Array Nat).push L[qU].born) clock)).run P cN=.ok () {cN with heap:=cN.heap.setIfInBounds hl (.mapIter (some j.bl) since ⟨seen++[e.born]⟩ clock)}:=by
    have:((⟨seen⟩:Array Nat).push L[qU].born)=⟨seen++[e.born]⟩:=by rw[aj.2.2];apply Array.ext';simp
    rw[this]
    simp[setObj,Sem.run,TK]
   simp only[Instr.next,Sem.run_bind,hP,Ap,Result.andThen_ok,KZ,Bool.false_eq_true,if_false]
   rw[ha]
   simp only[ai,ax,Array.append_empty,cS,Bool.false_eq_true,if_false,Array.empty_append,Array.size_map,eX,Result.andThen_ok,Array.getElem?_map,Array.getElem?_eq_getElem TJ,Option.map_some,Sem.run_bind,qz]
   rfl
theorem iN.next{call:aI->List I->J->av}(ag:jq P call){id:Nat}{ops:Array Oper}{o:Oper}{rest:List Oper}(a4:ops.toList=o::rest){it:Operand}(ft:o.op=.next it false)(gz:o.guard=none)(de:hA bP (.region id ops false)=true)
  {lB m since last clock:Nat}{seen:List Nat}{es:List dN}(Fc:dx 0 [] r (cJ P need [] it)=.ptr lB 0)(sc:H.get lB=some (.mapIter (some m) since seen last))(hm:H.get m=some (.map es clock))(hold:∀e∈es,e.born<since)(jm:since<=last)
  (ue:(∀e∈es,e.born∈seen)->∃cF r' bd bk aW,mB need r (k1 P need ops rest (hh o 0 []) 1) (ij P need rd.isSome call r (lZ P need ops rest (hh o 0 []) 1) [.aQ [.bool false]] d q H)=.ok cF r' bd bk aW/\R cF r' bd bk aW)
  (fJ:∀e∈es,e.born∉seen->∃cF r' bd bk aW,mB need r (k1 P need ops rest (hh o 0 []) 1) (ij P need rd.isSome call r (lZ P need ops rest (hh o 0 []) 1) [.aQ [.bool true,e.key,e.val]] d q (H.set lB (some (.mapIter (some m) since (seen++[e.born]) clock))))=.ok cF r' bd bk aW/\R cF r' bd bk aW):
  iN P need bP rd (.region id ops false) r d q H R:=λb μ w a k cs0 cs cI aj bx ak al ao aM=>by
 simp only[hA,Bool.and_eq_true,List.all_eq_true] at de
 have kz:∀o∈ops.toList,∀t,o.dst=some t->t<bP:=λo a4 t ba=>by
  have:=de.1 o a4
  rw[ba] at this
  simpa using this
 have K1:=jr.init (P:=P) (need:=need) aj
 have fm:=K1.eval (a:=a) al it
 rw[Fc] at fm
 have K2:ops[0]? =some o:=by rw[<-Array.getElem?_toList,a4];rfl
 have h8:o∈ops.toList:=by rw[a4];simp
 have AB:∀t,o.dst=some t->t<a.tmps.size:=λt h=>by rw[bx];exact kz o h8 t h
 have TL:ops.size=rest.length+1:=by
  have:=congrArg List.length a4
  simpa using this
 have TM:List.range ops.size=0::List.range' 1 rest.length:=by rw[TL,List.range_eq_range',List.range'_succ]
 have key:∀(v:I) (H1:J),eW P μ H w (Instr.next (a.eval it) false o.type) v H1->
   k2 P need bP μ H w b k cs0 (lone (b.atR a (.code (.region id ops false)::k)) cs w) (mB need r (k1 P need ops rest (hh o 0 []) 1) (ij P need rd.isSome call r (lZ P need ops rest (hh o 0 []) 1) [v] d q H1)):=by
  intro v H1 aC
  obtain⟨aX,w',u,eX,hu,D4,kA⟩:=aC
  have hw:Region.wanted o (yielded ops a.tmps)=true:=by simp[Region.wanted,gz]
  have ct:=stepGR_op (P:=P) (b:=b) (a:=a) (k:=k) (cs:=cs) (w:=w) (rest:=List.range' 1 rest.length) K2 hw
  have tl:o.semAt b.roundOf a.eval=execOp a.eval o:=Oper.semAt_eq _ _ _ λc e=>by rw[ft] at e;cases e
  rw[tl] at ct
  obtain⟨ai,_⟩:=Av ct
  have hex:(execOp a.eval o).run P w=.ok (.value u) w':=by
   have:execOp a.eval o=(do pure (.value (<-Instr.next (a.eval it) false o.type))):=by
    obtain⟨dst,op,type,pos,after,guard⟩:=o
    simp only at ft
    subst ft
    rfl
   rw[this]
   simp only[Sem.run_bind,eX,Result.andThen_ok]
   rfl
  have hs:=ai u w' hex
  have mI:(b.atR a (.inRegion ops (0::List.range' 1 rest.length)::k)).finish u=b.atR (a.put o.dst u) (.inRegion ops (List.range' 1 rest.length)::k):=by
   rw[Frame.finish_atR,K2];rfl
  rw[mI] at hs
  have DE:=(K1.mono kA.le).step (a:=a) (o:=o) AB hu
  have nt:ops.toList.drop 1=rest:=by rw[a4];rfl
  have a7:=AA (P:=P) (need:=need) (k:=k) ag kz (b:=b) (inR:=rd.isSome) cI.isSome (r:=r) (cs0:=cs0) rest 1 (hh o 0 []) 1 [v] d q aX H1 w' (a.put o.dst u) cs nt rfl DE ((xW _ _ _).trans bx) D4 (al.mono kA.le) (by rw[put_defers];exact ao.mono kA.le) (aM.mono kA.le)
  have ad:=oo.code a7
  refine k2.of_steps ak D4 (Steps.trans (.one stepR_region) ?_) kA ad
  rw[TM]
  exact hs
 rcases TI (P:=P) ak (t:=o.type) fm sc hm hold jm with⟨en,aC⟩|⟨e,he,iH,aC⟩
 · obtain⟨cF,r',bd,bk,aW,ab,ad⟩:=ue en
   have:=key _ _ aC
   rw[ab] at this
   exact⟨cF,r',bd,bk,aW,ad,this⟩
 · obtain⟨cF,r',bd,bk,aW,ab,ad⟩:=fJ e he iH
   have:=key _ _ aC
   rw[ab] at this
   exact⟨cF,r',bd,bk,aW,ad,this⟩
theorem bt.dropped{μ:bq}{w:World}{m2:J}(ak:bt μ H w)(aN:m2.n=H.n)(s9:∀b,m2.get b=H.get b\/m2.get b=none):bt μ m2 w:=by
 have up:∀b o,m2.get b=some o->H.get b=some o:=λb o h=>by
  rcases s9 b with e|e
  · rw[<-e];exact h
  · rw[e] at h;cases h
 refine⟨λb o i ae af=>ak.rel b o i (up b o ae) af,λb c i j ae ag af aJ rU=>?_,λb i af=>by rw[aN];exact ak.lt b i af,λb ae=>?_⟩
 · obtain⟨o,ab,ad⟩:=ag
   refine ak.inj b c i j ?_ ⟨o,up c o ab,ad⟩ af aJ rU
   cases aa:m2.get b with
   |none=>exact absurd aa ae
   |some o=>rw[up b o aa];exactλh=>by cases h
 · rw[aN] at ae
   rcases s9 b with e|e
   · rw[e];exact ak.bound b ae
   · exact e
theorem TN{call:aI->List I->J->av}(ag:jq P call)(hdr:∀need bP,mL P need bP call)(en:vd P){f:FuncId}{fn:Func}{c:Code}(hf:P.funcs[f]? =some fn)(ae:fn.body=some c){args:List I}(hle:args.length<=fn.ntmps){v:I}{m2:J}
  (h:iN P (dL fn) fn.ntmps none c (np 0 args .leaf) [] .none H (λe r' bd bk aW=>(e=.nrm\/e=.ret)/\bd=[]/\bk=.none/\qh P (dL fn) fn r' aW=some v/\m2.n=aW.n/\∀b,m2.get b=aW.get b\/(m2.get b=none/\H.n<=b)))
  {μ:bq}{w:World}{vs:List Value}(ak:bt μ H w)(al:hn P μ)(aC:cf μ args vs):tj P f vs w (Ends μ H w (.ret v m2)):=by
 obtain⟨kB,qC⟩:=en f fn c hf ae
 refine .inr ⟨AH hf ae qC _ _,λcs=>?_⟩
 have aM:hD μ .normal cs .none cs:=⟨rfl,λc7 aq=>by simp[tryRecover,aq]⟩
 have hlen:=aC.length
 have DI:Frame.enter P f ⟨vs⟩ .normal=({(default:Frame) with fn:=f,kind:=.normal}:Frame).atR {tmps:=⟨vs⟩++Array.replicate (fn.ntmps-vs.length) undef,defers:=[]} [.code c]:=by
  simp[Frame.enter,Frame.atR,hf,ae]
  rfl
 obtain⟨e,r',bd,bk,aW,⟨he,K3,tm,iV,aN,s9⟩,aX,w',cA,bO,s1,s2,bK,bN,ch,c3,dA⟩:=h {(default:Frame) with fn:=f,kind:=.normal} μ w {tmps:=⟨vs⟩++Array.replicate (fn.ntmps-vs.length) undef,defers:=[]} [] cs cs rfl (I8 aC _) (by simp;omega) ak al rfl aM
 subst K3 tm
 have fC:bO=cs:=dA.1
 subst fC
 rw[<-DI] at s1
 have gz:(jj P call (dL fn) fn r' 100 none [] aW).k0=true:=by simp only[jj,iV];rfl
 have fm:jj P call (dL fn) fn r' 100 none [] aW=.ret v aW:=by simp only[jj,iV]
 have main:∀(c7:Frame),c7.fn=f->c7.tmps=cA.tmps->c7.defers=cA.defers->c7.kind=.normal->mM aX none c7.mode->Steps P (lone (Frame.enter P f ⟨vs⟩ .normal) bO w) (lone c7 bO w')->
   ∃e cK jV,Ends μ H w (.ret v m2) e cK/\Comes P (lone (Frame.enter P f ⟨vs⟩ .normal) bO w) (lone jV bO cK) e/\jV.fn=f/\jV.leaving P cK e:=by
  intro c7 ab ad ar aG bJ cu
  subst ab
  obtain⟨ay,cK,jV,r1,r2,ec,fb⟩:=AI ag hdr en 100 none [] aW aX w' c7 bO gz bN (al.mono ch.le) (by rw[ad];exact s2) hf aG (by rw[ar];exact c3) bJ
  rw[fm] at r1
  have x0:=Ends.trans ak bN ch r1
  refine⟨ay,cK,jV,?_,Ja (cu.trans r2) (λe=>Ay (r:=.ret v aW) rfl _ (e▸x0)),ec,fb⟩
  obtain⟨uZ,u,rfl,t1,t2,t3⟩:=x0
  refine⟨uZ,u,rfl,t1,t2.dropped aN (λb=>?_),?_⟩
  · rcases s9 b with e|⟨e,_⟩
    · exact .inl e
    · exact .inr e
  · have low:∀b,b<H.n->m2.get b=aW.get b:=λb ae=>by
      rcases s9 b with e|⟨_,e⟩
      · exact e
      · omega
    refine⟨t3.le,t3.size,by rw[aN];exact t3.n,λb ae aw=>t3.live b ae (by rw[<-low b ae];exact aw),λb ae hm=>(low b ae).trans (t3.idle b ae hm),t3.old,t3.new,λb o i qN hi af=>?_,t3.os,t3.out,t3.tape,t3.drawn⟩
    obtain⟨bC,c0⟩:=t3.ro b o i qN hi af
    exact⟨(low b (ak.lt b i af).1).trans bC,c0⟩
 rcases he with rfl|rfl
 · exact main {({(default:Frame) with fn:=f,kind:=.normal}:Frame).atR cA [] with mode:=.returning} rfl rfl rfl rfl rfl (Steps.trans s1 (.one (stepR_end rfl)))
 · obtain⟨bh,tp⟩:=s1
   exact main {({(default:Frame) with fn:=f,kind:=.normal}:Frame).atR cA (.code .ret::bh) with mode:=.returning} rfl rfl rfl rfl rfl (Steps.trans tp (.one (stepR_ret rfl)))
end
end aP
namespace aP
open Go
section
variable {P:Program} {fn:Func} {rd:Option Nat} {call:aI->List I->J->av}
def gb(P:Program)(fn:Func)(rd:Option Nat)(p:List Nat)(st:ah)(R:bn->ah->Prop):Prop:=
 ∀r,Mod r st.Γ->iN P (dL fn) fn.ntmps rd (sub (e9 fn) p) r st.d st.q st.h (λe r' bd bk an=>∃cq,Mod r' cq/\R e ⟨cq,bd,bk,an⟩)
theorem gb.of_run(ag:jq P call)(hdr:∀need bP,mL P need bP call){p:List Nat}{st b2:ah}{e:bn}(de:hA fn.ntmps (sub (e9 fn) p)=true)(h:aL P fn rd call p st e b2){R:bn->ah->Prop}(dP:R e b2):gb P fn rd p st R:=λr aj=>by
 obtain⟨r',ab,ad⟩:=h r aj
 exact iN.of_run ag hdr de ab ⟨b2.Γ,ad,dP⟩
theorem gb.seq{p:List Nat}{st:ah}{R1 mc:bn->ah->Prop}(hs:tI (sub (e9 fn) p)=true)(ab:gb P fn rd (p++[0]) st R1)(ad:∀b2,R1 .nrm b2->gb P fn rd (p++[1]) b2 mc)(ar:∀e b2,e≠ .nrm->R1 e b2->mc e b2):gb P fn rd p st mc:=λr aj=>by
 rw[Bf hs]
 have g7:=ab r aj
 rw[jv] at g7
 refine g7.seq (λr' bd bk aW ⟨cq,m,dP⟩=>?_) λe r' bd bk aW he ⟨cq,m,dP⟩=>⟨cq,m,ar e _ he dP⟩
 have:=ad _ dP r' m
 rw[jv] at this
 exact this
theorem gb.block{p:List Nat}{id:Nat}{st:ah}{R1 mc:bn->ah->Prop}(hs:vD id (sub (e9 fn) p)=true)(ab:gb P fn rd (p++[0]) st R1)(ad:∀e b2,R1 e b2->mc (yG id e) b2):gb P fn rd p st mc:=λr aj=>by
 rw[Bg hs]
 have g7:=ab r aj
 rw[jv] at g7
 exact g7.block λe r' bd bk aW ⟨cq,m,dP⟩=>⟨cq,m,ad e _ dP⟩
def Fe(inv:Nat->ah->Prop)(n:Nat)(R:bn->ah->Prop):bn->ah->Prop:=λe st=>(e=.nrm/\∃m,m<n/\inv m st)\/(e≠ .nrm/\R e st)
theorem gb.loop{p:List Nat}(inv:Nat->ah->Prop){R:bn->ah->Prop}(hs:yn (sub (e9 fn) p)=true)(qm:∀n st,inv n st->gb P fn rd (p++[0]) st (Fe inv n R))(qT:Nat){st:ah}(h0:inv qT st):gb P fn rd p st R:=λr aj=>by
 rw[Kf hs]
 refine iN.loop (λn r d q H=>∃Γ,Mod r Γ/\inv n ⟨Γ,d,q,H⟩) (λn r d q H ⟨Γ,m,af⟩=>?_) qT ⟨st.Γ,aj,h0⟩
 have ab:=qm n ⟨Γ,d,q,H⟩ af r m
 rw[jv] at ab
 refine ab.mono λe r' bd bk aW ⟨cq,jW,dP⟩=>?_
 rcases dP with⟨rfl,k,aq,eQ⟩|⟨he,dP⟩
 · exact .inl ⟨rfl,k,aq,cq,jW,eQ⟩
 · exact .inr ⟨he,cq,jW,dP⟩
theorem gb.pre{p:List Nat}{st st1:ah}{R:bn->ah->Prop}(h:gb P fn rd p st R)(hs:b_ st.Γ st1.Γ)(ao:st1.d=st.d)(aM:st1.q=st.q)(ak:st1.h=st.h):gb P fn rd p st1 R:=λr aj=>by
 have:=h r (aj.sub hs)
 rw[ao,aM,ak]
 exact this
def stepOf:Code->Option (Nat×Nat×Nat)
 |.region _ ops false=>match ops.toList with
  |[dz,dG]=>match dz.op,dz.guard,dz.dst,dG.op,dG.guard,dG.dst with
   |.next (.tmp it) false,none,some a,.extract (.tmp b) 0,none,some c=>match Nat.beq a b with
    |true=>some (it,a,c)
    |false=>none
   |_,_,_,_,_,_=>none
  |_=>none
 |_=>none
theorem TO{c:Code}{it a t:Nat}(h:stepOf c=some (it,a,t)):∃id ops dz dG,c=.region id ops false/\ops.toList=[dz,dG]/\dz.op=.next (.tmp it) false/\dz.guard=none/\dz.dst=some a/\dG.op=.extract (.tmp a) 0/\dG.guard=none/\dG.dst=some t:=by
 unfold stepOf at h
 split at h
 · rename_i id ops
   split at h
   · rename_i dz dG kz
     split at h
     · rename_i adw cA hS c' ab ad ar aG bJ cu
       split at h
       · rename_i fc
         have:=Nat.eq_of_beq_eq_true fc
         subst this
         cases h
         exact⟨id,ops,dz,dG,rfl,kz,ab,ad,ar,aG,bJ,cu⟩
       · cases h
     · cases h
   · cases h
 · cases h
theorem gb.next(ag:jq P call){p:List Nat}{st:ah}{R:bn->ah->Prop}{it a t:Nat}(hs:stepOf (sub (e9 fn) p)=some (it,a,t))(de:hA fn.ntmps (sub (e9 fn) p)=true)(aN:Nat.testBit (dL fn) it=true)(DX:Nat.testBit (dL fn) a=false)(TP:Nat.testBit (dL fn) t=true)
  {lB m since last clock:Nat}{seen:List Nat}{es:List dN}(aj:ee it st.Γ=some (.ptr lB 0))(sc:st.h.get lB=some (.mapIter (some m) since seen last))(hm:st.h.get m=some (.map es clock))(hold:∀e∈es,e.born<since)(jm:since<=last)
  (ue:(∀e∈es,e.born∈seen)->R .nrm ⟨put t (.bool false) st.Γ,st.d,st.q,st.h⟩)
  (fJ:∀e∈es,e.born∉seen->R .nrm ⟨put t (.bool true) st.Γ,st.d,st.q,st.h.set lB (some (.mapIter (some m) since (seen++[e.born]) clock))⟩):gb P fn rd p st R:=λr tf=>by
 obtain⟨id,ops,dz,dG,TQ,kz,ab,ad,ar,aG,bJ,cu⟩:=TO hs
 rw[TQ] at de⊢
 have Fc:dx 0 [] r (cJ P (dL fn) [] (.tmp it))=.ptr lB 0:=by
  simp only[cJ,h5,aN,dx]
  exact tf it _ aj
 have fin:∀(b:Bool) (vs:List I) (H:J),∃r',mB (dL fn) r (k1 P (dL fn) ops [dG] (hh dz 0 []) 1) (ij P (dL fn) rd.isSome call r (lZ P (dL fn) ops [dG] (hh dz 0 []) 1) [.aQ (.bool b::vs)] st.d st.q H)=.ok .nrm r' st.d st.q H/\Mod r' (put t (.bool b) st.Γ):=by
  intro b vs H
  have h9:aliasOf dG=none:=by
   unfold aliasOf
   rw[aG,bJ,cu]
  have la:hh dz 0 []=[(a,.env 0)]:=by
   unfold hh;rw[ar]
  have tY:jH P (dL fn) ops [(a,.env 0)] dG=none:=by unfold jH;rw[bJ]
  have fm:cH P dG (λx=>dx 1 [.aQ (.bool b::vs)] r (cJ P (dL fn) [(a,.env 0)] x)) H=.val (.bool b) H:=by
   have aa:dx 1 [.aQ (.bool b::vs)] r (cJ P (dL fn) [(a,.env 0)] (.tmp a))=.aQ (.bool b::vs):=by
    simp[cJ,h5,dx,nth]
   simp only[cH,aG,aa]
   rfl
  rw[la]
  have hC:k1 P (dL fn) ops [dG] [(a,.env 0)] 1=hh dG 1 [(a,.env 0)]:=by
   unfold k1;rw[h9];rfl
  have ou:lZ P (dL fn) ops [dG] [(a,.env 0)] 1=[⟨none,dG,[(a,.env 0)],1⟩]:=by
   unfold lZ;rw[h9,tY];rfl
  have TR:hh dG 1 [(a,.env 0)]=[(t,.env 1),(a,.env 0)]:=by unfold hh;rw[cu]
  rw[hC,ou,TR]
  refine⟨pd (dL fn) 2 [.bool b,.aQ (.bool b::vs)] r [(t,.env 1),(a,.env 0)] r,?_,?_⟩
  · have aA:ij P (dL fn) rd.isSome call r [⟨none,dG,[(a,.env 0)],1⟩] [.aQ (.bool b::vs)] st.d st.q H=.ok [.bool b,.aQ (.bool b::vs)] st.d st.q H:=by
      simp only[ij,dO,ew,fm]
    rw[aA]
    rfl
  · have AN:=Bb (need:=dL fn) (m:=2) (env:=[.bool b,.aQ (.bool b::vs)]) tf [(t,.env 1),(a,.env 0)] r st.Γ tf
    have he:qL (dL fn) 2 [.bool b,.aQ (.bool b::vs)] st.Γ [(t,.env 1),(a,.env 0)] st.Γ=put t (.bool b) st.Γ:=by
     simp only[qL,TP,DX]
     rfl
    rw[he] at AN
    exact AN
 refine iN.next ag kz ab ad de Fc sc hm hold jm (λen=>?_) λe he iH=>?_
 · obtain⟨r',bH,bY⟩:=fin false [] st.h
   exact⟨_,_,_,_,_,bH,_,bY,ue en⟩
 · obtain⟨r',bH,bY⟩:=fin true [e.key,e.val] _
   exact⟨_,_,_,_,_,bH,_,bY,fJ e he iH⟩
end
end aP
