/-
  PROVED HERE: contracts of functions (Ax). No condition beside each statement's own.
-/
import Derived.Test.YtjkomfonmcmgdaaGreatDoorAed
import Derived.OpenShut
import Derived.ChangeSame
import Derived.Lay
import Derived.Laws.IdiomRangeMap
import Derived.Test.YtjkomfonmcmgdaaGreatDoorSxa
set_option linter.unusedVariables false
set_option linter.unusedSimpArgs false
namespace aM
open Go Go.RowKit
section
variable {P:Program}
end
end aM
namespace aM
open Go Go.ChangeShapes Go.WideShapes Go.ChangeAt Go.RowKit
end aM
namespace aM
open Go Go.RowKit
section
variable {P:Program}
def EK(i1 i2:Nat->List I->J->Option (I×J))(f:Nat)(args:List I)(h:J):Option (I×J):=match i1 f args h with
 |some r=>some r
 |none=>i2 f args h
theorem SZ{i1 i2:Nat->List I->J->Option (I×J)}(ab:nk P i1)(ad:nk P i2):nk P (EK i1 i2):=by
 intro f args H v aV aa
 unfold EK at aa
 split at aa
 · rename_i r ak
   cases aa
   exact ab f args H v aV ak
 · exact ad f args H v aV aa
end
end aM
namespace aM
open Go Go.ChangeShapes Go.WideShapes Go.ChangeAt Go.RowKit
end aM
namespace aM
open Go
end aM
namespace aM
open Go
end aM
namespace aM
open Go Go.RowKit
section
variable {P:Program}
end
end aM
namespace aM
open Go Go.RowKit
section
variable {P:Program}
end
end aM
namespace aM
open Go Go.RowKit
section
variable {P:Program}
end
end aM
namespace aM
open Go Go.RowKit
section
variable {P:Program}
end
end aM
namespace aM
open Go Go.RowKit
section
variable {P:Program}
end
end aM
namespace aM
open Go
section
variable {P:Program}
def iF(P:Program)(need bP:Nat)(rd:Option Nat)(c:Code)(r:aY)(d:List bQ)(q:bD)(H:J)(R:bn->aY->List bQ->bD->J->Prop):Prop:=
 ∀(b:Frame) (μ:bp) (w:World) (a:Act) (k:List Item) (cs0 cs:List Frame),mo μ b rd->ix need μ r a.tmps->a.tmps.size=bP->br μ H w->hd P μ->gl μ d a.defers->ht μ b.kind cs0 q cs->
  ∃e r' bf bj aV,R e r' bf bj aV/\kP P need bP μ H w b k cs0 (lone (b.atR a (.code c::k)) cs w) (.ok e r' bf bj aV)
variable {need bP:Nat} {rd:Option Nat} {r:aY} {d:List bQ} {q:bD} {H:J} {R R1 lX:bn->aY->List bQ->bD->J->Prop}
theorem iF.of_run{call:aI->List I->J->av}(ag:jc P call)(hdr:∀need bP,mq P need bP call){c:Code}(c9:hp bP c=true){e:bn}{r':aY}{bf:List bQ}{bj:bD}{aV:J}
  (h:du P need rd call c r d q H=.ok e r' bf bj aV)(ee:R e r' bf bj aV):iF P need bP rd c r d q H R:=λb μ w a k cs0 cs cC ak bw ai al ao aT=>by
 have ab:=n2 ag (hdr need bP) (Ad ag) rd c c9 b r d q H μ w a k cs0 cs cC ak bw ai al ao aT
 rw[h] at ab
 exact⟨e,r',bf,bj,aV,ee,ab⟩
theorem iF.mono{c:Code}(h:iF P need bP rd c r d q H R1)(hm:∀e r' bf bj aV,R1 e r' bf bj aV->lX e r' bf bj aV):iF P need bP rd c r d q H lX:=λb μ w a k cs0 cs cC ak bw ai al ao aT=>by
 obtain⟨e,r',bf,bj,aV,ab,ad⟩:=h b μ w a k cs0 cs cC ak bw ai al ao aT
 exact⟨e,r',bf,bj,aV,hm _ _ _ _ _ ab,ad⟩
theorem iF.seq{x y:Code}(h:iF P need bP rd x r d q H R1)(ad:∀r' bf bj aV,R1 .nrm r' bf bj aV->iF P need bP rd y r' bf bj aV lX)(ar:∀e r' bf bj aV,e≠ .nrm->R1 e r' bf bj aV->lX e r' bf bj aV):iF P need bP rd (.seq x y) r d q H lX:=λb μ w a k cs0 cs cC ak bw ai al ao aT=>by
 obtain⟨e,r',bf,bj,aV,bE,b0⟩:=h b μ w a (.code y::k) cs0 cs cC ak bw ai al ao aT
 obtain⟨aX,w',cy,bN,s1,s2,bI,bL,cb,cW,dw⟩:=b0
 by_cases he:e=.nrm
 · subst he
   obtain⟨ay,r2,d2,a7,aQ,a3,bS⟩:=ad _ _ _ _ bE b aX w' cy k cs0 bN (cC.mono cb.le) s2 bI bL (al.mono cb.le) cW dw
   exact⟨ay,r2,d2,a7,aQ,a3,bS.of_steps ai bL (Steps.head stepR_seq s1) cb⟩
 · exact⟨e,r',bf,bj,aV,ar _ _ _ _ _ he bE,aX,w',cy,bN,(s1.pass (λid h=>by cases h) he).of_steps (.one stepR_seq),s2,bI,bL,cb,cW,dw⟩
def ye(id:Nat):bn->bn
 |.exit i=>if i=id then .nrm else .exit i
 |e=>e
theorem iF.block{id:Nat}{c:Code}(h:iF P need bP rd c r d q H R1)(hm:∀e r' bf bj aV,R1 e r' bf bj aV->lX (ye id e) r' bf bj aV):iF P need bP rd (.block id c) r d q H lX:=λb μ w a k cs0 cs cC ak bw ai al ao aT=>by
 obtain⟨e,r',bf,bj,aV,bE,b0⟩:=h b μ w a (.inBlock id::k) cs0 cs cC ak bw ai al ao aT
 refine⟨ye id e,r',bf,bj,aV,hm _ _ _ _ _ bE,?_⟩
 obtain⟨aX,w',cy,bN,s1,s2,bI,bL,cb,cW,dw⟩:=b0
 cases e with
 |nrm=>exact⟨aX,w',cy,bN,Steps.head stepR_block (Steps.trans s1 (.one stepR_inBlock)),s2,bI,bL,cb,cW,dw⟩
 |exit i=>
  obtain⟨bh,aA,ay⟩:=s1
  by_cases iB:i=id
  · simp only[ye,iB,if_true]
    subst iB
    have bx:exitTo i bh=some k:=by rw[aA];simp[exitTo]
    exact⟨aX,w',cy,bN,Steps.head stepR_block (Steps.trans ay (.one (stepR_exit bx))),s2,bI,bL,cb,cW,dw⟩
  · simp only[ye,if_neg iB]
    have:(id==i)=false:=by simp;exactλh=>iB h.symm
    exact⟨aX,w',cy,bN,⟨bh,aA.trans (by simp[exitTo,this]),Steps.head stepR_block ay⟩,s2,bI,bL,cb,cW,dw⟩
 |ret=>obtain⟨bh,ay⟩:=s1;exact⟨aX,w',cy,bN,⟨bh,Steps.head stepR_block ay⟩,s2,bI,bL,cb,cW,dw⟩
 |goto l=>exact s1.elim
 |b4 v=>obtain⟨bh,u,aA,ay⟩:=s1;exact⟨aX,w',cy,bN,⟨bh,u,aA,Steps.head stepR_block ay⟩,s2,bI,bL,cb,cW,dw⟩
def S0(inv:Nat->aY->List bQ->bD->J->Prop)(n:Nat)(R:bn->aY->List bQ->bD->J->Prop):bn->aY->List bQ->bD->J->Prop:=λe r d q H=>(e=.nrm/\∃m,m<n/\inv m r d q H)\/(e≠ .nrm/\R e r d q H)
theorem iF.loop{c:Code}(inv:Nat->aY->List bQ->bD->J->Prop)(pW:∀n r d q H,inv n r d q H->iF P need bP rd c r d q H (S0 inv n R))(qq:Nat)(h0:inv qq r d q H):iF P need bP rd (.loop c) r d q H R:=λb μ w a k cs0 cs cC ak bw ai al ao aT=>by
 have key:∀(n m:Nat),m<n->∀(r:aY) (d:List bQ) (q:bD) (H:J) (μ:bp) (w:World) (a:Act) (cs:List Frame),inv m r d q H->mo μ b rd->ix need μ r a.tmps->a.tmps.size=bP->br μ H w->hd P μ->gl μ d a.defers->ht μ b.kind cs0 q cs->
   ∃e r' bf bj aV,R e r' bf bj aV/\kP P need bP μ H w b k cs0 (lone (b.atR a (.code c::.inLoop c::k)) cs w) (.ok e r' bf bj aV):=by
  intro n
  induction n with
  |zero=>intro m hm;omega
  |succ n a6=>
   intro m hm r d q H μ w a cs af cC ak bw ai al ao aT
   obtain⟨e,r',bf,bj,aV,bE,aX,w',cy,bN,s1,s2,bI,bL,cb,cW,dw⟩:=pW m r d q H af b μ w a (.inLoop c::k) cs0 cs cC ak bw ai al ao aT
   rcases bE with⟨rfl,jI,pY,eJ⟩|⟨he,ee⟩
   · obtain⟨ay,r2,d2,a7,aQ,a3,bS⟩:=a6 jI (by omega) r' bf bj aV aX w' cy bN eJ (cC.mono cb.le) s2 bI bL (al.mono cb.le) cW dw
     exact⟨ay,r2,d2,a7,aQ,a3,bS.of_steps ai bL (Steps.trans s1 (.one stepR_inLoop)) cb⟩
   · exact⟨e,r',bf,bj,aV,ee,aX,w',cy,bN,s1.pass (λid h=>by cases h) he,s2,bI,bL,cb,cW,dw⟩
 obtain⟨e,r',bf,bj,aV,bE,b0⟩:=key (qq+1) qq (by omega) r d q H μ w a cs h0 cC ak bw ai al ao aT
 exact⟨e,r',bf,bj,aV,bE,b0.of_steps ai ai (.one stepR_loop) (b7.refl _ _ _)⟩
theorem EL{μ:bp}:∀{es:List dK} {ms:List MapEntry},fQ μ es ms->∀m∈ms,∃e∈es,qX μ e m
 |[],_,h,m,hm=>by cases h;cases hm
 |e::es,_,⟨e7,ms,rfl,ab,ad⟩,m,hm=>by
  rcases List.mem_cons.1 hm with rfl|hm
  · exact⟨e,by simp,ab⟩
  · obtain⟨cH,ar,aJ⟩:=EL ad m hm
    exact⟨cH,by simp[ar],aJ⟩
theorem Km{μ:bp}:∀{es:List dK} {ms:List MapEntry},fQ μ es ms->∀e∈es,∃m∈ms,qX μ e m
 |[],_,h,m,hm=>by cases hm
 |e::es,_,⟨e7,ms,rfl,ab,ad⟩,m,hm=>by
  rcases List.mem_cons.1 hm with rfl|hm
  · exact⟨e7,by simp,ab⟩
  · obtain⟨cH,ar,aJ⟩:=Km ad m hm
    exact⟨cH,by simp[ar],aJ⟩
theorem S1{μ:bp}{w:World}(ai:br μ H w){t:TypeId}{ll m since last clock:Nat}{seen:List Nat}{es:List dK}{p6:Value}(af:bl μ (.ptr ll 0) p6)
  (rN:H.get ll=some (.mapIter (some m) since seen last))(hm:H.get m=some (.map es clock))(hold:∀e∈es,e.born<since)(ja:since<=last):
  ((∀e∈es,e.born∈seen)/\eO P μ H w (Instr.next p6 false t) (.aP [.bool false]) H)\/
  ∃e∈es,e.born∉seen/\eO P μ H w (Instr.next p6 false t) (.aP [.bool true,e.key,e.val]) (H.set ll (some (.mapIter (some m) since (seen++[e.born]) clock))):=by
 obtain⟨i,hJ,rfl⟩:=af
 obtain⟨df,j,aL,aA⟩:=ai.rel _ _ i rN hJ
 obtain⟨hc,i0,xh⟩:=i
 simp only at df;subst df
 have uG:w.heap[hc]? =some (.mapIter (some j.bk) since ⟨seen⟩ last):=aA
 obtain⟨ents,f1,f2⟩:=ai.rel _ _ j hm aL
 have hH:(getObj hc).run P w=.ok (.mapIter (some j.bk) since ⟨seen⟩ last) w:=by simp[getObj,Sem.run,uG]
 have zY:(getObj j.bk).run P w=.ok (.map ⟨ents⟩ clock) w:=by simp[getObj,Sem.run,f1]
 have Kn:∀x∈(⟨ents⟩:Array MapEntry).toList,x.born<since:=λx aa=>by
  obtain⟨e,he,ak⟩:=EL f2 x aa
  rw[<-ak.2.2];exact hold e he
 have Ko:=next_test_false ⟨seen⟩ ⟨ents⟩ since last Kn ja
 have h1:∀x∈(Array.filter (λe=>!(⟨seen⟩:Array Nat).contains e.born) (⟨ents⟩:Array MapEntry)).toList,x.born<since:=λx aa=>Kn x (by simp at aa⊢;exact aa.1)
 have fe:∀x∈(Array.filter (λe=>!(⟨seen⟩:Array Nat).contains e.born) (⟨ents⟩:Array MapEntry)).toList,x∈ents/\x.born∉seen:=λx aa=>by
  simp at aa;exact aa
 have eg:(Array.filter (λe=>!(⟨seen⟩:Array Nat).contains e.born) (⟨ents⟩:Array MapEntry)).size=0->∀x∈ents,x.born∈seen:=λh0 x aa=>by
  by_cases hs:x.born∈seen
  · exact hs
  · exfalso
    have:x∈Array.filter (λe=>!(⟨seen⟩:Array Nat).contains e.born) (⟨ents⟩:Array MapEntry):=by simp;exact⟨aa,hs⟩
    rw[Array.eq_empty_of_size_eq_zero h0] at this
    simp at this
 generalize g4:Array.filter (λe=>!(⟨seen⟩:Array Nat).contains e.born) (⟨ents⟩:Array MapEntry)=L at h1 fe eg
 have aj:L.filter (λx=>decide (x.born<since))=L:=Array.filter_eq_self.2 (λx aa=>by simpa using h1 x (by simpa using aa))
 have ax:L.filter (λx=>decide (x.born>=since))=#[]:=by
  rw[Array.filter_eq_empty_iff]
  intro x aa
  have:=h1 x (by simpa using aa)
  simp
  omega
 by_cases h0:L.size=0
 · left
   refine⟨λe he=>?_,?_⟩
   · obtain⟨x,aa,ak⟩:=Km f2 e he
     rw[ak.2.2];exact eg h0 x aa
   · refine .same ai (v':=.tuple #[.bool false]) ?_ ⟨_,rfl,_,_,rfl,rfl,rfl⟩
     simp only[Instr.next,Sem.run_bind,hH,zY,Result.andThen_ok,Ko,Bool.false_eq_true,if_false]
     rw[g4]
     simp only[aj,ax,Array.append_empty]
     have:L=#[]:=Array.eq_empty_of_size_eq_zero h0
     subst this
     simp[choose,Sem.run,Question.forced]
 · right
   have cV:L.isEmpty=false:=by simp[Array.isEmpty,h0]
   have Kp:∃(qs:Nat) (cK:World),qs<L.size/\cK.heap=w.heap/\cK.os=w.os/\cK.output=w.output/\cK.tape=w.tape/\w.drawn<=cK.drawn/\(choose (Question.mapNext L.size)).run P w=.ok qs cK:=by
    by_cases hf:L.size<=1
    · exact⟨0,w,by omega,rfl,rfl,rfl,rfl,Nat.le_refl _,by simp[choose,Sem.run,Question.forced,hf]⟩
    · exact⟨_,w.drew,Nat.mod_lt _ (by omega),rfl,rfl,rfl,rfl,Nat.le_succ _,by
       simp only[choose,Sem.run,Question.forced,decide_eq_true_eq,hf,if_false,Question.cut]
       rfl⟩
   obtain⟨qs,cK,S2,cw,c2,dm,e4,eX,eP⟩:=Kp
   obtain⟨po,qt⟩:=fe L[qs] (by simp)
   obtain⟨e,he,ak⟩:=EL f2 L[qs] po
   refine⟨e,he,by rw[ak.2.2];exact qt,?_⟩
   have iL:=ai.of_heap cw
   have CU:hc<cK.heap.size:=by rw[cw];exact(ai.lt _ _ hJ).2
   obtain⟨r1,r2⟩:=iL.update (w':={cK with heap:=cK.heap.setIfInBounds hc (.mapIter (some j.bk) since ⟨seen++[e.born]⟩ clock)}) (o':=.mapIter (some m) since (seen++[e.born]) clock) rN rfl hJ (by simp) (λr ak=>by simp[Array.getElem?_setIfInBounds];intro e;exact absurd e.symm ak) rfl rfl rfl
    ⟨rfl,j,aL,by simp[CU]⟩
   refine⟨μ,_,.tuple #[.bool true,L[qs].key,L[qs].val],?_,⟨_,rfl,_,_,rfl,rfl,_,_,rfl,ak.1,_,_,rfl,ak.2.1,rfl⟩,r1,b7.trans ai iL (b7.of_heap cw c2 dm e4 eX) r2⟩
   have S3:cK.heap[hc]? =some (.mapIter (some j.bk) since ⟨seen⟩ last):=by rw[cw];exact uG
   have p7:(setObj hc (.mapIter (some j.bk) since ((⟨seen⟩:Array Nat).push L[qs].born) clock)).run P cK=.ok () {cK with heap:=cK.heap.setIfInBounds hc (.mapIter (some j.bk) since ⟨seen++[e.born]⟩ clock)}:=by
    have:((⟨seen⟩:Array Nat).push L[qs].born)=⟨seen++[e.born]⟩:=by rw[ak.2.2];apply Array.ext';simp
    rw[this]
    simp[setObj,Sem.run,S3]
   simp only[Instr.next,Sem.run_bind,hH,zY,Result.andThen_ok,Ko,Bool.false_eq_true,if_false]
   rw[g4]
   simp only[aj,ax,Array.append_empty,cV,Bool.false_eq_true,if_false,Array.empty_append,Array.size_map,eP,Result.andThen_ok,Array.getElem?_map,Array.getElem?_eq_getElem S2,Option.map_some,Sem.run_bind,p7]
   rfl
theorem iF.next{call:aI->List I->J->av}(ag:jc P call){id:Nat}{ops:Array Oper}{o:Oper}{rest:List Oper}(a2:ops.toList=o::rest){it:Operand}(fo:o.op=.next it false)(gv:o.guard=none)(c9:hp bP (.region id ops false)=true)
  {ll m since last clock:Nat}{seen:List Nat}{es:List dK}(EM:dt 0 [] r (cE P need [] it)=.ptr ll 0)(rN:H.get ll=some (.mapIter (some m) since seen last))(hm:H.get m=some (.map es clock))(hold:∀e∈es,e.born<since)(ja:since<=last)
  (tC:(∀e∈es,e.born∈seen)->∃cH r' bf bj aV,md need r (kO P need ops rest (g9 o 0 []) 1) (h_ P need rd.isSome call r (lM P need ops rest (g9 o 0 []) 1) [.aP [.bool false]] d q H)=.ok cH r' bf bj aV/\R cH r' bf bj aV)
  (fE:∀e∈es,e.born∉seen->∃cH r' bf bj aV,md need r (kO P need ops rest (g9 o 0 []) 1) (h_ P need rd.isSome call r (lM P need ops rest (g9 o 0 []) 1) [.aP [.bool true,e.key,e.val]] d q (H.set ll (some (.mapIter (some m) since (seen++[e.born]) clock))))=.ok cH r' bf bj aV/\R cH r' bf bj aV):
  iF P need bP rd (.region id ops false) r d q H R:=λb μ w a k cs0 cs cC ak bw ai al ao aT=>by
 simp only[hp,Bool.and_eq_true,List.all_eq_true] at c9
 have km:∀o∈ops.toList,∀t,o.dst=some t->t<bP:=λo a2 t a_=>by
  have:=c9.1 o a2
  rw[a_] at this
  simpa using this
 have Kq:=jd.init (P:=P) (need:=need) ak
 have fi:=Kq.eval (a:=a) al it
 rw[EM] at fi
 have Kr:ops[0]? =some o:=by rw[<-Array.getElem?_toList,a2];rfl
 have h1:o∈ops.toList:=by rw[a2];simp
 have z_:∀t,o.dst=some t->t<a.tmps.size:=λt h=>by rw[bw];exact km o h1 t h
 have S4:ops.size=rest.length+1:=by
  have:=congrArg List.length a2
  simpa using this
 have S5:List.range ops.size=0::List.range' 1 rest.length:=by rw[S4,List.range_eq_range',List.range'_succ]
 have key:∀(v:I) (H1:J),eO P μ H w (Instr.next (a.eval it) false o.type) v H1->
   kP P need bP μ H w b k cs0 (lone (b.atR a (.code (.region id ops false)::k)) cs w) (md need r (kO P need ops rest (g9 o 0 []) 1) (h_ P need rd.isSome call r (lM P need ops rest (g9 o 0 []) 1) [v] d q H1)):=by
  intro v H1 aB
  obtain⟨aX,w',u,eP,hu,DF,kn⟩:=aB
  have hw:Region.wanted o (yielded ops a.tmps)=true:=by simp[Region.wanted,gv]
  have ch:=stepGR_op (P:=P) (b:=b) (a:=a) (k:=k) (cs:=cs) (w:=w) (rest:=List.range' 1 rest.length) Kr hw
  have sP:o.semAt b.roundOf a.eval=execOp a.eval o:=Oper.semAt_eq _ _ _ λc e=>by rw[fo] at e;cases e
  rw[sP] at ch
  obtain⟨aj,_⟩:=z4 ch
  have hex:(execOp a.eval o).run P w=.ok (.value u) w':=by
   have:execOp a.eval o=(do pure (.value (<-Instr.next (a.eval it) false o.type))):=by
    obtain⟨dst,op,type,pos,after,guard⟩:=o
    simp only at fo
    subst fo
    rfl
   rw[this]
   simp only[Sem.run_bind,eP,Result.andThen_ok]
   rfl
  have hs:=aj u w' hex
  have ml:(b.atR a (.inRegion ops (0::List.range' 1 rest.length)::k)).finish u=b.atR (a.put o.dst u) (.inRegion ops (List.range' 1 rest.length)::k):=by
   rw[Frame.finish_atR,Kr];rfl
  rw[ml] at hs
  have Dd:=(Kq.mono kn.le).step (a:=a) (o:=o) z_ hu
  have m6:ops.toList.drop 1=rest:=by rw[a2];rfl
  have a6:=z9 (P:=P) (need:=need) (k:=k) ag km (b:=b) (inR:=rd.isSome) cC.isSome (r:=r) (cs0:=cs0) rest 1 (g9 o 0 []) 1 [v] d q aX H1 w' (a.put o.dst u) cs m6 rfl Dd ((xv _ _ _).trans bw) DF (al.mono kn.le) (by rw[put_defers];exact ao.mono kn.le) (aT.mono kn.le)
  have ad:=n1.code a6
  refine kP.of_steps ai DF (Steps.trans (.one stepR_region) ?_) kn ad
  rw[S5]
  exact hs
 rcases S1 (P:=P) ai (t:=o.type) fi rN hm hold ja with⟨eg,aB⟩|⟨e,he,iz,aB⟩
 · obtain⟨cH,r',bf,bj,aV,ab,ad⟩:=tC eg
   have:=key _ _ aB
   rw[ab] at this
   exact⟨cH,r',bf,bj,aV,ad,this⟩
 · obtain⟨cH,r',bf,bj,aV,ab,ad⟩:=fE e he iz
   have:=key _ _ aB
   rw[ab] at this
   exact⟨cH,r',bf,bj,aV,ad,this⟩
theorem br.dropped{μ:bp}{w:World}{mK:J}(ai:br μ H w)(aK:mK.n=H.n)(sD:∀b,mK.get b=H.get b\/mK.get b=none):br μ mK w:=by
 have up:∀b o,mK.get b=some o->H.get b=some o:=λb o h=>by
  rcases sD b with e|e
  · rw[<-e];exact h
  · rw[e] at h;cases h
 refine⟨λb o i ae af=>ai.rel b o i (up b o ae) af,λb c i j ae ag af aL ru=>?_,λb i af=>by rw[aK];exact ai.lt b i af,λb ae=>?_⟩
 · obtain⟨o,ab,ad⟩:=ag
   refine ai.inj b c i j ?_ ⟨o,up c o ab,ad⟩ af aL ru
   cases aa:mK.get b with
   |none=>exact absurd aa ae
   |some o=>rw[up b o aa];exactλh=>by cases h
 · rw[aK] at ae
   rcases sD b with e|e
   · rw[e];exact ai.bound b ae
   · exact e
theorem S6{call:aI->List I->J->av}(ag:jc P call)(hdr:∀need bP,mq P need bP call)(eg:uL P){f:FuncId}{fn:Func}{c:Code}(hf:P.funcs[f]? =some fn)(ae:fn.body=some c){args:List I}(hle:args.length<=fn.ntmps){v:I}{mK:J}
  (h:iF P (dG fn) fn.ntmps none c (m3 0 args .leaf) [] .none H (λe r' bf bj aV=>(e=.nrm\/e=.ret)/\bf=[]/\bj=.none/\pP P (dG fn) fn r' aV=some v/\mK.n=aV.n/\∀b,mK.get b=aV.get b\/(mK.get b=none/\H.n<=b)))
  {μ:bp}{w:World}{vs:List Value}(ai:br μ H w)(al:hd P μ)(aB:b_ μ args vs):sN P f vs w (Ends μ H w (.ret v mK)):=by
 obtain⟨n5,qa⟩:=eg f fn c hf ae
 refine .inr ⟨Ae hf ae qa _ _,λcs=>?_⟩
 have aT:ht μ .normal cs .none cs:=⟨rfl,λc3 aq=>by simp[tryRecover,aq]⟩
 have hlen:=aB.length
 have Di:Frame.enter P f ⟨vs⟩ .normal=({(default:Frame) with fn:=f,kind:=.normal}:Frame).atR {tmps:=⟨vs⟩++Array.replicate (fn.ntmps-vs.length) undef,defers:=[]} [.code c]:=by
  simp[Frame.enter,Frame.atR,hf,ae]
  rfl
 obtain⟨e,r',bf,bj,aV,⟨he,Ks,sQ,iO,aK,sD⟩,aX,w',cy,bN,s1,s2,bI,bL,cb,cW,dw⟩:=h {(default:Frame) with fn:=f,kind:=.normal} μ w {tmps:=⟨vs⟩++Array.replicate (fn.ntmps-vs.length) undef,defers:=[]} [] cs cs rfl (Iv aB _) (by simp;omega) ai al rfl aT
 subst Ks sQ
 have fx:bN=cs:=dw.1
 subst fx
 rw[<-Di] at s1
 have gv:(i_ P call (dG fn) fn r' 100 none [] aV).kN=true:=by simp only[i_,iO];rfl
 have fi:i_ P call (dG fn) fn r' 100 none [] aV=.ret v aV:=by simp only[i_,iO]
 have main:∀(c3:Frame),c3.fn=f->c3.tmps=cy.tmps->c3.defers=cy.defers->c3.kind=.normal->mr aX none c3.mode->Steps P (lone (Frame.enter P f ⟨vs⟩ .normal) bN w) (lone c3 bN w')->
   ∃e cG jH,Ends μ H w (.ret v mK) e cG/\Comes P (lone (Frame.enter P f ⟨vs⟩ .normal) bN w) (lone jH bN cG) e/\jH.fn=f/\jH.leaving P cG e:=by
  intro c3 ab ad ar aJ bO cj
  subst ab
  obtain⟨ay,cG,jH,r1,r2,ed,fq⟩:=Af ag hdr eg 100 none [] aV aX w' c3 bN gv bL (al.mono cb.le) (by rw[ad];exact s2) hf aJ (by rw[ar];exact cW) bO
  rw[fi] at r1
  have xz:=Ends.trans ai bL cb r1
  refine⟨ay,cG,jH,?_,Iy (cj.trans r2) (λe=>z7 (r:=.ret v aV) rfl _ (e▸xz)),ed,fq⟩
  obtain⟨ux,u,rfl,t1,t2,t3⟩:=xz
  refine⟨ux,u,rfl,t1,t2.dropped aK (λb=>?_),?_⟩
  · rcases sD b with e|⟨e,_⟩
    · exact .inl e
    · exact .inr e
  · have low:∀b,b<H.n->mK.get b=aV.get b:=λb ae=>by
      rcases sD b with e|⟨_,e⟩
      · exact e
      · omega
    refine⟨t3.le,t3.size,by rw[aK];exact t3.n,λb ae aw=>t3.live b ae (by rw[<-low b ae];exact aw),λb ae hm=>(low b ae).trans (t3.idle b ae hm),t3.old,t3.new,λb o i qk g_ af=>?_,t3.os,t3.out,t3.tape,t3.drawn⟩
    obtain⟨bA,cX⟩:=t3.ro b o i qk g_ af
    exact⟨(low b (ai.lt b i af).1).trans bA,cX⟩
 rcases he with rfl|rfl
 · exact main {({(default:Frame) with fn:=f,kind:=.normal}:Frame).atR cy [] with mode:=.returning} rfl rfl rfl rfl rfl (Steps.trans s1 (.one (stepR_end rfl)))
 · obtain⟨bh,sS⟩:=s1
   exact main {({(default:Frame) with fn:=f,kind:=.normal}:Frame).atR cy (.code .ret::bh) with mode:=.returning} rfl rfl rfl rfl rfl (Steps.trans sS (.one (stepR_ret rfl)))
end
end aM
namespace aM
open Go
section
variable {P:Program} {fn:Func} {rd:Option Nat} {call:aI->List I->J->av}
def fW(P:Program)(fn:Func)(rd:Option Nat)(p:List Nat)(st:ah)(R:bn->ah->Prop):Prop:=
 ∀r,Mod r st.Γ->iF P (dG fn) fn.ntmps rd (sub (e3 fn) p) r st.d st.q st.h (λe r' bf bj an=>∃cg,Mod r' cg/\R e ⟨cg,bf,bj,an⟩)
theorem fW.of_run(ag:jc P call)(hdr:∀need bP,mq P need bP call){p:List Nat}{st bZ:ah}{e:bn}(c9:hp fn.ntmps (sub (e3 fn) p)=true)(h:aH P fn rd call p st e bZ){R:bn->ah->Prop}(ee:R e bZ):fW P fn rd p st R:=λr ak=>by
 obtain⟨r',ab,ad⟩:=h r ak
 exact iF.of_run ag hdr c9 ab ⟨bZ.Γ,ad,ee⟩
theorem fW.seq{p:List Nat}{st:ah}{R1 lX:bn->ah->Prop}(hs:td (sub (e3 fn) p)=true)(ab:fW P fn rd (p++[0]) st R1)(ad:∀bZ,R1 .nrm bZ->fW P fn rd (p++[1]) bZ lX)(ar:∀e bZ,e≠ .nrm->R1 e bZ->lX e bZ):fW P fn rd p st lX:=λr ak=>by
 rw[AO hs]
 have g0:=ab r ak
 rw[jh] at g0
 refine g0.seq (λr' bf bj aV ⟨cg,m,ee⟩=>?_) λe r' bf bj aV he ⟨cg,m,ee⟩=>⟨cg,m,ar e _ he ee⟩
 have:=ad _ ee r' m
 rw[jh] at this
 exact this
theorem fW.block{p:List Nat}{id:Nat}{st:ah}{R1 lX:bn->ah->Prop}(hs:u_ id (sub (e3 fn) p)=true)(ab:fW P fn rd (p++[0]) st R1)(ad:∀e bZ,R1 e bZ->lX (ye id e) bZ):fW P fn rd p st lX:=λr ak=>by
 rw[AP hs]
 have g0:=ab r ak
 rw[jh] at g0
 exact g0.block λe r' bf bj aV ⟨cg,m,ee⟩=>⟨cg,m,ad e _ ee⟩
def EN(inv:Nat->ah->Prop)(n:Nat)(R:bn->ah->Prop):bn->ah->Prop:=λe st=>(e=.nrm/\∃m,m<n/\inv m st)\/(e≠ .nrm/\R e st)
theorem fW.loop{p:List Nat}(inv:Nat->ah->Prop){R:bn->ah->Prop}(hs:xZ (sub (e3 fn) p)=true)(pW:∀n st,inv n st->fW P fn rd (p++[0]) st (EN inv n R))(qq:Nat){st:ah}(h0:inv qq st):fW P fn rd p st R:=λr ak=>by
 rw[JF hs]
 refine iF.loop (λn r d q H=>∃Γ,Mod r Γ/\inv n ⟨Γ,d,q,H⟩) (λn r d q H ⟨Γ,m,af⟩=>?_) qq ⟨st.Γ,ak,h0⟩
 have ab:=pW n ⟨Γ,d,q,H⟩ af r m
 rw[jh] at ab
 refine ab.mono λe r' bf bj aV ⟨cg,jI,ee⟩=>?_
 rcases ee with⟨rfl,k,aq,eJ⟩|⟨he,ee⟩
 · exact .inl ⟨rfl,k,aq,cg,jI,eJ⟩
 · exact .inr ⟨he,cg,jI,ee⟩
theorem fW.pre{p:List Nat}{st st1:ah}{R:bn->ah->Prop}(h:fW P fn rd p st R)(hs:cl st.Γ st1.Γ)(ao:st1.d=st.d)(aT:st1.q=st.q)(ai:st1.h=st.h):fW P fn rd p st1 R:=λr ak=>by
 have:=h r (ak.sub hs)
 rw[ao,aT,ai]
 exact this
def stepOf:Code->Option (Nat×Nat×Nat)
 |.region _ ops false=>match ops.toList with
  |[dv,dC]=>match dv.op,dv.guard,dv.dst,dC.op,dC.guard,dC.dst with
   |.next (.tmp it) false,none,some a,.extract (.tmp b) 0,none,some c=>match Nat.beq a b with
    |true=>some (it,a,c)
    |false=>none
   |_,_,_,_,_,_=>none
  |_=>none
 |_=>none
theorem S7{c:Code}{it a t:Nat}(h:stepOf c=some (it,a,t)):∃id ops dv dC,c=.region id ops false/\ops.toList=[dv,dC]/\dv.op=.next (.tmp it) false/\dv.guard=none/\dv.dst=some a/\dC.op=.extract (.tmp a) 0/\dC.guard=none/\dC.dst=some t:=by
 unfold stepOf at h
 split at h
 · rename_i id ops
   split at h
   · rename_i dv dC km
     split at h
     · rename_i acA cy hK c' ab ad ar aJ bO cj
       split at h
       · rename_i fg
         have:=Nat.eq_of_beq_eq_true fg
         subst this
         cases h
         exact⟨id,ops,dv,dC,rfl,km,ab,ad,ar,aJ,bO,cj⟩
       · cases h
     · cases h
   · cases h
 · cases h
theorem fW.next(ag:jc P call){p:List Nat}{st:ah}{R:bn->ah->Prop}{it a t:Nat}(hs:stepOf (sub (e3 fn) p)=some (it,a,t))(c9:hp fn.ntmps (sub (e3 fn) p)=true)(aK:Nat.testBit (dG fn) it=true)(Dy:Nat.testBit (dG fn) a=false)(S8:Nat.testBit (dG fn) t=true)
  {ll m since last clock:Nat}{seen:List Nat}{es:List dK}(ak:er it st.Γ=some (.ptr ll 0))(rN:st.h.get ll=some (.mapIter (some m) since seen last))(hm:st.h.get m=some (.map es clock))(hold:∀e∈es,e.born<since)(ja:since<=last)
  (tC:(∀e∈es,e.born∈seen)->R .nrm ⟨put t (.bool false) st.Γ,st.d,st.q,st.h⟩)
  (fE:∀e∈es,e.born∉seen->R .nrm ⟨put t (.bool true) st.Γ,st.d,st.q,st.h.set ll (some (.mapIter (some m) since (seen++[e.born]) clock))⟩):fW P fn rd p st R:=λr sJ=>by
 obtain⟨id,ops,dv,dC,S9,km,ab,ad,ar,aJ,bO,cj⟩:=S7 hs
 rw[S9] at c9⊢
 have EM:dt 0 [] r (cE P (dG fn) [] (.tmp it))=.ptr ll 0:=by
  simp only[cE,hX,aK,dt]
  exact sJ it _ ak
 have fin:∀(b:Bool) (vs:List I) (H:J),∃r',md (dG fn) r (kO P (dG fn) ops [dC] (g9 dv 0 []) 1) (h_ P (dG fn) rd.isSome call r (lM P (dG fn) ops [dC] (g9 dv 0 []) 1) [.aP (.bool b::vs)] st.d st.q H)=.ok .nrm r' st.d st.q H/\Mod r' (put t (.bool b) st.Γ):=by
  intro b vs H
  have h2:aliasOf dC=none:=by
   unfold aliasOf
   rw[aJ,bO,cj]
  have kZ:g9 dv 0 []=[(a,.env 0)]:=by
   unfold g9;rw[ar]
  have tu:jr P (dG fn) ops [(a,.env 0)] dC=none:=by unfold jr;rw[bO]
  have fi:cB P dC (λx=>dt 1 [.aP (.bool b::vs)] r (cE P (dG fn) [(a,.env 0)] x)) H=.val (.bool b) H:=by
   have aa:dt 1 [.aP (.bool b::vs)] r (cE P (dG fn) [(a,.env 0)] (.tmp a))=.aP (.bool b::vs):=by
    simp[cE,hX,dt,nth]
   simp only[cB,aJ,aa]
   rfl
  rw[kZ]
  have hr:kO P (dG fn) ops [dC] [(a,.env 0)] 1=g9 dC 1 [(a,.env 0)]:=by
   unfold kO;rw[h2];rfl
  have n3:lM P (dG fn) ops [dC] [(a,.env 0)] 1=[⟨none,dC,[(a,.env 0)],1⟩]:=by
   unfold lM;rw[h2,tu];rfl
  have S_:g9 dC 1 [(a,.env 0)]=[(t,.env 1),(a,.env 0)]:=by unfold g9;rw[cj]
  rw[hr,n3,S_]
  refine⟨oQ (dG fn) 2 [.bool b,.aP (.bool b::vs)] r [(t,.env 1),(a,.env 0)] r,?_,?_⟩
  · have aA:h_ P (dG fn) rd.isSome call r [⟨none,dC,[(a,.env 0)],1⟩] [.aP (.bool b::vs)] st.d st.q H=.ok [.bool b,.aP (.bool b::vs)] st.d st.q H:=by
      simp only[h_,dL,ep,fi]
    rw[aA]
    rfl
  · have Ak:=AK (need:=dG fn) (m:=2) (env:=[.bool b,.aP (.bool b::vs)]) sJ [(t,.env 1),(a,.env 0)] r st.Γ sJ
    have he:qi (dG fn) 2 [.bool b,.aP (.bool b::vs)] st.Γ [(t,.env 1),(a,.env 0)] st.Γ=put t (.bool b) st.Γ:=by
     simp only[qi,S8,Dy]
     rfl
    rw[he] at Ak
    exact Ak
 refine iF.next ag km ab ad c9 EM rN hm hold ja (λeg=>?_) λe he iz=>?_
 · obtain⟨r',bE,b0⟩:=fin false [] st.h
   exact⟨_,_,_,_,_,bE,_,b0,tC eg⟩
 · obtain⟨r',bE,b0⟩:=fin true [e.key,e.val] _
   exact⟨_,_,_,_,_,bE,_,b0,fE e he iz⟩
end
end aM
