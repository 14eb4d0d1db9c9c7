/-
  PROVED HERE: contracts of functions (Ax). No condition beside each statement's own.
-/
import Derived.Test.YtjkomfonmcmgdaaGreatDoorAed
import Derived.OpenShut
import Derived.ChangeSame
import Derived.Lay
import Derived.Laws.IdiomRangeMap
import Derived.Test.YtjkomfonmcmgdaaGreatDoorSxa
set_option linter.unusedVariables false
set_option linter.unusedSimpArgs false
namespace bg
open Go Go.RowKit
section
variable {P:Program}
end
open Go Go.ChangeShapes Go.WideShapes Go.ChangeAt Go.RowKit
section
variable {P:Program}
def ID(i1 i2:Nat->List ad->ab->Option (ad×ab))(f:Nat)(args:List ad)(h:ab):Option (ad×ab):=match i1 f args h with
 |some r=>some r
 |none=>i2 f args h
theorem X_{i1 i2:Nat->List ad->ab->Option (ad×ab)}(I:pN P i1)(ae:pN P i2):pN P (ID i1 i2):=by
 intro f args H v a6 aa
 unfold ID at aa
 split at aa
 · rename_i r ao
   cases aa
   exact I f args H v a6 ao
 · exact ae f args H v a6 aa
end
section
variable {P:Program}
end
section
variable {P:Program}
end
section
variable {P:Program}
end
section
variable {P:Program}
end
section
variable {P:Program}
end
section
variable {P:Program}
def kg(P:Program)(need b9:Nat)(rd:Option Nat)(c:Code)(r:ba)(d:List cb)(q:bU)(H:ab)(R:bW->ba->List cb->bU->ab->Prop):Prop:=
 ∀(b:Frame) (μ:bI) (w:World) (a:Act) (k:List Item) (cs0 cs:List Frame),oS μ b rd->j6 need μ r a.tmps->a.tmps.size=b9->bK μ H w->iA P μ->hs μ d a.defers->iO μ b.kind cs0 q cs->
  ∃e r' d' br a6,R e r' d' br a6/\mR P need b9 μ H w b k cs0 (lone (b.atR a (.code c::k)) cs w) (.ok e r' d' br a6)
variable {need b9:Nat} {rd:Option Nat} {r:ba} {d:List cb} {q:bU} {H:ab} {R R1 fq:bW->ba->List cb->bU->ab->Prop}
theorem kg.of_run{call:aW}(ah:kM P call)(hdr:∀need b9,oT P need b9 call){c:Code}(di:iM b9 c=true){e:bW}{r':ba}{d':List cb}{br:bU}{a6:ab}
  (h:et P need rd call c r d q H=.ok e r' d' br a6)(dV:R e r' d' br a6):kg P need b9 rd c r d q H R:=λb μ w a k cs0 cs c8 ao bJ au ar ai aK=>by
 have I:=qz ah (hdr need b9) (DN ah) rd c di b r d q H μ w a k cs0 cs c8 ao bJ au ar ai aK
 rw[h] at I
 exact⟨e,r',d',br,a6,dV,I⟩
theorem kg.mono{c:Code}(h:kg P need b9 rd c r d q H R1)(hm:∀e r' d' br a6,R1 e r' d' br a6->fq e r' d' br a6):kg P need b9 rd c r d q H fq:=λb μ w a k cs0 cs c8 ao bJ au ar ai aK=>by
 obtain⟨e,r',d',br,a6,I,ae⟩:=h b μ w a k cs0 cs c8 ao bJ au ar ai aK
 exact⟨e,r',d',br,a6,hm _ _ _ _ _ I,ae⟩
theorem kg.seq{x y:Code}(h:kg P need b9 rd x r d q H R1)(ae:∀r' d' br a6,R1 .nrm r' d' br a6->kg P need b9 rd y r' d' br a6 fq)(ax:∀e r' d' br a6,e≠ .nrm->R1 e r' d' br a6->fq e r' d' br a6):kg P need b9 rd (.seq x y) r d q H fq:=λb μ w a k cs0 cs c8 ao bJ au ar ai aK=>by
 obtain⟨e,r',d',br,a6,bG,b0⟩:=h b μ w a (.code y::k) cs0 cs c8 ao bJ au ar ai aK
 obtain⟨a9,w',cW,b5,s1,s2,b1,b_,cI,dz,ek⟩:=b0
 by_cases he:e=.nrm
 · subst he
   obtain⟨aE,r2,d2,a2,bh,a3,b7⟩:=ae _ _ _ _ bG b a9 w' cW k cs0 b5 (c8.mono cI.le) s2 b1 b_ (ar.mono cI.le) dz ek
   exact⟨aE,r2,d2,a2,bh,a3,b7.of_steps au b_ (Steps.head stepR_seq s1) cI⟩
 · exact⟨e,r',d',br,a6,ax _ _ _ _ _ he bG,a9,w',cW,b5,(s1.pass (λid h=>by cases h) he).of_steps (.one stepR_seq),s2,b1,b_,cI,dz,ek⟩
def Bt(id:Nat):bW->bW
 |.exit i=>if i=id then .nrm else .exit i
 |e=>e
theorem kg.block{id:Nat}{c:Code}(h:kg P need b9 rd c r d q H R1)(hm:∀e r' d' br a6,R1 e r' d' br a6->fq (Bt id e) r' d' br a6):kg P need b9 rd (.block id c) r d q H fq:=λb μ w a k cs0 cs c8 ao bJ au ar ai aK=>by
 obtain⟨e,r',d',br,a6,bG,b0⟩:=h b μ w a (.inBlock id::k) cs0 cs c8 ao bJ au ar ai aK
 refine⟨Bt id e,r',d',br,a6,hm _ _ _ _ _ bG,?_⟩
 obtain⟨a9,w',cW,b5,s1,s2,b1,b_,cI,dz,ek⟩:=b0
 cases e with
 |nrm=>exact⟨a9,w',cW,b5,Steps.head stepR_block (Steps.trans s1 (.one stepR_inBlock)),s2,b1,b_,cI,dz,ek⟩
 |exit i=>
  obtain⟨bq,aG,aE⟩:=s1
  by_cases jf:i=id
  · simp only[Bt,jf,if_true]
    subst jf
    have bH:exitTo i bq=some k:=by rw[aG];simp[exitTo]
    exact⟨a9,w',cW,b5,Steps.head stepR_block (Steps.trans aE (.one (stepR_exit bH))),s2,b1,b_,cI,dz,ek⟩
  · simp only[Bt,if_neg jf]
    have:(id==i)=false:=by simp;exactλh=>jf h.symm
    exact⟨a9,w',cW,b5,⟨bq,aG.trans (by simp[exitTo,this]),Steps.head stepR_block aE⟩,s2,b1,b_,cI,dz,ek⟩
 |ret=>obtain⟨bq,aE⟩:=s1;exact⟨a9,w',cW,b5,⟨bq,Steps.head stepR_block aE⟩,s2,b1,b_,cI,dz,ek⟩
 |goto l=>exact s1.elim
 |cw v=>obtain⟨bq,u,aG,aE⟩:=s1;exact⟨a9,w',cW,b5,⟨bq,u,aG,Steps.head stepR_block aE⟩,s2,b1,b_,cI,dz,ek⟩
def Ya(inv:Nat->ba->List cb->bU->ab->Prop)(n:Nat)(R:bW->ba->List cb->bU->ab->Prop):bW->ba->List cb->bU->ab->Prop:=λe r d q H=>(e=.nrm/\∃m,m<n/\inv m r d q H)\/(e≠ .nrm/\R e r d q H)
theorem kg.loop{c:Code}(inv:Nat->ba->List cb->bU->ab->Prop)(qp:∀n r d q H,inv n r d q H->kg P need b9 rd c r d q H (Ya inv n R))(rX:Nat)(h0:inv rX r d q H):kg P need b9 rd (.loop c) r d q H R:=λb μ w a k cs0 cs c8 ao bJ au ar ai aK=>by
 have key:∀(n m:Nat),m<n->∀(r:ba) (d:List cb) (q:bU) (H:ab) (μ:bI) (w:World) (a:Act) (cs:List Frame),inv m r d q H->oS μ b rd->j6 need μ r a.tmps->a.tmps.size=b9->bK μ H w->iA P μ->hs μ d a.defers->iO μ b.kind cs0 q cs->
   ∃e r' d' br a6,R e r' d' br a6/\mR P need b9 μ H w b k cs0 (lone (b.atR a (.code c::.inLoop c::k)) cs w) (.ok e r' d' br a6):=by
  intro n
  induction n with
  |zero=>intro m hm;omega
  |succ n bl=>
   intro m hm r d q H μ w a cs hi c8 ao bJ au ar ai aK
   obtain⟨e,r',d',br,a6,bG,a9,w',cW,b5,s1,s2,b1,b_,cI,dz,ek⟩:=qp m r d q H hi b μ w a (.inLoop c::k) cs0 cs c8 ao bJ au ar ai aK
   rcases bG with⟨rfl,lv,sA,fi⟩|⟨he,dV⟩
   · obtain⟨aE,r2,d2,a2,bh,a3,b7⟩:=bl lv (by omega) r' d' br a6 a9 w' cW b5 fi (c8.mono cI.le) s2 b1 b_ (ar.mono cI.le) dz ek
     exact⟨aE,r2,d2,a2,bh,a3,b7.of_steps au b_ (Steps.trans s1 (.one stepR_inLoop)) cI⟩
   · exact⟨e,r',d',br,a6,dV,a9,w',cW,b5,s1.pass (λid h=>by cases h) he,s2,b1,b_,cI,dz,ek⟩
 obtain⟨e,r',d',br,a6,bG,b0⟩:=key (rX+1) rX (by omega) r d q H μ w a cs h0 c8 ao bJ au ar ai aK
 exact⟨e,r',d',br,a6,bG,b0.of_steps au au (.one stepR_loop) (cA.refl _ _ _)⟩
theorem IE{μ:bI}:∀{es:List eH} {ms:List MapEntry},g0 μ es ms->∀m∈ms,∃e∈es,tU μ e m
 |[],_,h,m,hm=>by cases h;cases hm
 |e::es,_,⟨gj,ms,rfl,I,ae⟩,m,hm=>by
  rcases List.mem_cons.1 hm with rfl|hm
  · exact⟨e,by simp,I⟩
  · obtain⟨dc,ax,aN⟩:=IE ae m hm
    exact⟨dc,by simp[ax],aN⟩
theorem O9{μ:bI}:∀{es:List eH} {ms:List MapEntry},g0 μ es ms->∀e∈es,∃m∈ms,tU μ e m
 |[],_,h,m,hm=>by cases hm
 |e::es,_,⟨gj,ms,rfl,I,ae⟩,m,hm=>by
  rcases List.mem_cons.1 hm with rfl|hm
  · exact⟨gj,by simp,I⟩
  · obtain⟨dc,ax,aN⟩:=O9 ae m hm
    exact⟨dc,by simp[ax],aN⟩
theorem Yb{μ:bI}{w:World}(au:bK μ H w){t:TypeId}{lC m since last clock:Nat}{seen:List Nat}{es:List eH}{sI:Value}(hi:bz μ (.ptr lC 0) sI)
  (uS:H.get lC=some (.mapIter (some m) since seen last))(hm:H.get m=some (.map es clock))(hold:∀e∈es,e.born<since)(ks:since<=last):
  ((∀e∈es,e.born∈seen)/\fP P μ H w (Instr.next sI false t) (.aR [.bool false]) H)\/
  ∃e∈es,e.born∉seen/\fP P μ H w (Instr.next sI false t) (.aR [.bool true,e.key,e.val]) (H.set lC (some (.mapIter (some m) since (seen++[e.born]) clock))):=by
 obtain⟨i,jd,rfl⟩:=hi
 obtain⟨c6,j,aO,aG⟩:=au.rel _ _ i uS jd
 obtain⟨iz,i0,Ax⟩:=i
 simp only at c6;subst c6
 have x2:w.heap[iz]? =some (.mapIter (some j.bx) since ⟨seen⟩ last):=aG
 obtain⟨ents,f1,f2⟩:=au.rel _ _ j hm aO
 have h2:(getObj iz).run P w=.ok (.mapIter (some j.bx) since ⟨seen⟩ last) w:=by simp[getObj,Sem.run,x2]
 have Dx:(getObj j.bx).run P w=.ok (.map ⟨ents⟩ clock) w:=by simp[getObj,Sem.run,f1]
 have O_:∀x∈(⟨ents⟩:Array MapEntry).toList,x.born<since:=λx aa=>by
  obtain⟨e,he,ao⟩:=IE f2 x aa
  rw[<-ao.2.2];exact hold e he
 have Pa:=next_test_false ⟨seen⟩ ⟨ents⟩ since last O_ ks
 have je:∀x∈(Array.filter (λe=>!(⟨seen⟩:Array Nat).contains e.born) (⟨ents⟩:Array MapEntry)).toList,x.born<since:=λx aa=>O_ x (by simp at aa⊢;exact aa.1)
 have gp:∀x∈(Array.filter (λe=>!(⟨seen⟩:Array Nat).contains e.born) (⟨ents⟩:Array MapEntry)).toList,x∈ents/\x.born∉seen:=λx aa=>by
  simp at aa;exact aa
 have eL:(Array.filter (λe=>!(⟨seen⟩:Array Nat).contains e.born) (⟨ents⟩:Array MapEntry)).size=0->∀x∈ents,x.born∈seen:=λh0 x aa=>by
  by_cases al:x.born∈seen
  · exact al
  · exfalso
    have:x∈Array.filter (λe=>!(⟨seen⟩:Array Nat).contains e.born) (⟨ents⟩:Array MapEntry):=by simp;exact⟨aa,al⟩
    rw[Array.eq_empty_of_size_eq_zero h0] at this
    simp at this
 generalize hY:Array.filter (λe=>!(⟨seen⟩:Array Nat).contains e.born) (⟨ents⟩:Array MapEntry)=L at je gp eL
 have ak:L.filter (λx=>decide (x.born<since))=L:=Array.filter_eq_self.2 (λx aa=>by simpa using je x (by simpa using aa))
 have av:L.filter (λx=>decide (x.born>=since))=#[]:=by
  rw[Array.filter_eq_empty_iff]
  intro x aa
  have:=je x (by simpa using aa)
  simp
  omega
 by_cases h0:L.size=0
 · left
   refine⟨λe he=>?_,?_⟩
   · obtain⟨x,aa,ao⟩:=O9 f2 e he
     rw[ao.2.2];exact eL h0 x aa
   · refine .same au (v':=.tuple #[.bool false]) ?_ ⟨_,rfl,_,_,rfl,rfl,rfl⟩
     simp only[Instr.next,Sem.run_bind,h2,Dx,Result.andThen_ok,Pa,Bool.false_eq_true,if_false]
     rw[hY]
     simp only[ak,av,Array.append_empty]
     have:L=#[]:=Array.eq_empty_of_size_eq_zero h0
     subst this
     simp[choose,Sem.run,Question.forced]
 · right
   have dr:L.isEmpty=false:=by simp[Array.isEmpty,h0]
   have Pb:∃(s_:Nat) (df:World),s_<L.size/\df.heap=w.heap/\df.os=w.os/\df.output=w.output/\df.tape=w.tape/\w.drawn<=df.drawn/\(choose (Question.mapNext L.size)).run P w=.ok s_ df:=by
    by_cases hf:L.size<=1
    · exact⟨0,w,by omega,rfl,rfl,rfl,rfl,Nat.le_refl _,by simp[choose,Sem.run,Question.forced,hf]⟩
    · exact⟨_,w.drew,Nat.mod_lt _ (by omega),rfl,rfl,rfl,rfl,Nat.le_succ _,by
       simp only[choose,Sem.run,Question.forced,decide_eq_true_eq,hf,if_false,Question.cut]
       rfl⟩
   obtain⟨s_,df,Yc,cu,cU,dm,e0,ey,fB⟩:=Pb
   obtain⟨lf,lD⟩:=gp L[s_] (by simp)
   obtain⟨e,he,ao⟩:=IE f2 L[s_] lf
   refine⟨e,he,by rw[ao.2.2];exact lD,?_⟩
   have kr:=au.of_heap cu
   have GL:iz<df.heap.size:=by rw[cu];exact(au.lt _ _ jd).2
   obtain⟨r1,r2⟩:=kr.update (w':={df with heap:=df.heap.setIfInBounds iz (.mapIter (some j.bx) since ⟨seen++[e.born]⟩ clock)}) (o':=.mapIter (some m) since (seen++[e.born]) clock) uS rfl jd (by simp) (λr ao=>by simp[Array.getElem?_setIfInBounds];intro e;exact absurd e.symm ao) rfl rfl rfl
    ⟨rfl,j,aO,by simp[GL]⟩
   refine⟨μ,_,.tuple #[.bool true,L[s_].key,L[s_].val],?_,⟨_,rfl,_,_,rfl,rfl,_,_,rfl,ao.1,_,_,rfl,ao.2.1,rfl⟩,r1,cA.trans au kr (cA.of_heap cu cU dm e0 ey) r2⟩
   have Yd:df.heap[iz]? =some (.mapIter (some j.bx) since ⟨seen⟩ last):=by rw[cu];exact x2
   have md:(setObj iz (.mapIter (some j.bx) since ((⟨seen⟩:Array Nat).push L[s_].born) clock)).run P df=.ok () {df with heap:=df.heap.setIfInBounds iz (.mapIter (some j.bx) since ⟨seen++[e.born]⟩ clock)}:=by
    have:((⟨seen⟩:Array Nat).push L[s_].born)=⟨seen++[e.born]⟩:=by rw[ao.2.2];apply Array.ext';simp
    rw[this]
    simp[setObj,Sem.run,Yd]
   simp only[Instr.next,Sem.run_bind,h2,Dx,Result.andThen_ok,Pa,Bool.false_eq_true,if_false]
   rw[hY]
   simp only[ak,av,Array.append_empty,dr,Bool.false_eq_true,if_false,Array.empty_append,Array.size_map,fB,Result.andThen_ok,Array.getElem?_map,Array.getElem?_eq_getElem Yc,Option.map_some,Sem.run_bind,md]
   rfl
theorem kg.next{call:aW}(ah:kM P call){id:Nat}{ops:Array Oper}{o:Oper}{rest:List Oper}(bc:ops.toList=o::rest){it:Operand}(eM:o.op=.next it false)(hC:o.guard=none)(di:iM b9 (.region id ops false)=true)
  {lC m since last clock:Nat}{seen:List Nat}{es:List eH}(IF:ep 0 [] r (da P need [] it)=.ptr lC 0)(uS:H.get lC=some (.mapIter (some m) since seen last))(hm:H.get m=some (.map es clock))(hold:∀e∈es,e.born<since)(ks:since<=last)
  (wV:(∀e∈es,e.born∈seen)->∃dc r' d' br a6,oI need r (mQ P need ops rest (ix o 0 []) 1) (jI P need rd.isSome call r (nY P need ops rest (ix o 0 []) 1) [.aR [.bool false]] d q H)=.ok dc r' d' br a6/\R dc r' d' br a6)
  (gP:∀e∈es,e.born∉seen->∃dc r' d' br a6,oI need r (mQ P need ops rest (ix o 0 []) 1) (jI P need rd.isSome call r (nY P need ops rest (ix o 0 []) 1) [.aR [.bool true,e.key,e.val]] d q (H.set lC (some (.mapIter (some m) since (seen++[e.born]) clock))))=.ok dc r' d' br a6/\R dc r' d' br a6):
  kg P need b9 rd (.region id ops false) r d q H R:=λb μ w a k cs0 cs c8 ao bJ au ar ai aK=>by
 simp only[iM,Bool.and_eq_true,List.all_eq_true] at di
 have me:∀o∈ops.toList,∀t,o.dst=some t->t<b9:=λo bc t bm=>by
  have:=di.1 o bc
  rw[bm] at this
  simpa using this
 have Pc:=kN.init (P:=P) (need:=need) ao
 have gu:=Pc.eval (a:=a) ar it
 rw[IF] at gu
 have Pd:ops[0]? =some o:=by rw[<-Array.getElem?_toList,bc];rfl
 have je:o∈ops.toList:=by rw[bc];simp
 have DJ:∀t,o.dst=some t->t<a.tmps.size:=λt h=>by rw[bJ];exact me o je t h
 have Ye:ops.size=rest.length+1:=by
  have:=congrArg List.length bc
  simpa using this
 have Yf:List.range ops.size=0::List.range' 1 rest.length:=by rw[Ye,List.range_eq_range',List.range'_succ]
 have key:∀(v:ad) (H1:ab),fP P μ H w (Instr.next (a.eval it) false o.type) v H1->
   mR P need b9 μ H w b k cs0 (lone (b.atR a (.code (.region id ops false)::k)) cs w) (oI need r (mQ P need ops rest (ix o 0 []) 1) (jI P need rd.isSome call r (nY P need ops rest (ix o 0 []) 1) [v] d q H1)):=by
  intro v H1 aI
  obtain⟨a9,w',u,fB,hu,Hu,mf⟩:=aI
  have hw:Region.wanted o (yielded ops a.tmps)=true:=by simp[Region.wanted,hC]
  have cL:=stepGR_op (P:=P) (b:=b) (a:=a) (k:=k) (cs:=cs) (w:=w) (rest:=List.range' 1 rest.length) Pd hw
  have vY:o.semAt b.roundOf a.eval=execOp a.eval o:=Oper.semAt_eq _ _ _ λc e=>by rw[eM] at e;cases e
  rw[vY] at cL
  obtain⟨ak,_⟩:=DD cL
  have hex:(execOp a.eval o).run P w=.ok (.value u) w':=by
   have:execOp a.eval o=(do pure (.value (<-Instr.next (a.eval it) false o.type))):=by
    obtain⟨dst,op,type,pos,after,guard⟩:=o
    simp only at eM
    subst eM
    rfl
   rw[this]
   simp only[Sem.run_bind,fB,Result.andThen_ok]
   rfl
  have al:=ak u w' hex
  have oP:(b.atR a (.inRegion ops (0::List.range' 1 rest.length)::k)).finish u=b.atR (a.put o.dst u) (.inRegion ops (List.range' 1 rest.length)::k):=by
   rw[Frame.finish_atR,Pd];rfl
  rw[oP] at al
  have G3:=(Pc.mono mf.le).step (a:=a) (o:=o) DJ hu
  have pC:ops.toList.drop 1=rest:=by rw[bc];rfl
  have bl:=DI (P:=P) (need:=need) (k:=k) ah me (b:=b) (inR:=rd.isSome) c8.isSome (r:=r) (cs0:=cs0) rest 1 (ix o 0 []) 1 [v] d q a9 H1 w' (a.put o.dst u) cs pC rfl G3 ((AK _ _ _).trans bJ) Hu (ar.mono mf.le) (by rw[put_defers];exact ai.mono mf.le) (aK.mono mf.le)
  have ae:=qy.code bl
  refine mR.of_steps au Hu (Steps.trans (.one stepR_region) ?_) mf ae
  rw[Yf]
  exact al
 rcases Yb (P:=P) au (t:=o.type) gu uS hm hold ks with⟨eL,aI⟩|⟨e,he,ig,aI⟩
 · obtain⟨dc,r',d',br,a6,I,ae⟩:=wV eL
   have:=key _ _ aI
   rw[I] at this
   exact⟨dc,r',d',br,a6,ae,this⟩
 · obtain⟨dc,r',d',br,a6,I,ae⟩:=gP e he ig
   have:=key _ _ aI
   rw[I] at this
   exact⟨dc,r',d',br,a6,ae,this⟩
theorem bK.dropped{μ:bI}{w:World}{o9:ab}(au:bK μ H w)(aH:o9.n=H.n)(vL:∀b,o9.get b=H.get b\/o9.get b=none):bK μ o9 w:=by
 have up:∀b o,o9.get b=some o->H.get b=some o:=λb o h=>by
  rcases vL b with e|e
  · rw[<-e];exact h
  · rw[e] at h;cases h
 refine⟨λb o i ag hi=>au.rel b o i (up b o ag) hi,λb c i j ag ah hi aO uy=>?_,λb i hi=>by rw[aH];exact au.lt b i hi,λb ag=>?_⟩
 · obtain⟨o,I,ae⟩:=ah
   refine au.inj b c i j ?_ ⟨o,up c o I,ae⟩ hi aO uy
   cases aa:o9.get b with
   |none=>exact absurd aa ag
   |some o=>rw[up b o aa];exactλh=>by cases h
 · rw[aH] at ag
   rcases vL b with e|e
   · rw[e];exact au.bound b ag
   · exact e
theorem Yg{call:aW}(ah:kM P call)(hdr:∀need b9,oT P need b9 call)(eL:x6 P){f:FuncId}{fn:Func}{c:Code}(hf:P.funcs[f]? =some fn)(ag:fn.body=some c){args:List ad}(hle:args.length<=fn.ntmps){v:ad}{o9:ab}
  (h:kg P (ej fn) fn.ntmps none c (pz 0 args .leaf) [] .none H (λe r' d' br a6=>(e=.nrm\/e=.ret)/\d'=[]/\br=.none/\ss P (ej fn) fn r' a6=some v/\o9.n=a6.n/\∀b,o9.get b=a6.get b\/(o9.get b=none/\H.n<=b)))
  {μ:bI}{w:World}{vs:List Value}(au:bK μ H w)(ar:iA P μ)(aI:cG μ args vs):vV P f vs w (Ends μ H w (.ret v o9)):=by
 obtain⟨mg,lS⟩:=eL f fn c hf ag
 refine .inr ⟨DO hf ag lS _ _,λcs=>?_⟩
 have aK:iO μ .normal cs .none cs:=⟨rfl,λdj ay=>by simp[tryRecover,ay]⟩
 have hlen:=aI.length
 have G8:Frame.enter P f ⟨vs⟩ .normal=({(default:Frame) with fn:=f,kind:=.normal}:Frame).atR {tmps:=⟨vs⟩++Array.replicate (fn.ntmps-vs.length) undef,defers:=[]} [.code c]:=by
  simp[Frame.enter,Frame.atR,hf,ag]
  rfl
 obtain⟨e,r',d',br,a6,⟨he,Pe,rJ,jL,aH,vL⟩,a9,w',cW,b5,s1,s2,b1,b_,cI,dz,ek⟩:=h {(default:Frame) with fn:=f,kind:=.normal} μ w {tmps:=⟨vs⟩++Array.replicate (fn.ntmps-vs.length) undef,defers:=[]} [] cs cs rfl (Nj aI _) (by simp;omega) au ar rfl aK
 subst Pe rJ
 have gG:b5=cs:=ek.1
 subst gG
 rw[<-G8] at s1
 have hC:(kJ P call (ej fn) fn r' 100 none [] a6).mP=true:=by simp only[kJ,jL];rfl
 have gu:kJ P call (ej fn) fn r' 100 none [] a6=.ret v a6:=by simp only[kJ,jL]
 have main:∀(dj:Frame),dj.fn=f->dj.tmps=cW.tmps->dj.defers=cW.defers->dj.kind=.normal->oV a9 none dj.mode->Steps P (lone (Frame.enter P f ⟨vs⟩ .normal) b5 w) (lone dj b5 w')->
   ∃e db lu,Ends μ H w (.ret v o9) e db/\Comes P (lone (Frame.enter P f ⟨vs⟩ .normal) b5 w) (lone lu b5 db) e/\lu.fn=f/\lu.leaving P db e:=by
  intro dj I ae ax aN bS cz
  subst I
  obtain⟨aE,db,lu,r1,r2,e5,gh⟩:=DP ah hdr eL 100 none [] a6 a9 w' dj b5 hC b_ (ar.mono cI.le) (by rw[ae];exact s2) hf aN (by rw[ax];exact dz) bS
  rw[gu] at r1
  have AO:=Ends.trans au b_ cI r1
  refine⟨aE,db,lu,?_,Nm (cz.trans r2) (λe=>DG (r:=.ret v a6) rfl _ (e▸AO)),e5,gh⟩
  obtain⟨xU,u,rfl,t1,t2,t3⟩:=AO
  refine⟨xU,u,rfl,t1,t2.dropped aH (λb=>?_),?_⟩
  · rcases vL b with e|⟨e,_⟩
    · exact .inl e
    · exact .inr e
  · have low:∀b,b<H.n->o9.get b=a6.get b:=λb ag=>by
      rcases vL b with e|⟨_,e⟩
      · exact e
      · omega
    refine⟨t3.le,t3.size,by rw[aH];exact t3.n,λb ag aA=>t3.live b ag (by rw[<-low b ag];exact aA),λb ag hm=>(low b ag).trans (t3.idle b ag hm),t3.old,t3.new,λb o i s3 gn hi=>?_,t3.os,t3.out,t3.tape,t3.drawn⟩
    obtain⟨bF,cJ⟩:=t3.ro b o i s3 gn hi
    exact⟨(low b (au.lt b i hi).1).trans bF,cJ⟩
 rcases he with rfl|rfl
 · exact main {({(default:Frame) with fn:=f,kind:=.normal}:Frame).atR cW [] with mode:=.returning} rfl rfl rfl rfl rfl (Steps.trans s1 (.one (stepR_end rfl)))
 · obtain⟨bq,v3⟩:=s1
   exact main {({(default:Frame) with fn:=f,kind:=.normal}:Frame).atR cW (.code .ret::bq) with mode:=.returning} rfl rfl rfl rfl rfl (Steps.trans v3 (.one (stepR_ret rfl)))
end
section
variable {P:Program} {fn:Func} {rd:Option Nat} {call:aW}
def g5(P:Program)(fn:Func)(rd:Option Nat)(p:List Nat)(st:bL)(R:bW->bL->Prop):Prop:=
 ∀r,Mod r st.Γ->kg P (ej fn) fn.ntmps rd (sub (fD fn) p) r st.d st.q st.h (λe r' d' br aw=>∃cD,Mod r' cD/\R e ⟨cD,d',br,aw⟩)
theorem g5.of_run(ah:kM P call)(hdr:∀need b9,oT P need b9 call){p:List Nat}{st cg:bL}{e:bW}(di:iM fn.ntmps (sub (fD fn) p)=true)(h:a5 P fn rd call p st e cg){R:bW->bL->Prop}(dV:R e cg):g5 P fn rd p st R:=λr ao=>by
 obtain⟨r',I,ae⟩:=h r ao
 exact kg.of_run ah hdr di I ⟨cg.Γ,ae,dV⟩
theorem g5.seq{p:List Nat}{st:bL}{R1 fq:bW->bL->Prop}(al:rO (sub (fD fn) p)=true)(I:g5 P fn rd (p++[0]) st R1)(ae:∀cg,R1 .nrm cg->g5 P fn rd (p++[1]) cg fq)(ax:∀e cg,e≠ .nrm->R1 e cg->fq e cg):g5 P fn rd p st fq:=λr ao=>by
 rw[En al]
 have ij:=I r ao
 rw[kR] at ij
 refine ij.seq (λr' d' br a6 ⟨cD,m,dV⟩=>?_) λe r' d' br a6 he ⟨cD,m,dV⟩=>⟨cD,m,ax e _ he dV⟩
 have:=ae _ dV r' m
 rw[kR] at this
 exact this
theorem g5.block{p:List Nat}{id:Nat}{st:bL}{R1 fq:bW->bL->Prop}(al:yq id (sub (fD fn) p)=true)(I:g5 P fn rd (p++[0]) st R1)(ae:∀e cg,R1 e cg->fq (Bt id e) cg):g5 P fn rd p st fq:=λr ao=>by
 rw[Eo al]
 have ij:=I r ao
 rw[kR] at ij
 exact ij.block λe r' d' br a6 ⟨cD,m,dV⟩=>⟨cD,m,ae e _ dV⟩
def IG(inv:Nat->bL->Prop)(n:Nat)(R:bW->bL->Prop):bW->bL->Prop:=λe st=>(e=.nrm/\∃m,m<n/\inv m st)\/(e≠ .nrm/\R e st)
theorem g5.loop{p:List Nat}(inv:Nat->bL->Prop){R:bW->bL->Prop}(al:yr (sub (fD fn) p)=true)(qp:∀n st,inv n st->g5 P fn rd (p++[0]) st (IG inv n R))(rX:Nat){st:bL}(h0:inv rX st):g5 P fn rd p st R:=λr ao=>by
 rw[Ou al]
 refine kg.loop (λn r d q H=>∃Γ,Mod r Γ/\inv n ⟨Γ,d,q,H⟩) (λn r d q H ⟨Γ,m,hi⟩=>?_) rX ⟨st.Γ,ao,h0⟩
 have I:=qp n ⟨Γ,d,q,H⟩ hi r m
 rw[kR] at I
 refine I.mono λe r' d' br a6 ⟨cD,lv,dV⟩=>?_
 rcases dV with⟨rfl,k,ay,fi⟩|⟨he,dV⟩
 · exact .inl ⟨rfl,k,ay,cD,lv,fi⟩
 · exact .inr ⟨he,cD,lv,dV⟩
theorem g5.pre{p:List Nat}{st st1:bL}{R:bW->bL->Prop}(h:g5 P fn rd p st R)(al:bY st.Γ st1.Γ)(ai:st1.d=st.d)(aK:st1.q=st.q)(au:st1.h=st.h):g5 P fn rd p st1 R:=λr ao=>by
 have:=h r (ao.sub al)
 rw[ai,aK,au]
 exact this
def stepOf:Code->Option (Nat×Nat×Nat)
 |.region _ ops false=>match ops.toList with
  |[dy,ed]=>match dy.op,dy.guard,dy.dst,ed.op,ed.guard,ed.dst with
   |.next (.tmp it) false,none,some a,.extract (.tmp b) 0,none,some c=>match Nat.beq a b with
    |true=>some (it,a,c)
    |false=>none
   |_,_,_,_,_,_=>none
  |_=>none
 |_=>none
theorem Yh{c:Code}{it a t:Nat}(h:stepOf c=some (it,a,t)):∃id ops dy ed,c=.region id ops false/\ops.toList=[dy,ed]/\dy.op=.next (.tmp it) false/\dy.guard=none/\dy.dst=some a/\ed.op=.extract (.tmp a) 0/\ed.guard=none/\ed.dst=some t:=by
 unfold stepOf at h
 split at h
 · rename_i id ops
   split at h
   · rename_i dy ed me
     split at h
     · rename_i ajH cW hP c' I ae ax aN bS cz
       split at h
       · rename_i fC
         have:=Nat.eq_of_beq_eq_true fC
         subst this
         cases h
         exact⟨id,ops,dy,ed,rfl,me,I,ae,ax,aN,bS,cz⟩
       · cases h
     · cases h
   · cases h
 · cases h
theorem g5.next(ah:kM P call){p:List Nat}{st:bL}{R:bW->bL->Prop}{it a t:Nat}(al:stepOf (sub (fD fn) p)=some (it,a,t))(di:iM fn.ntmps (sub (fD fn) p)=true)(aH:Nat.testBit (ej fn) it=true)(Hn:Nat.testBit (ej fn) a=false)(Yi:Nat.testBit (ej fn) t=true)
  {lC m since last clock:Nat}{seen:List Nat}{es:List eH}(ao:eo it st.Γ=some (.ptr lC 0))(uS:st.h.get lC=some (.mapIter (some m) since seen last))(hm:st.h.get m=some (.map es clock))(hold:∀e∈es,e.born<since)(ks:since<=last)
  (wV:(∀e∈es,e.born∈seen)->R .nrm ⟨put t (.bool false) st.Γ,st.d,st.q,st.h⟩)
  (gP:∀e∈es,e.born∉seen->R .nrm ⟨put t (.bool true) st.Γ,st.d,st.q,st.h.set lC (some (.mapIter (some m) since (seen++[e.born]) clock))⟩):g5 P fn rd p st R:=λr vQ=>by
 obtain⟨id,ops,dy,ed,Yj,me,I,ae,ax,aN,bS,cz⟩:=Yh al
 rw[Yj] at di⊢
 have IF:ep 0 [] r (da P (ej fn) [] (.tmp it))=.ptr lC 0:=by
  simp only[da,jx,aH,ep]
  exact vQ it _ ao
 have fin:∀(b:Bool) (vs:List ad) (H:ab),∃r',oI (ej fn) r (mQ P (ej fn) ops [ed] (ix dy 0 []) 1) (jI P (ej fn) rd.isSome call r (nY P (ej fn) ops [ed] (ix dy 0 []) 1) [.aR (.bool b::vs)] st.d st.q H)=.ok .nrm r' st.d st.q H/\Mod r' (put t (.bool b) st.Γ):=by
  intro b vs H
  have g1:aliasOf ed=none:=by
   unfold aliasOf
   rw[aN,bS,cz]
  have mm:ix dy 0 []=[(a,.env 0)]:=by
   unfold ix;rw[ax]
  have wO:k6 P (ej fn) ops [(a,.env 0)] ed=none:=by unfold k6;rw[bS]
  have gu:c7 P ed (λx=>ep 1 [.aR (.bool b::vs)] r (da P (ej fn) [(a,.env 0)] x)) H=.val (.bool b) H:=by
   have aa:ep 1 [.aR (.bool b::vs)] r (da P (ej fn) [(a,.env 0)] (.tmp a))=.aR (.bool b::vs):=by
    simp[da,jx,ep,nth]
   simp only[c7,aN,aa]
   rfl
  rw[mm]
  have hV:mQ P (ej fn) ops [ed] [(a,.env 0)] 1=ix ed 1 [(a,.env 0)]:=by
   unfold mQ;rw[g1];rfl
  have qA:nY P (ej fn) ops [ed] [(a,.env 0)] 1=[⟨none,ed,[(a,.env 0)],1⟩]:=by
   unfold nY;rw[g1,wO];rfl
  have Yk:ix ed 1 [(a,.env 0)]=[(t,.env 1),(a,.env 0)]:=by unfold ix;rw[cz]
  rw[hV,qA,Yk]
  refine⟨rr (ej fn) 2 [.bool b,.aR (.bool b::vs)] r [(t,.env 1),(a,.env 0)] r,?_,?_⟩
  · have aG:jI P (ej fn) rd.isSome call r [⟨none,ed,[(a,.env 0)],1⟩] [.aR (.bool b::vs)] st.d st.q H=.ok [.bool b,.aR (.bool b::vs)] st.d st.q H:=by
      simp only[jI,eI,fg,gu]
    rw[aG]
    rfl
  · have AU:=Ei (need:=ej fn) (m:=2) (env:=[.bool b,.aR (.bool b::vs)]) vQ [(t,.env 1),(a,.env 0)] r st.Γ vQ
    have he:sX (ej fn) 2 [.bool b,.aR (.bool b::vs)] st.Γ [(t,.env 1),(a,.env 0)] st.Γ=put t (.bool b) st.Γ:=by
     simp only[sX,Yi,Hn]
     rfl
    rw[he] at AU
    exact AU
 refine kg.next ah me I ae di IF uS hm hold ks (λeL=>?_) λe he ig=>?_
 · obtain⟨r',bG,b0⟩:=fin false [] st.h
   exact⟨_,_,_,_,_,bG,_,b0,wV eL⟩
 · obtain⟨r',bG,b0⟩:=fin true [e.key,e.val] _
   exact⟨_,_,_,_,_,bG,_,b0,gP e he ig⟩
end
end bg
