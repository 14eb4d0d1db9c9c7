/-
  PROVED HERE: contracts of functions (Dk). No condition beside each statement's own.
-/
import Derived.Test.YtjkomfonmcmgdaaGreatDoorDj
set_option linter.unusedVariables false
set_option linter.unusedSimpArgs false
set_option maxRecDepth 100000
set_option maxHeartbeats 1000000
namespace Go.Proofs.kU
open Go bg Go.Proofs ir Go.Proofs.kh
variable {Q:bW->bL->Prop} {R:bE->Prop} (call:aW)
theorem afj(m p:Nat)(h:ab)(H:bp an Tryz.f22 (Y m) [1,1,0] (aj [(1,af h.n),(2,.fn 40 [] [af h.n])] (ab.push h (aQ [af p] 23))) (λb2 cc=>((∃ak bt,b2=.exit 0/\cc=aj bt ak/\bY [] bt/\R (.ret (.aR []) ak))\/(∃av bw,b2=.ret/\cc=aj bw av/\bY [] bw/\R (.ret (.aR []) av))))):
  R (Y (m+1) (.fn 22) [af p] h):=
 dB [(4000,.fj [1,2] [(.exit 0,[]),(.ret,[])])] [] Tryz.func22 H
theorem afk(c a3 b7:Nat)(h:ab)(H:∃aB,aq (h.room 10) c 0=some (af aB)/\aq (h.room 10) aB 3=some (.map a3)/\∃aY,bV an (h.room 10) 55 (.map a3)=some (J aY)/\∃bd,aq (h.room 10) c 0=some (af bd)/\∃bj,aq (h.room 10) bd 0=some (J bj)/\(bj<aY->∃bC ak,call (.fn 40) [af c] (h.room 10)=.ret (aC bC) ak/\(bC=0->Q .ret (aj [(1,af c),(2,.fn 40 [] [af c])] ak))/\(¬bC=0->∃bP,aq ak c 0=some (af bP)/\aq ak bP 3=some (.map a3)/\∃cd,ho an ak 55 (.map a3) (aC bC) false=some (af cd)/\∃cR,aq ak c 0=some (af cR)/\∃av,call (.fn 41) [af cR,af cd,.int .i64 (.negSucc 0)] ak=.ret (.aR []) av/\∃dD,aq (av.room 9) c 0=some (af dD)/\aq (av.room 9) dD 4=some (.map b7)/\∃dX s1 s2 b1 eE,bg.loadCells (av.room 9) cd 0 5=some [J dX,.str s1,.str s2,.str b1,aC eE]/\∃aD,rp an (av.room 9) 56 (.map b7) (.agg [J dX,.str s1,.str s2,.str b1,aC eE])=some (.aR [],aD)/\∃e9,aq aD c 0=some (af e9)/\aq aD e9 3=some (.map a3)/\∃a4,rp an aD 55 (.map a3) (aC bC)=some (.aR [],a4)/\Q .nrm (aj [(1,af c),(2,.fn 40 [] [af c])] a4)))/\(¬bj<aY->Q (.exit 0) (aj [(1,af c),(2,.fn 40 [] [af c])] (h.room 10)))):
  bp an Tryz.f22 call [1,1,0,0] (aj [(1,af c),(2,.fn 40 [] [af c])] h) Q:=
 c3 [(9,.a1 (.is (.map a3))),(23,.a1 (.is (.map a3))),(32,.a1 (.is (.map b7))),(40,.a1 (.is (.map a3))),(25,.a1 .p)] [1,2] [] H
structure zC(l:List b3)(M:List Mem):Prop where
 e:M.map Mem.e=l
 ai:∀x∈M,x.ai=Int.ofNat (fk x.e.id l)
def pt(l:List b3)(x:Mem):eO:=⟨x.e.id,x.b,x.e.pins,fk x.e.id l,x.e.used,x.dy⟩
theorem Sb{h:ab}{f:Mem->eO}:∀{M:List Mem},(∀x∈M,uT h (iY x)=some (f x))->wX h (M.map iY)=some (M.map f)
 |[],_=>rfl
 |x::M,aa=>by
  rw[List.map_cons,wX,aa x (List.mem_cons_self ..),Sb λy aZ=>aa y (List.mem_cons_of_mem _ aZ)];rfl
theorem FF:∀{l:List Nat},l.Pairwise (· ≠ ·)->oe l=true
 |[],_=>rfl
 |a::l,h=>by
  rw[List.pairwise_cons] at h
  have:(l.any λx=>Nat.beq a x)=false:=List.any_eq_false.2 λx aa=>by
   intro e
   exact h.1 x aa (Nat.eq_of_beq_eq_true e)
  rw[oe,this]
  exact FF h.2
theorem FG{l:List b3}{x:Mem}:(pt l x).loose=lJ l x.e:=rfl
def FH:Option b3->Nat
 |none=>0
 |some e=>e.id
theorem afl{s:bZ}(al:eg s){M:List Mem}(ao:zC s.l M):IH (pX (M.map (pt s.l)))=FH (jD s.l s.l):=by
 cases ag:jD s.l s.l with
 |none=>
  have aH:=zg.1 ag
  cases hm:pX (M.map (pt s.l)) with
  |none=>rfl
  |some d=>
   obtain⟨I,ae,_⟩:=Bv hm
   obtain⟨x,aa,rfl⟩:=List.mem_map.1 I
   have lE:x.e∈s.l:=by rw[<-ao.e];exact List.mem_map.2 ⟨x,aa,rfl⟩
   rw[FG,aH _ lE] at ae;cases ae
 |some e=>
  obtain⟨bn,bo,c9⟩:=vd ag
  obtain⟨y,aZ,Ks⟩:=List.mem_map.1 (ao.e▸bn:e∈M.map Mem.e)
  cases hm:pX (M.map (pt s.l)) with
  |none=>
   have:=EN hm (pt s.l y) (List.mem_map.2 ⟨y,aZ,rfl⟩)
   rw[FG,Ks,bo] at this;cases this
  |some d=>
   obtain⟨I,ae,ax⟩:=Bv hm
   obtain⟨x,aa,rfl⟩:=List.mem_map.1 I
   have lE:x.e∈s.l:=by rw[<-ao.e];exact List.mem_map.2 ⟨x,aa,rfl⟩
   have bt:=ax (pt s.l y) (List.mem_map.2 ⟨y,aZ,rfl⟩) (by rw[FG,Ks];exact bo)
   have bw:=c9 x.e lE (by rw[<-FG];exact ae)
   have afm:x.e.used<=y.e.used:=bt
   rw[Ks] at afm
   show x.e.id=e.id
   exact al.one _ lE _ bn (by omega)
theorem afn(m:Nat){G:Nat->Prop}{h:ab}{p a3 b7 aM bf c:Nat}{s:bZ}{M:List Mem}(w:ha G h p a3 b7 aM bf s.cap s.given s.clock M)(ao:zC s.l M)(al:eg s)(ah:aq h c 0=some (.ptr p 0))(qu:c<h.n):Y (m+1) (.fn 40) [.ptr c 0] h=.ret (aC (FH (jD s.l s.l))) (h.room (1+32*M.length)):=by
 obtain⟨bt,bw,dL,h8⟩:=w.lo
 have afo:wX h (M.map iY)=some (M.map (pt s.l)):=Sb λx aa=>by
  have he:=w.ev x aa
  have au:=ao.ai x aa
  have s9:aq h x.b 7=some (J x.e.pins):=aF he rfl
  have m0:aq h x.b 8=some (.int .i64 (Int.ofNat (fk x.e.id s.l))):=by rw[<-au];exact aF he rfl
  have Bq:aq h x.b 9=some (aC x.e.used):=aF he rfl
  unfold uT iY
  simp only[s9,m0,Bq];rfl
 have d1:oe ((M.map (pt s.l)).map eO.born)=true:=by
  rw[List.map_map]
  exact FF (List.pairwise_map.2 (w.dy.imp λ{a b} fC=>fC))
 have d2:oe ((M.map (pt s.l)).map eO.id)=true:=by
  rw[List.map_map]
  exact FF (List.pairwise_map.2 (w.up.imp λ{a b} fC=>by show a.e.id≠b.e.id;omega))
 have d3:oe (((M.map (pt s.l)).filter eO.loose).map eO.used)=true:=by
  refine FF (List.pairwise_map.2 (List.Pairwise.filter _ (List.pairwise_map.2 ?_)))
  have Ct:M.Pairwise λa b=>a.e∈s.l/\b.e∈s.l/\a.e.id<b.e.id:=by
   have je:∀x∈M,x.e∈s.l:=λx aa=>by rw[<-ao.e];exact List.mem_map.2 ⟨x,aa,rfl⟩
   exact(List.Pairwise.and_mem.1 w.up).imp λ{a b} ⟨aV,ag,fC⟩=>⟨je a aV,je b ag,fC⟩
  refine Ct.imp λ{a b} fC e=>?_
  have:=al.one _ fC.1 _ fC.2.1 e
  omega
 have d4:((M.map (pt s.l)).all λd=>Nat.blt d.born aM&&Nat.blt 0 d.id)=true:=List.all_eq_true.2 λd ai=>by
  obtain⟨x,aa,rfl⟩:=List.mem_map.1 ai
  rw[Bool.and_eq_true,Nat.blt_eq,Nat.blt_eq]
  exact⟨(w.hc x aa).1,w.xl x aa⟩
 have d5:((M.map (pt s.l)).all λd=>Nat.blt d.b h.n)=true:=List.all_eq_true.2 λd ai=>by
  obtain⟨x,aa,rfl⟩:=List.mem_map.1 ai
  rw[Nat.blt_eq];exact h8 x aa
 have bn:Nat.blt c h.n=true:=by rw[Nat.blt_eq];exact qu
 have bo:Nat.blt p h.n=true:=by rw[Nat.blt_eq];exact bt
 have c9:Nat.blt a3 h.n=true:=by rw[Nat.blt_eq];exact bw
 have cL:aq h p 3=some (.map a3):=aF w.st rfl
 have e:yO 40 [.ptr c 0] h=some (aC (FH (jD s.l s.l)),h.room (1+32*M.length)):=by
  have ag:Nat.beq 40 40=true:=rfl
  have di:wY (M.map (pt s.l)) aM=true:=by unfold wY;rw[d1,d2,d3,d4];rfl
  unfold yO
  simp only[ag,ah,cL,w.aG,afo,di,bn,bo,c9,d5,afl al ao,List.length_map];rfl
 have dc:ea 40 [.ptr c 0] h=some (aC (FH (jD s.l s.l)),h.room (1+32*M.length)):=e
 show fF an ea (m+1) _ _ _=_
 simp only[fF,dc]
theorem afp{i:Nat}{l:List b3}{x:Nat}(h:∀e∈l,e.id≠x):hH x l=l:=by
 unfold hH
 refine List.filter_eq_self.2 λe he=>?_
 cases ag:Nat.beq e.id x with
 |false=>rfl
 |true=>exact absurd (Nat.eq_of_beq_eq_true ag) (h e he)
theorem drop_cons{e:b3}{l:List b3}(x:Nat):hH x (e::l)=if e.id=x then hH x l else e::hH x l:=by
 unfold hH
 rw[List.filter_cons]
 by_cases h:e.id=x
 · rw[if_pos h,h,Nat.beq_refl];rfl
 · rw[if_neg h]
   cases ag:Nat.beq e.id x with
   |false=>rfl
   |true=>exact absurd (Nat.eq_of_beq_eq_true ag) h
theorem Sc{l:List b3}(a0:l.Pairwise (λa b=>a.id<b.id)){x:b3}(aa:x∈l)(i:Nat):fk i l=x.parts.count i+fk i (hH x.id l)/\(hH x.id l).length+1=l.length:=by
 induction l with
 |nil=>cases aa
 |cons e l bl=>
  rw[List.pairwise_cons] at a0
  rw[drop_cons]
  rcases List.mem_cons.1 aa with rfl|aa
  · have:=afp (i:=0) (l:=l) (x:=x.id) λe he=>by have:=a0.1 e he;omega
    rw[if_pos rfl,this]
    exact⟨by rw[fk],rfl⟩
  · have dr:¬e.id=x.id:=by have:=a0.1 x aa;omega
    obtain⟨I,ae⟩:=bl a0.2 aa
    rw[if_neg dr,fk,fk,List.length_cons,List.length_cons]
    exact⟨by omega,by omega⟩
theorem ha.del{G:Nat->Prop}{h:ab}{p a3 b7 aM bf cap given clock:Nat}{M:List Mem}(w:ha G h p a3 b7 aM bf cap given clock M)(q:Mem->Bool):ha G ((h.set b7 (some (.map ((M.filter q).map kG) bf))).set a3 (some (.map ((M.filter q).map iY) aM))) p a3 b7 aM bf cap given clock (M.filter q):=by
 have sub:∀x∈M.filter q,x∈M:=λx aa=>(List.mem_filter.1 aa).1
 have pb:p≠a3:=λe=>by have:=w.st;rw[e,w.aG] at this;cases this
 have oq:p≠b7:=λe=>by have:=w.st;rw[e,w.aE] at this;cases this
 have lf:∀x∈M,x.b≠a3:=λx aa e=>by have:=w.ev x aa;rw[e,w.aG] at this;cases this
 have lD:∀x∈M,x.b≠b7:=λx aa e=>by have:=w.ev x aa;rw[e,w.aE] at this;cases this
 have row:∀{D:Type} {enc:D->List ad} {wd el:Nat} {v:ad} {ds:List D},bT enc wd el 0 h v ds->bT enc wd el 0 ((h.set b7 (some (.map ((M.filter q).map kG) bf))).set a3 (some (.map ((M.filter q).map iY) aM))) v ds:=by
  intro D enc wd el v ds bc
  rcases bc with bc|⟨r,r1,r2,e5,gh,ov⟩
  · exact .inl bc
  · refine .inr ⟨r,r1,r2,cX (λe=>?_) (cX (λe=>?_) e5),gh,by simpa using ov⟩
    · rw[e,w.aG] at e5;cases e5
    · rw[e,w.aE] at e5;cases e5
 exact⟨cX pb (cX oq w.st),eK rfl,cX (λe=>w.ln e.symm) (eK rfl),λx aa=>cX (lf x (sub x aa)) (cX (lD x (sub x aa)) (w.ev x (sub x aa))),λx aa=>row (w.ns x (sub x aa)),λx aa=>row (w.az x (sub x aa)),w.bs.filter _,w.dy.filter _,λx aa=>w.hc x (sub x aa),w.up.filter _,λx aa=>w.xl x (sub x aa),w.ln,⟨w.lo.1,w.lo.2.1,w.lo.2.2.1,λx aa=>w.lo.2.2.2 x (sub x aa)⟩,w.nA,λx aa=>w.ne x (sub x aa),λx aa=>w.zz x (sub x aa),λx aa=>w.zA x (sub x aa)⟩
structure se(s:bZ):Prop where
 args:∀e∈s.l,e.args.length<=61
 nm:∀e∈s.l,k2 e.ns
 kB:s.given<=10000
 qa:s.clock<=10000
theorem Sd{i:Nat}:∀{l:List b3},(∀e∈l,e.args.length<=61)->fk i l<=62*l.length
 |[],_=>by rw[fk];exact Nat.zero_le _
 |e::l,h=>by
  have I:=Sd (i:=i) (l:=l) λx aa=>h x (List.mem_cons_of_mem _ aa)
  have ae:=h e (List.mem_cons_self ..)
  have ax:=List.count_le_length (a:=i) (l:=e.parts)
  have aN:e.parts.length=e.args.length+1:=rfl
  rw[fk,List.length_cons];omega
theorem Se:∀{l:List b3} {g:Nat},l.Pairwise (λa b=>a.id<b.id)->(∀e∈l,0<e.id/\e.id<=g)->l.length<=g
 |[],_,_,_=>Nat.zero_le _
 |e::l,g,a0,ar=>by
  rw[List.pairwise_cons] at a0
  have key:∀(l:List b3) (a:Nat),l.Pairwise (λa b=>a.id<b.id)->(∀e∈l,a<e.id/\e.id<=g)->l.length+a<=g\/l=[]:=by
   intro l
   induction l with
   |nil=>intro _ _ _;exact .inr rfl
   |cons x l bl=>
    intro a a0 ar
    rw[List.pairwise_cons] at a0
    have aa:=ar x (List.mem_cons_self ..)
    rcases bl x.id a0.2 (λe he=>⟨a0.1 e he,(ar e (List.mem_cons_of_mem _ he)).2⟩) with h|h
    · left;rw[List.length_cons];omega
    · left;rw[h];simp;omega
  have:=key (e::l) 0 (List.pairwise_cons.2 a0) ar
  rcases this with h|h
  · omega
  · cases h
theorem Sf{s:bZ}(al:eg s)(ag:se s)(i:Nat):fk i s.l<=620000:=by
 have I:=Sd (i:=i) ag.args
 have ae:=Se al.up λe he=>⟨(al.lo e he).1,(al.lo e he).2.1⟩
 have:=ag.kB
 omega
def gK(F:Nat->Prop)(h:ab)(p:Nat)(s:bZ):Prop:=∃a3 b7 aM bf M,ha F h p a3 b7 aM bf s.cap s.given s.clock M/\zC s.l M
theorem afq(x:Mem):iK x.e.k x.e.nm (hl x.e.ns) (fs x.e.args) x.e.ret x=true:=by simp[iK]
theorem se.drop{s:bZ}(h:se s)(i:Nat):se {s with l:=hH i s.l}:=⟨λe he=>h.args e (oz.1 he).1,λe he=>h.nm e (oz.1 he).1,h.kB,h.qa⟩
theorem Kt{s:bZ}(al:eg s)(ag:se s){e:b3}(he:e∈s.l):∀i∈e.args,i<18446744073709551616:=λi hi=>by
 have I:=ag.kB
 have ae:=(al.lo e he).2.1
 rcases al.part e he i (List.mem_cons_of_mem _ hi) with h|⟨h,_⟩<;>omega
theorem afr{s:bZ}(al:eg s)(ag:se s){M:List Mem}(gB:M.map Mem.e=s.l){x y:Mem}(aa:x∈M)(aZ:y∈M):iK x.e.k x.e.nm (hl x.e.ns) (fs x.e.args) x.e.ret y=l6 x.e.id y:=by
 have lE:x.e∈s.l:=by rw[<-gB];exact List.mem_map.2 ⟨x,aa,rfl⟩
 have Cm:y.e∈s.l:=by rw[<-gB];exact List.mem_map.2 ⟨y,aZ,rfl⟩
 rw[RZ (ag.nm _ Cm) (ag.nm _ lE) (Kt al ag Cm) (Kt al ag lE)]
 unfold l6
 have key:∀(l:List b3),l.Pairwise (λa b=>b.is a.k a.nm a.ns a.args a.ret=false)->l.Pairwise (λa b=>a.id<b.id)->∀a∈l,∀b∈l,b.is a.k a.nm a.ns a.args a.ret=decide (b.id=a.id):=by
  intro l
  induction l with
  |nil=>intro _ _ a aV;cases aV
  |cons e l bl=>
   intro I ae a aV b ag
   rw[List.pairwise_cons] at I ae
   have self:∀e:b3,e.is e.k e.nm e.ns e.args e.ret=true:=λe=>sa.2 ⟨rfl,rfl,rfl,rfl,rfl⟩
   rcases List.mem_cons.1 aV with aV|aV<;>rcases List.mem_cons.1 ag with ag|ag
   · rw[aV,ag,self,decide_eq_true rfl]
   · rw[aV,I.1 b ag,decide_eq_false];have:=ae.1 b ag;omega
   · rw[ag,Q0,I.1 a aV,decide_eq_false];have:=ae.1 a aV;omega
   · exact bl I.2 ae.2 a aV b ag
 exact key s.l al.apart al.up _ lE _ Cm
theorem Sg(z:Int)(l:List Nat)(M:List Mem):(M.map (bump z l)).map Mem.e=M.map Mem.e:=by
 rw[List.map_map];rfl
theorem afs(i:Nat)(M:List Mem):(M.filter λz=>!l6 i z).map Mem.e=hH i (M.map Mem.e):=by
 unfold hH
 rw[List.filter_map]
 congr 1
 refine List.filter_congr λz a7=>?_
 show(!l6 i z)=!Nat.beq z.e.id i
 unfold l6
 congr 1
 cases xo:Nat.beq z.e.id i with
 |true=>exact decide_eq_true (Nat.eq_of_beq_eq_true xo)
 |false=>exact decide_eq_false λe=>by rw[e,Nat.beq_refl] at xo;cases xo
theorem Sh(m:Nat){F:Nat->Prop}{h:ab}{p:Nat}{s:bZ}(w:gK F h p s)(al:eg s)(ag:se s):∃g,Y (m+2) (.fn 22) [.ptr p 0] h=.ret (.aR []) g/\gK F g p (oy s)/\cj F h g:=by
 obtain⟨a3,b7,aM,bf,Si,h3,gE⟩:=w
 obtain⟨bt,bw,dL,h8⟩:=h3.lo
 obtain⟨H,cy⟩:∃H,H=h.push (aQ [.ptr p 0] 23):=⟨_,rfl⟩
 have dY:Ext h.n h H:=by rw[cy];exact Ext.push (Nat.le_refl _) _
 have lj:H.n=h.n+1:=by rw[cy];rfl
 obtain⟨G,fR⟩:∃G:Nat->Prop,G=λd=>F d\/d=h.n:=⟨_,rfl⟩
 have aft:ha G H p a3 b7 aM bf s.cap s.given s.clock Si:=h3.move dY.n (λd ai _ _=>dY.get d ai) λd ai ar=>by
  rw[fR] at ar
  rcases ar with ar|ar
  · exact .inl ar
  · omega
 have Sj:∀d,F d->G d:=λd ai=>by rw[fR];exact .inl ai
 have Sk:G h.n:=by rw[fR];exact .inr rfl
 refine afj (m+1) p h (R:=λx=>∃g,x=.ret (.aR []) g/\gK F g p (oy s)/\cj F h g) ?_
 rw[<-cy]
 refine e8 (λk st=>∃y Γ l M,st=aks Γ y/\bY [(1,.ptr h.n 0),(2,.fn 40 [] [.ptr h.n 0])] Γ/\l.length=k/\eg {s with l:=l}/\se {s with l:=l}/\ha G y p a3 b7 aM bf s.cap s.given s.clock M/\zC l M/\h9 s.cap l.length l=h9 s.cap s.l.length s.l/\cj G H y) ?_ s.l.length _ (by
  have:=Se al.up λe he=>⟨(al.lo e he).1,(al.lo e he).2.1⟩
  have:=ag.kB
  omega) ⟨H,_,s.l,Si,rfl,⟨rfl,rfl,trivial⟩,rfl,al,ag,aft,gE,rfl,cj.refl _ _⟩
 rintro k st ⟨y,Γ,l,M,rfl,cn,ay,ok,cK,ly,xp,nQ,gv⟩
 have xq:∀{x},cj G y x->aq x h.n 0=some (.ptr p 0):=λe=>by
  have aG:H.get h.n=some (aQ [.ptr p 0] 23):=by rw[cy];exact e7 rfl
  exact aF ((e.get _ (by have:=gv.n;omega) Sk).trans ((gv.get _ (by omega) Sk).trans aG)) rfl
 have afu:M.length=l.length:=by rw[<-xp.e,List.length_map]
 have fin:∀x,cj G y x->ha G x p a3 b7 aM bf s.cap s.given s.clock M->h9 s.cap l.length l=l->∃g,bE.ret (.aR []) x=.ret (.aR []) g/\gK F g p (oy s)/\cj F h g:=λx e afv aA=>by
  refine⟨x,rfl,⟨a3,b7,aM,bf,M,afv.move (Nat.le_refl _) (λd _ _ _=>rfl) λd _ ai=>.inl (Sj d ai),?_⟩,?_⟩
  · have:(oy s).l=l:=by show h9 s.cap s.l.length s.l=l;rw[<-nQ,aA]
    rw[this];exact xp
  · have aG:=(gv.trans e)
    exact⟨by have:=aG.n;omega,λd ai hf=>(aG.get d (by omega) (Sj d hf)).trans (dY.get d ai)⟩
 have zq:cj G y (y.room 10):=cj.ext (Ext.room _ _ _)
 have Cu:=ly.ext (Ext.room y.n y 10)
 refine ei (afk (Y (m+1)) h.n a3 b7 y ⟨p,xq zq,aF Cu.st rfl,l.length,?_,p,xq zq,s.cap,aF Cu.st rfl,λmb=>?_,λmb=>?_⟩) cn
 · have hu:an.underlying 55=some (.map 32 59):=zu
   simp only[bV,hu,Cu.aG,List.length_map,afu]
 · have lI:=afn m (s:={s with l:=l}) Cu xp ok (xq zq) (by have:=gv.n;have:(y.room 10).n=y.n+10:=rfl;omega)
   obtain⟨ak,eP⟩:∃ak,ak=(y.room 10).room (1+32*M.length):=⟨_,rfl⟩
   rw[<-eP] at lI
   have Cv:Ext y.n y ak:=by rw[eP];exact(Ext.room _ _ _).iT
   have aG:cj G y ak:=cj.ext Cv
   have df:=ly.ext Cv
   cases ta:jD l l with
   |none=>
    have Ku:Y (m+1) (.fn 40) [.ptr h.n 0] (y.room 10)=.ret (aC 0) ak:=by rw[lI];simp only[ta];rfl
    refine⟨0,ak,Ku,λ_=>.inr ⟨ak,_,rfl,rfl,trivial,fin ak aG df ?_⟩,λh=>absurd rfl h⟩
    obtain⟨j,aO⟩:∃j,l.length=j+1:=⟨l.length-1,by omega⟩
    rw[aO,h9,if_pos mb,ta]
   |some e=>
    obtain⟨bn,bo,_⟩:=vd ta
    obtain⟨x,aa,lp⟩:=List.mem_map.1 (xp.e▸bn:e∈M.map Mem.e)
    subst lp
    have aj4:=df.xl x aa
    have Ku:Y (m+1) (.fn 40) [.ptr h.n 0] (y.room 10)=.ret (aC x.e.id) ak:=by rw[lI];simp only[ta];rfl
    have gr:∀z∈M,-1000000<=z.ai/\z.ai<=1000000:=λz a7=>by
     rw[xp.ai z a7]
     have:=Sf ok cK z.e.id
     have e:(Int.ofNat (fk z.e.id l))=((fk z.e.id l:Nat):Int):=rfl
     have this:fk z.e.id l<=620000:=this
     omega
    have g1:x.e.args.length<=1000:=by have:=cK.args x.e bn;omega
    obtain⟨av,x4,db,b0⟩:=R9 m (z:=Int.negSucc 0) (.inr rfl) df (df.ev x aa) (df.az x aa) gr g1 (df.lo.2.2.2 x aa)
    have aE:=aG.trans b0
    have nI:=db.ext (Ext.room av.n av 9)
    have hN:cj G y (av.room 9):=aE.trans (cj.ext (Ext.room _ _ _))
    have lf:bump (Int.negSucc 0) x.e.parts x∈M.map (bump (Int.negSucc 0) x.e.parts):=List.mem_map.2 ⟨x,aa,rfl⟩
    have ko:=nI.ev _ lf
    have Sl:(M.map (bump (Int.negSucc 0) x.e.parts)).map Mem.e=l:=by rw[Sg];exact xp.e
    have Kv:∀z∈M.map (bump (Int.negSucc 0) x.e.parts),iK x.e.k x.e.nm (hl x.e.ns) (fs x.e.args) x.e.ret z=l6 x.e.id z:=λz a7=>afr (s:={s with l:=l}) (x:=bump (Int.negSucc 0) x.e.parts x) ok cK Sl lf a7
    have Ct:(M.map (bump (Int.negSucc 0) x.e.parts)).Pairwise λa b=>¬(iK x.e.k x.e.nm (hl x.e.ns) (fs x.e.args) x.e.ret a=true/\iK x.e.k x.e.nm (hl x.e.ns) (fs x.e.args) x.e.ret b=true):=by
     refine(List.Pairwise.and_mem.1 nI.up).imp λ{a b} ⟨aV,ag,fC⟩ ⟨a8,a2⟩=>?_
     rw[Kv a aV] at a8
     rw[Kv b ag] at a2
     have a8:=of_decide_eq_true a8
     have a2:=of_decide_eq_true a2
     omega
    have Kw:=aeN nI.aE Ct lf (afq x)
    have afw:(M.map (bump (Int.negSucc 0) x.e.parts)).filter (λz=>!iK x.e.k x.e.nm (hl x.e.ns) (fs x.e.args) x.e.ret z)=(M.map (bump (Int.negSucc 0) x.e.parts)).filter (λz=>!l6 x.e.id z):=List.filter_congr λz a7=>by rw[Kv z a7]
    rw[afw] at Kw
    obtain⟨aD,hE⟩:∃aD,aD=(av.room 9).set b7 (some (.map (((M.map (bump (Int.negSucc 0) x.e.parts)).filter (λz=>!l6 x.e.id z)).map kG) bf)):=⟨_,rfl⟩
    rw[<-hE] at Kw
    have oq:p≠b7:=λe=>by have:=nI.st;rw[e,nI.aE] at this;cases this
    have afx:aD.get p=some (zx s.cap s.given s.clock a3 b7):=by rw[hE];exact cX oq nI.st
    have afy:aD.get a3=some (.map ((M.map (bump (Int.negSucc 0) x.e.parts)).map iY) aM):=by rw[hE];exact cX nI.ln nI.aG
    have IK:=aeJ afy nI.up lf
    have sM:=nI.del (λz=>!l6 x.e.id z)
    rw[<-hE] at sM
    have bH:cj G y aD:=by rw[hE];exact hN.trans (cj.set nI.nA.2.2)
    have eu:cj G y (aD.set a3 (some (.map (((M.map (bump (Int.negSucc 0) x.e.parts)).filter (λz=>!l6 x.e.id z)).map iY) aM))):=bH.trans (cj.set nI.nA.2.1)
    obtain⟨aj5,FI⟩:=Sc ok.up bn 0
    refine⟨x.e.id,ak,Ku,λh0=>by omega,λ_=>⟨p,xq aG,aF df.st rfl,x.b,tt df.aG df.up aa false,p,xq aG,av,x4,p,xq hN,aF nI.st rfl,x.e.k,x.e.nm,hl x.e.ns,fs x.e.args,x.e.ret,lU ko rfl,aD,Kw,p,xq bH,aF afx rfl,_,IK,_,?_,_,_,hH x.e.id l,_,rfl,⟨rfl,rfl,trivial⟩,rfl,?_,cK.drop x.e.id,sM,⟨?_,?_⟩,?_,gv.trans eu⟩⟩
    · have FI:(hH x.e.id l).length+1=l.length:=FI
      show(hH x.e.id l).length<k
      omega
    · exact eg.drop (s:={s with l:=l}) ok (vc.1 bo).2
    · rw[<-Sl]
      exact afs _ _
    · intro z a7
      obtain⟨v,aI,rfl⟩:=List.mem_map.1 (List.mem_filter.1 a7).1
      have ai:=(Sc ok.up bn v.e.id).1
      have au:=xp.ai v aI
      show v.ai+Int.negSucc 0*(x.e.parts.count v.e.id:Nat)=Int.ofNat (fk v.e.id (hH x.e.id l))
      rw[au]
      have aG:(Int.ofNat (fk v.e.id l))=((fk v.e.id l:Nat):Int):=rfl
      have aE:(Int.ofNat (fk v.e.id (hH x.e.id l)))=((fk v.e.id (hH x.e.id l):Nat):Int):=rfl
      have bH:(Int.negSucc 0:Int)=-1:=rfl
      have ai:fk v.e.id l=x.e.parts.count v.e.id+fk v.e.id (hH x.e.id l):=ai
      rw[aG,aE,bH]
      omega
    · obtain⟨j,aO⟩:∃j,l.length=j+1:=⟨l.length-1,by omega⟩
      have FI:(hH x.e.id l).length+1=l.length:=FI
      rw[<-nQ,aO,h9,if_pos mb,ta]
      simp only
      rw[show(hH x.e.id l).length=j by omega]
 · refine .inl ⟨_,_,rfl,rfl,trivial,fin _ zq Cu ?_⟩
   cases aH:l.length with
   |zero=>rfl
   |succ j=>rw[h9,if_neg mb]
theorem afz(k:Nat)(nm:bb)(ns:List bb)(az:List Nat)(r:Nat)(s:bZ):(hG k nm ns az r s).2.clock=s.clock+1/\(hG k nm ns az r s).2.given<=s.given+1/\(hG k nm ns az r s).2.cap=s.cap:=by
 unfold hG
 split<;>exact⟨rfl,by simp,rfl⟩
mutual
theorem FJ:∀(t:aJ) (s:bZ),(ch t s).2.clock=s.clock+sz t/\(ch t s).2.given<=s.given+sz t/\(ch t s).2.cap=s.cap
 |.mk k nm ns xs rt,s=>by
  obtain⟨cu,cU,dm⟩:=xr xs s
  obtain⟨bn,bo,c9⟩:=Kx rt (cf xs s).2
  obtain⟨d1,d2,d3⟩:=afz k nm ns (cf xs s).1 (fM rt (cf xs s).2).1 (fM rt (cf xs s).2).2
  rw[ch,sz]
  exact⟨by omega,by omega,by rw[d3,c9,dm]⟩
theorem xr:∀(l:List aJ) (s:bZ),(cf l s).2.clock=s.clock+dH l/\(cf l s).2.given<=s.given+dH l/\(cf l s).2.cap=s.cap
 |[],s=>by rw[cf,dH];exact⟨rfl,Nat.le_refl _,rfl⟩
 |t::l,s=>by
  obtain⟨cu,cU,dm⟩:=FJ t s
  obtain⟨bn,bo,c9⟩:=xr l (ch t s).2
  rw[cf,dH]
  exact⟨by show(cf l (ch t s).2).2.clock=_;omega,by show(cf l (ch t s).2).2.given<=_;omega,by show(cf l (ch t s).2).2.cap=_;rw[c9,dm]⟩
theorem Kx:∀(o:Option aJ) (s:bZ),(fM o s).2.clock=s.clock+dk o/\(fM o s).2.given<=s.given+dk o/\(fM o s).2.cap=s.cap
 |none,s=>by rw[fM,dk];exact⟨rfl,Nat.le_refl _,rfl⟩
 |some t,s=>by rw[fM,dk];exact FJ t s
end
theorem zD:∀(l:List aJ) (s:bZ),(cf l s).1.length=l.length
 |[],s=>by rw[cf];rfl
 |t::l,s=>by rw[cf];simp[zD l]
theorem Ky(t:aJ):∀(l:List aJ) (s:bZ),cf (l++[t]) s=((cf l s).1++[(ch t (cf l s).2).1],(ch t (cf l s).2).2)
 |[],s=>by simp[cf]
 |x::l,s=>by
  rw[List.cons_append,cf,Ky t l]
  simp[cf]
theorem Sm{p:Option bb}:∀{ns:List bb},lg p ns=true->k2 ns
 |[],_,s,al=>by cases al
 |x::l,h,s,al=>by
  rw[lg,Bool.and_eq_true,Bool.and_eq_true] at h
  rcases List.mem_cons.1 al with rfl|al
  · have hf:=h.1
    unfold jl at hf
    simp only[Bool.and_eq_true,decide_eq_true_eq] at hf
    refine⟨λe=>by rw[e] at hf;simp at hf,λc ah e=>?_⟩
    have:=List.all_eq_true.1 hf.2 c ah
    rw[e] at this
    exact absurd this (by decide)
  · exact Sm h.2.2 s al
theorem FK{k:Nat}{nm:bb}{ns:List bb}{xs:List aJ}{rt:Option aJ}(h:eW (.mk k nm ns xs rt)=true):k2 ns/\ns.length<=xs.length/\∀s∈ns,s.length<=24:=by
 rw[o_] at h
 simp only[Bool.and_eq_true] at h
 obtain⟨_,a0,aa,ay⟩:=h
 by_cases dw:k=7
 · subst dw
   have:ns.length=xs.length/\lg none ns=true:=by simpa[fK] using ay
   exact⟨Sm this.2,by omega,IP none ns this.2⟩
 · have h0:=JW a0 dw
   have:ns=[]:=List.eq_nil_of_length_eq_zero h0
   subst this
   exact⟨λs al=>(by cases al),by simp,λs al=>(by cases al)⟩
theorem xt{k:Nat}{nm:bb}{ns:List bb}{xs:List aJ}{u:aJ}(h:dE (some (.mk k nm ns xs (some u)))=0):dE (some u)=0:=by
 obtain⟨I,ae⟩:=lK.1 h
 rw[o_] at ae
 simp only[Bool.and_eq_true] at ae
 obtain⟨_,a0,aa,ay⟩:=ae
 have gF:k=8:=by
  unfold jm at a0
  simp only[Bool.and_eq_true] at a0
  have:=a0.2
  simpa using this
 subst gF
 have hu:eW u=true:=by simpa[fK,jV] using ay
 rw[l3,jk] at I
 exact lK.2 ⟨by omega,hu⟩
theorem afA{s:bZ}{k:Nat}{nm:bb}{ns:List bb}{az:List Nat}{r:Nat}(I:∀e∈s.l,e.args.length<=61/\k2 e.ns)(ae:az.length<=61)(ax:k2 ns):∀e∈(hG k nm ns az r s).2.l,e.args.length<=61/\k2 e.ns:=by
 unfold hG
 split
 · intro e he
   obtain⟨x,aa,rfl⟩:=List.mem_map.1 he
   have T:=B3
   have:=I x aa
   rename_i q _
   rw[(T q.id (s.clock+1) x).args,(T q.id (s.clock+1) x).ns]
   exact this
 · intro e he
   rcases List.mem_append.1 he with he|he
   · exact I e he
   · obtain rfl:=List.mem_singleton.1 he
     exact⟨ae,ax⟩
mutual
theorem Kz:∀(t:aJ) (s:bZ),dE (some t)=0->(∀e∈s.l,e.args.length<=61/\k2 e.ns)->∀e∈(ch t s).2.l,e.args.length<=61/\k2 e.ns
 |.mk k nm ns xs rt,s,ah,h=>by
  obtain⟨aM,bf⟩:=lK.1 ah
  have aa:=FL xs s (λu hu=>pk ah hu) h
  have bc:=Sn rt (cf xs s).2 (λu hu=>by subst hu;exact xt ah) aa
  rw[ch]
  rw[l3] at aM
  have:=mo xs
  exact afA bc (by rw[zD];omega) (FK bf).1
theorem FL:∀(l:List aJ) (s:bZ),(∀t∈l,dE (some t)=0)->(∀e∈s.l,e.args.length<=61/\k2 e.ns)->∀e∈(cf l s).2.l,e.args.length<=61/\k2 e.ns
 |[],s,_,h=>by rw[cf];exact h
 |t::l,s,ah,h=>by
  rw[cf]
  exact FL l _ (λu hu=>ah u (List.mem_cons_of_mem _ hu)) (Kz t s (ah t (List.mem_cons_self ..)) h)
theorem Sn:∀(o:Option aJ) (s:bZ),(∀u,o=some u->dE (some u)=0)->(∀e∈s.l,e.args.length<=61/\k2 e.ns)->∀e∈(fM o s).2.l,e.args.length<=61/\k2 e.ns
 |none,s,_,h=>by rw[fM];exact h
 |some t,s,ah,h=>by rw[fM];exact Kz t s (ah t rfl) h
end
theorem So{es:List eH}{k v:ad}{c:Nat}:∀(j:Nat),(∀e∈es,e.born≠c)->vz (Int.ofNat c) (es++[⟨k,v,c⟩]) j=some (j+es.length,⟨k,v,c⟩):=by
 induction es with
 |nil=>intro j _;show(match fc (Int.ofNat c) (Int.ofNat c) with|true=>some (j,_)|false=>_)=_;rw[o2 rfl];rfl
 |cons e es bl=>
  intro j h
  have I:=h e (List.mem_cons_self ..)
  show(match fc (Int.ofNat e.born) (Int.ofNat c) with|true=>some (j,e)|false=>vz (Int.ofNat c) (es++[(⟨k,v,c⟩:eH)]) (j+1))=_
  rw[kS I]
  simp only
  rw[bl (j+1) λx aa=>h x (List.mem_cons_of_mem _ aa),List.length_cons]
  congr 2;omega
theorem Sp{es:List eH}{e:eH}{v key:ad}:so v key es.length (es++[e])=es++[⟨key,v,e.born⟩]:=by
 induction es with
 |nil=>rfl
 |cons x es bl=>show x::so v key es.length (es++[e])=_;rw[bl];rfl
theorem afB{h:ab}{m c:Nat}{M:List Mem}(hm:h.get m=some (.map (M.map kG) c)){k r id:Nat}{nm f p:bb}(aH:∀x∈M,iK k nm f p r x=false)(bc:∀x∈M,x.ed<c):∃g,rm an h 56 (.map m) (.agg [J k,.str nm,.str f,.str p,aC r])=some (.aR [aC 0,J c],g)/\g.n=h.n/\(∀d,d≠m->g.get d=h.get d)/\rn g (.map m) (J c) (aC id)=some (g.set m (some (.map (M.map kG++[⟨.agg [J k,.str nm,.str f,.str p,aC r],aC id,c⟩]) (c+1)))):=by
 have I:=Ck (q:=iK k nm f p r) (l:=M) (j:=0) aH
 have a7:eT an 32=some (aC 0):=by kernel_rfl
 refine⟨h.set m (some (.map (M.map kG++[⟨.agg [J k,.str nm,.str f,.str p,aC r],aC 0,c⟩]) (c+1))),?_,rfl,λd ai=>cX ai rfl,?_⟩
 · simp only[rm,Fx,Fz,hm,ts M 0 λy _=>FB h k r nm f p y,I,Option.map,a7]
 · have ag:=So (es:=M.map kG) (k:=.agg [J k,.str nm,.str f,.str p,aC r]) (v:=aC 0) (c:=c) 0 λe he=>by
     obtain⟨x,aa,rfl⟩:=List.mem_map.1 he
     have:=bc x aa
     show x.ed≠c
     omega
   rw[Nat.zero_add] at ag
   have gs:∀(o:dQ),(h.set m (some o)).get m=some o:=λo=>eK rfl
   simp only[rn,gs,ag,Sp]
theorem afC{h:ab}{m c:Nat}{M:List Mem}(hm:h.get m=some (.map (M.map iY) c)){id b:Nat}(aH:∀x∈M,x.e.id≠id)(bc:∀x∈M,x.dy<c):∃g,rm an h 55 (.map m) (aC id)=some (.aR [.aX,J c],g)/\g.n=h.n/\(∀d,d≠m->g.get d=h.get d)/\rn g (.map m) (J c) (.ptr b 0)=some (g.set m (some (.map (M.map iY++[⟨aC id,.ptr b 0,c⟩]) (c+1)))):=by
 have I:=Ck (q:=l6 id) (l:=M) (j:=0) λx aa=>decide_eq_false (aH x aa)
 have a7:eT an 59=some .aX:=by kernel_rfl
 refine⟨h.set m (some (.map (M.map iY++[⟨aC id,.aX,c⟩]) (c+1))),?_,rfl,λd ai=>cX ai rfl,?_⟩
 · simp only[rm,zu,Fy,hm,ts M 0 λy _=>FA h id y,I,Option.map,a7]
 · have ag:=So (es:=M.map iY) (k:=aC id) (v:=.aX) (c:=c) 0 λe he=>by
     obtain⟨x,aa,rfl⟩:=List.mem_map.1 he
     have:=bc x aa
     show x.dy≠c
     omega
   rw[Nat.zero_add] at ag
   have gs:∀(o:dQ),(h.set m (some o)).get m=some o:=λo=>eK rfl
   simp only[rn,gs,ag,Sp]
theorem ha.add{F:Nat->Prop}{h g:ab}{p a3 b7 aM bf cap given clock:Nat}{M:List Mem}(w:ha F h p a3 b7 aM bf cap given clock M){n:Mem}(aH:g.n=h.n)(ay:∀d,d≠a3->d≠b7->g.get d=h.get d)(I:g.get a3=some (.map ((M++[n]).map iY) (aM+1)))(ae:g.get b7=some (.map ((M++[n]).map kG) (bf+1)))(he:h.get n.b=some (zy n.e n.ai n.bA n.aU))(ig:k0 0 h n.bA n.e.ns)(oD:tu 0 h n.aU n.e.args)(ag:∀x∈M,x.b≠n.b)(aj6:n.dy=aM)(aj7:n.ed=bf)(jf:∀x∈M,x.e.id<n.e.id)(h0:0<n.e.id)(oM:n.b<h.n)(gU:¬F n.b)(afD:∀d k cp,n.bA=.slice d 0 k cp->¬F d)(afE:∀d k cp,n.aU=.slice d 0 k cp->¬F d):ha F g p a3 b7 (aM+1) (bf+1) cap given clock (M++[n]):=by
 have lf:∀{b cs el},h.get b=some (aQ cs el)->b≠a3:=λag e=>by rw[e,w.aG] at ag;cases ag
 have lD:∀{b cs el},h.get b=some (aQ cs el)->b≠b7:=λag e=>by rw[e,w.aE] at ag;cases ag
 have own:∀{b cs el},h.get b=some (aQ cs el)->g.get b=some (aQ cs el):=λag=>(ay _ (lf ag) (lD ag)).trans ag
 have row:∀{D:Type} {enc:D->List ad} {wd el:Nat} {v:ad} {ds:List D},bT enc wd el 0 h v ds->bT enc wd el 0 g v ds:=by
  intro D enc wd el v ds bc
  rcases bc with bc|⟨r,r1,r2,e5,gh,ov⟩
  · exact .inl bc
  · exact .inr ⟨r,r1,r2,(ay r (λe=>by rw[e,w.aG] at e5;cases e5) (λe=>by rw[e,w.aE] at e5;cases e5)).trans e5,gh,by omega⟩
 have all:∀{Q:Mem->Prop},(∀x∈M,Q x)->Q n->∀x∈M++[n],Q x:=λa b x aa=>by
  rcases List.mem_append.1 aa with aa|aa
  · exact a x aa
  · rw[List.mem_singleton.1 aa];exact b
 have xn:∀{R:Mem->Mem->Prop},M.Pairwise R->(∀x∈M,R x n)->(M++[n]).Pairwise R:=λa b=>by
  rw[List.pairwise_append]
  exact⟨a,List.pairwise_singleton ..,λx aa y aZ=>by rw[List.mem_singleton.1 aZ];exact b x aa⟩
 obtain⟨bt,bw,dL,h8⟩:=w.lo
 exact⟨own w.st,I,ae,all (λx aa=>own (w.ev x aa)) (own he),all (λx aa=>row (w.ns x aa)) (row ig),all (λx aa=>row (w.az x aa)) (row oD),xn w.bs ag,xn w.dy (λx aa=>by have:=(w.hc x aa).1;omega),all (λx aa=>by have:=w.hc x aa;omega) (by omega),xn w.up jf,all w.xl h0,w.ln,⟨by omega,by omega,by omega,all (λx aa=>by have:=h8 x aa;omega) (by omega)⟩,w.nA,all w.ne gU,all w.zz afD,all w.zA afE⟩
theorem lk.Sq{B w:Nat}{h g:ab}{s:List UInt8}(ag:lk B w h s)(aH:h.n<=g.n)(ay:∀d,d<h.n->(d=w\/¬kT 5 (h.get d))->g.get d=h.get d):lk B w g s:=by
 obtain⟨a,v,I,ae,ax,aN,bS,cz⟩:=ag
 refine⟨a,v,(ay w (by omega) (.inl rfl)).trans I,ae,?_,aN,by omega,cz⟩
 rcases ax with ax|⟨c,rest,aG,aE,bH,eu⟩
 · exact .inl ax
 · exact .inr ⟨c,rest,aG,(ay c eu (.inr λKA=>KA _ _ _ aE)).trans aE,bH,by omega⟩
theorem afF(p r:Nat)(h:ab)(H:Q .nrm (aj [(0,af p),(1,af r)] h)):
  bp an Tryz.f26 call [0] (aj [(0,af p),(1,af r)] h) Q:=
 c3 [] [0,1] [] H
theorem afG(p r:Nat)(h:ab)(H:Q .nrm (aj [(0,af p),(1,af r),(5,.fn 26 [af p] [])] h)):
  bp an Tryz.f26 call [1,0] (aj [(0,af p),(1,af r)] h) Q:=
 c3 [] [0,1,5] [] H
theorem afH(p r:Nat)(h:ab)(H:∃v1,aq h r 2=some v1/\∃v2 ak,call (.fn 38) [v1] h=.ret v2 ak/\g4 v2/\g4 v2/\Q .nrm (aj [(0,af p),(1,af r),(5,.fn 26 [af p] []),(6,af ak.n)] (ab.push ak (aQ [J 0,.str [],.str [],.str [],aC 0,v2,.aP,J 0,J 0,aC 0] 65)))):
  bp an Tryz.f26 call [1,1,0] (aj [(0,af p),(1,af r),(5,.fn 26 [af p] [])] h) Q:=
 c3 [(19,.a1 .o)] [0,1,5,6] [] H
theorem afI(p r e:Nat)(h:ab)(H:Q .nrm (aj [(0,af p),(1,af r),(5,.fn 26 [af p] []),(6,af e),(7,af h.n)] (ab.push h (aQ [.aX,.aP] 92)))):
  bp an Tryz.f26 call [1,1,1,0] (aj [(0,af p),(1,af r),(5,.fn 26 [af p] []),(6,af e)] h) Q:=
 c3 [] [0,1,5,6,7] [] H
theorem afJ(p r e w:Nat)(h:ab)(H:∃v1,aq h r 3=some v1/\∃aB,bV an h 50 v1=some (J aB)/\bp an Tryz.f26 call [1,1,1,1,0,1,0] (aj [(0,af p),(1,af r),(5,.fn 26 [af p] []),(6,af e),(7,af w),(25,v1),(26,J aB),(27,J 0)] h) (λb2 cc=>∃ak bt,b2=.exit 0/\cc=aj bt ak/\bY [(0,af p),(1,af r),(5,.fn 26 [af p] []),(6,af e),(7,af w)] bt/\Q .nrm (aj [(0,af p),(1,af r),(5,.fn 26 [af p] []),(6,af e),(7,af w)] ak))):
  bp an Tryz.f26 call [1,1,1,1,0] (aj [(0,af p),(1,af r),(5,.fn 26 [af p] []),(6,af e),(7,af w)] h) Q:=
 c3 [(25,.a1 .o),(4000,.fj [0,1,5,6,7,25,26,27] [(.exit 0,[(0,.is (af p)),(1,.is (af r)),(5,.is (.fn 26 [af p] [])),(6,.is (af e)),(7,.is (af w))])])] [0,1,5,6,7] [] H
theorem afK(p r e w b off N i:Nat)(cp:ct)(h:ab)(H:(i<N->i<N/\∃aB,aq h b (off+i*1)=some (af aB)/\∃aY ak,call (.fn 26) [af p,af aB] h=.ret (aC aY) ak/\∃v1,aq ak e 6=some v1/\∃v2 av,dJ an (ab.push ak (aQ [aC aY] 32)) 44 (some 44) v1 (.slice ak.n 0 1 (.exact 1))=some (v2,av)/\g4 v2/\∃aD,bg.storeCells av e 6 [v2]=some aD/\∃s1 a4,call (.fn 45) [aC aY] aD=.ret (.str s1) a4/\∃bd b8 bk,call (.fn 44) [af w,.str s1] a4=.ret (.aR [J bd,b8]) bk/\i+1<9223372036854775808/\Q .nrm (aj [(0,af p),(1,af r),(5,.fn 26 [af p] []),(6,af e),(7,af w),(25,.slice b off N cp),(26,J N),(27,J (i+1))] bk))/\(¬i<N->Q (.exit 0) (aj [(0,af p),(1,af r),(5,.fn 26 [af p] []),(6,af e),(7,af w),(25,.slice b off N cp),(26,J N),(27,J i)] h))):
  bp an Tryz.f26 call [1,1,1,1,0,1,0,0] (aj [(0,af p),(1,af r),(5,.fn 26 [af p] []),(6,af e),(7,af w),(25,.slice b off N cp),(26,J N),(27,J i)] h) Q:=
 c3 [] [0,1,5,6,7,25,26,27] [] H
theorem afL(p r e w:Nat)(v:ad)(h:ab)(H:¬0<0/\Q (.exit 0) (aj [(0,af p),(1,af r),(5,.fn 26 [af p] []),(6,af e),(7,af w)] h)):
  bp an Tryz.f26 call [1,1,1,1,0,1,0,0] (aj [(0,af p),(1,af r),(5,.fn 26 [af p] []),(6,af e),(7,af w),(25,v),(26,J 0),(27,J 0)] h) Q:=
 c3 [(1028,.f)] [0,1,5,6,7] [25] H
theorem afM(p r e w:Nat)(h:ab)(H:∃aB,aq (h.room 19) r 0=some (J aB)/\∃s1,aq (h.room 19) r 1=some (.str s1)/\∃v1,aq (h.room 19) r 2=some v1/\∃s2 ak,call (.fn 46) [v1,.str [32]] (h.room 19)=.ret (.str s2) ak/\∃b1 av,call (.fn 47) [af w] ak=.ret (.str b1) av/\∃aD,bg.storeCells av e 0 [J aB,.str s1,.str s2,.str b1,aC 0]=some aD/\aq av r 0=some (J aB)/\aq ak r 0=some (J aB)/\aq av r 1=some (.str s1)/\aq ak r 1=some (.str s1)/\cr v1/\Q .nrm (aj [(0,af p),(1,af r),(5,.fn 26 [af p] []),(6,af e)] aD)):
  bp an Tryz.f26 call [1,1,1,1,1,0] (aj [(0,af p),(1,af r),(5,.fn 26 [af p] []),(6,af e),(7,af w)] h) Q:=
 c3 [] [0,1,5,6] [] H
theorem afN(p r e:Nat)(h:ab)(H:∃aB,aq h r 4=some (af aB)/\∃aY,aq h r 4=some (af aY)/\∃bd ak,call (.fn 26) [af p,af aY] h=.ret (aC bd) ak/\∃av,bg.storeCells ak e 4 [aC bd]=some av/\Q .nrm (aj [(0,af p),(6,af e)] av)):
  bp an Tryz.f26 call [1,1,1,1,1,1,0] (aj [(0,af p),(1,af r),(5,.fn 26 [af p] []),(6,af e)] h) Q:=
 c3 [(69,.a1 .p)] [0,6] [] H
theorem afO(p r e:Nat)(h:ab)(H:aq h r 4=some .aX/\Q .nrm (aj [(0,af p),(6,af e)] h)):
  bp an Tryz.f26 call [1,1,1,1,1,1,0] (aj [(0,af p),(1,af r),(5,.fn 26 [af p] []),(6,af e)] h) Q:=
 c3 [(69,.a1 (.is .aX))] [0,6] [] H
theorem Sr(p e a3 b7:Nat)(h:ab)(H:∃aB,aq h p 2=some (aC aB)/\aB+1<18446744073709551616/\∃ak,bg.storeCells h p 2 [aC (aB+1)]=some ak/\aq (ak.room 14) p 4=some (.map b7)/\∃aY s1 s2 b1 bd,bg.loadCells (ak.room 14) e 0 5=some [J aY,.str s1,.str s2,.str b1,aC bd]/\∃bj bn,ho an (ak.room 14) 56 (.map b7) (.agg [J aY,.str s1,.str s2,.str b1,aC bd]) true=some (.aR [aC bj,.bool bn])/\(bn=true->aq (ab.room (ak.room 14) 13) p 3=some (.map a3)/\∃bC,ho an (ab.room (ak.room 14) 13) 55 (.map a3) (aC bj) false=some (af bC)/\∃bP,aq (ab.room (ak.room 14) 13) p 2=some (aC bP)/\∃av,bg.storeCells (ab.room (ak.room 14) 13) bC 9 [aC bP]=some av/\Q .ret (aj [(4,aC bj)] av))/\(bn=false->∃cd,aq (ak.room 14) p 1=some (aC cd)/\cd+1<18446744073709551616/\∃aD,bg.storeCells (ak.room 14) p 1 [aC (cd+1)]=some aD/\∃cR,aq aD p 1=some (aC cR)/\aq (aD.room 21) p 4=some (.map b7)/\∃dD b_ cI dz dX,bg.loadCells (aD.room 21) e 0 5=some [J dD,.str b_,.str cI,.str dz,aC dX]/\aq (aD.room 21) p 3=some (.map a3)/\∃eE e9 a4,rm an (aD.room 21) 56 (.map b7) (.agg [J dD,.str b_,.str cI,.str dz,aC dX])=some (.aR [aC eE,J e9],a4)/\∃bk,(rn a4 (.map b7) (J e9) (aC cR)=some bk/\ad.aR []=.aR [])/\∃fw cQ,rm an bk 55 (.map a3) (aC cR)=some (.aR [.aX,J fw],cQ)/\∃dO,(rn cQ (.map a3) (J fw) (af e)=some dO/\ad.aR []=.aR [])/\∃dW,call (.fn 41) [af p,af e,J 1] dO=.ret (.aR []) dW/\aq (dW.room 13) p 3=some (.map a3)/\∃jo,ho an (dW.room 13) 55 (.map a3) (aC cR) false=some (af jo)/\∃kV,aq (dW.room 13) p 2=some (aC kV)/\∃gJ,bg.storeCells (dW.room 13) jo 9 [aC kV]=some gJ/\Q .ret (aj [(4,aC cR)] gJ))):
  bp an Tryz.f26 call [1,1,1,1,1,1,1] (aj [(0,af p),(6,af e)] h) Q:=
 c3 [(92,.a1 (.is (.map b7))),(97,.a1 (.eQ [.n .u64,.b])),(116,.a1 (.is (.map b7))),(124,.a1 (.is (.map a3))),(128,.a1 (.eQ [.n .u64,.n .i64])),(130,.a1 (.eQ [.is .aX,.n .i64])),(138,.a1 (.is (.map a3))),(140,.a1 .p)] [4] [] H
theorem afP(n b B:Nat)(h:ab)(w:List UInt8)(ag:lk B b h w)(aA:w.length<=1000000000):∃aw,Y (n+1) (.fn 47) [.ptr b 0] h=.ret (.str w) aw/\Ext B h aw/\∀d,d<h.n->kT 5 (h.get d)->aw.get d=h.get d:=by
 obtain⟨a,v,g,aV,aI,mz,aH,sQ⟩:=ag
 rcases aI with⟨rfl,rfl⟩|⟨c,rest,rfl,ah,uG,sZ⟩
 · have ku:ri an (ab.room h 12) 118 ad.aX (J 0)=some (.str [],ab.room h 12):=by kernel_rfl
   exact⟨_,gR (intr:=ea) (n:=n) (args:=[.ptr b 0]) Tryz.func47 (QN (Y n) b h [] _ (aF (h:=h.room 12) g rfl) ku) (.inl rfl) (by kernel_rfl),Ext.room _ _ _,λd _ _=>rfl⟩
 · by_cases hw:w=[]
   · exact absurd (sQ hw) (by simp)
   · have dr:w.length≠0:=by cases w<;>simp at hw⊢
     have fv:jH an Builtin.unsafeSliceData (Array.mk [27]) [ad.slice c 0 w.length (ct.aL 1)] (ab.room h 12)=ia.val (ad.ptr c 0) (ab.room h 12):=by
      simp only[jH]
      exact if_neg dr
     have ku:=OA (P:=an) (h:=h.room 12) (pT:=118) (u:=5) (c:=c) (e:=5) (w:=w) (rest:=rest) hw (by omega) (by kernel_rfl) (by kernel_rfl) (by kernel_rfl) ah
     exact⟨_,gR (intr:=ea) (n:=n) (args:=[.ptr b 0]) Tryz.func47 (QM (Y n) b c w.length h w _ (aF (h:=h.room 12) g rfl) fv ku) (.inl rfl) (by kernel_rfl),
      (Ext.room B h 12).trans (Nat.le_refl _) (Ext.set (by omega) _),λd ai ao=>cX (λe=>by subst e;exact ao _ _ _ ah) rfl⟩
def Loc(F:Nat->Prop)(h:ab)(e w:Nat)(bA aU:ad)(d:Nat):Prop:=d<h.n/\(F d\/d=e\/d=w\/(∃k cp,bA=.slice d 0 k cp)\/(∃k cp,aU=.slice d 0 k cp)\/¬kT 5 (h.get d))
abbrev nJ(a1:List ad)(bA aU:ad):dQ:=aQ (a1++[bA,aU,J 0,J 0,aC 0]) 65
abbrev pv:List ad:=[J 0,.str [],.str [],.str [],aC 0]
structure m7(F:Nat->Prop)(h0:ab)(p e w:Nat)(bA aU:ad)(ns:List bb)(ids:List Nat)(a1:List ad)(s:bZ)(y:ab):Prop where
 st:gK (Loc F y e w bA aU) y p s
 gv:cj F h0 y
 ev:y.get e=some (nJ a1 bA aU)
 ns:k0 h0.n y bA ns
 az:tu h0.n y aU ids
 c6:h0.n<=e
 xu:e<w
 ly:w<y.n
def Ss(n:Nat)(t:aJ):Prop:=∀(F:Nat->Prop) (h:ab) (p:Nat) (v:ad) (s:bZ),gK F h p s->eg s->(∀e∈s.l,e.args.length<=61/\k2 e.ns)->s.clock+sz t<=10000->s.given+sz t<=10000->(∀b,F b->b<h.n)->ew F h t v->∃g,Y n (.fn 26) [.ptr p 0,v] h=.ret (aC (ch t s).1) g/\gK F g p (ch t s).2/\cj F h g
theorem gK.move{F G:Nat->Prop}{h g:ab}{p:Nat}{s:bZ}(w:gK F h p s)(aH:h.n<=g.n)(ay:∀d,d<h.n->¬F d->kT 5 (h.get d)->g.get d=h.get d)(fR:∀d,d<h.n->G d->F d\/¬kT 5 (h.get d)):gK G g p s:=by
 obtain⟨a3,b7,aM,bf,M,df,r⟩:=w
 exact⟨a3,b7,aM,bf,M,df.move aH ay fR,r⟩
theorem afQ(t:aJ){s:bZ}(al:eg s)(ar:s.given+sz t<=10000):(ch t s).1<18446744073709551616:=by
 obtain⟨ok,_,q,aK,my⟩:=oA t al
 have I:=(ok.lo q aK).2.1
 have ae:=(FJ t s).2.1
 omega
theorem zE{h:ab}{d:Nat}{cs b5:List ad}{el qv lo up:Nat}(I:h.get d=some (.cells cs el .aL lo up))(ae:h.get d=some (.cells b5 qv .own 0 0)):False:=by rw[I] at ae;cases ae
theorem KB:∀l:List Nat,(fs l).length=8*l.length
 |[]=>rfl
 |a::l=>by
  show(j1 a++fs l).length=_
  rw[List.length_append,xk,KB l,List.length_cons];omega
theorem afR(m:Nat){F:Nat->Prop}{h0:ab}{p e w B:Nat}{bA aU v:ad}{ns:List bb}{ids:List Nat}{s:bZ}{y:ab}{t:aJ}(gU:∀b,F b->b<h0.n)(aT:m7 F h0 p e w bA aU ns ids pv s y)(ag:lk B w y (fs ids))(Jk:h0.n<=B)(aj8:e<B)(Cw:Ss (m+3) t)(al:eg s)(gr:∀e∈s.l,e.args.length<=61/\k2 e.ns)(ay:s.clock+sz t<=10000)(ar:s.given+sz t<=10000)(aI:ew F h0 t v)(aA:ids.length<=1000):
  ∃ak,Y (m+3) (.fn 26) [.ptr p 0,v] y=.ret (aC (ch t s).1) ak/\aq ak e (0+6)=some aU/\
  ∃jn av,dJ an (ak.push (aQ [jF (ch t s).1] 32)) 44 (some 44) aU (.slice ak.n 0 1 (.exact 1))=some (jn,av)/\jn.de=true/\
  ∃aD,bg.storeCells av e (0+6) [jn]=some aD/\
  ∃a4,Y (m+3) (.fn 45) [aC (ch t s).1] aD=.ret (.str (j1 (ch t s).1)) a4/\
  ∃bk,Y (m+3) (.fn 44) [.ptr w 0,.str (j1 (ch t s).1)] a4=.ret (.aR [J (j1 (ch t s).1).length,.fU]) bk/\m7 F h0 p e w bA jn ns (ids++[(ch t s).1]) pv (ch t s).2 bk/\lk B w bk (fs (ids++[(ch t s).1])):=by
 obtain⟨st,gv,ev,ig,oD,c6,xu,ly⟩:=aT
 obtain⟨aj9,bv,St,_,_,aj_,Jl,_⟩:=id ag
 have aka:=gv.n
 have afS:ew (Loc F y e w bA aU) y t v:=ew.bB (λb ag=>⟨⟨by have:=gU b ag;omega,.inl ag⟩,gv.get b (gU b ag) ag⟩) _ _ aI
 obtain⟨ak,aM,st1,bG⟩:=Cw _ y p v s st al gr ay ar (λb ag=>ag.1) afS
 obtain⟨id,jf⟩:∃id,id=(ch t s).1:=⟨_,rfl⟩
 have Cx:=afQ t al ar
 rw[<-jf] at aM Cx⊢
 have aB:=bG.n
 have ge:ak.get e=some (nJ pv bA aU):=(bG.get e (by omega) ⟨by omega,.inr (.inl rfl)⟩).trans ev
 have akb:ak.get w=y.get w:=bG.get w ly ⟨ly,.inr (.inr (.inl rfl))⟩
 obtain⟨H,cy⟩:∃H,H=ak.push (aQ [jF id] 32):=⟨_,rfl⟩
 have lj:H.n=ak.n+1:=by rw[cy];rfl
 have dY:Ext ak.n ak H:=by rw[cy];exact Ext.push (Nat.le_refl _) _
 have xv:∀d k cp,aU=.slice d 0 k cp->d<y.n/\h0.n<=d/\∃cs,y.get d=some (.cells cs 32 .aL 0 0):=by
  intro d k cp ai
  rcases oD with⟨rfl,_⟩|⟨q,rfl,_,bX,eG,gi⟩
  · cases ai
  · cases ai;exact⟨gi,eG,_,bX⟩
 have Cy:∀d k cp,bA=.slice d 0 k cp->d<y.n/\h0.n<=d/\∃cs,y.get d=some (.cells cs 9 .aL 0 0):=by
  intro d k cp ai
  rcases ig with⟨rfl,_⟩|⟨q,rfl,_,bX,eG,gi⟩
  · cases ai
  · cases ai;exact⟨gi,eG,_,bX⟩
 have afT:tu h0.n H aU ids:=bT.bB oD (by omega) λq aK k3=>(dY.get q (by omega)).trans (bG.get q k3 ⟨k3,.inr (.inr (.inr (.inr (.inl ⟨_,_,aK⟩))))⟩)
 obtain⟨av,cu,cU,dm,e0,ey⟩:=zm Cr afT (by omega) (d:=id) (src:=.slice ak.n 0 1 (.exact 1)) (by rw[cy];exact yz Cr ak 32 id) (by omega)
 have afU:∀k cp,aU≠ .slice e 0 k cp:=λk cp ai=>by
  obtain⟨_,_,cs,ah⟩:=xv e k cp ai
  exact zE ah ev
 have afV:∀k cp,aU≠ .slice w 0 k cp:=λk cp ai=>by
  obtain⟨_,_,cs,ah⟩:=xv w k cp ai
  exact zE ah St
 have afW:av.get e=some (nJ pv bA aU):=((ey e (by omega) afU).trans (dY.get e (by omega))).trans ge
 obtain⟨jn,Cz⟩:∃jn,jn=ad.slice H.n 0 (ids++[id]).length (.aL 1):=⟨_,rfl⟩
 rw[<-Cz] at cu
 obtain⟨aD,hE⟩:∃aD,aD=av.set e (some (nJ pv bA jn)):=⟨_,rfl⟩
 have bd:aD.n=av.n:=by rw[hE];rfl
 have b1:bg.storeCells av e (0+6) [jn]=some aD:=by rw[hE,Cz];exact eV afW rfl rfl
 obtain⟨a4,fQ,e1⟩:=ae1 (m+2) id aD Cx
 have bj:=e1.n
 have sf:∀d,d<ak.n->d≠e->(∀k cp,aU≠ .slice d 0 k cp)->a4.get d=ak.get d:=λd ai q7 KC=>by
  refine(e1.get d (by omega)).trans ?_
  rw[hE]
  exact(cX q7 rfl).trans ((ey d (by omega) KC).trans (dY.get d ai))
 have fS:lk B w a4 (fs ids):=lk.Sq ag (by omega) λd ai CA=>by
  have j_:Loc F y e w bA aU d:=by
   rcases CA with rfl|ao
   · exact⟨ai,.inr (.inr (.inl rfl))⟩
   · exact⟨ai,.inr (.inr (.inr (.inr (.inr ao))))⟩
  refine(sf d (by omega) ?_ λk cp ah=>?_).trans (bG.get d ai j_)
  · rintro rfl
    rcases CA with h|h
    · omega
    · exact h (by rw[ev];exact Cs)
  · obtain⟨_,_,cs,gG⟩:=xv d k cp ah
    rcases CA with rfl|h
    · exact afV _ _ ah
    · exact h (by rw[gG];exact xm (by decide))
 have hV:=KB ids
 obtain⟨bk,ox,l0,hg⟩:=Fb m w B a4 (fs ids) (j1 id) fS (by rw[hV,xk];omega)
 have bC:=hg.x.n
 have l7:∀d,d<ak.n->d≠e->d≠w->(∀k cp,aU≠ .slice d 0 k cp)->kT 5 (ak.get d)->bk.get d=ak.get d:=λd ai q7 CA KC ao=>by
  have aN:=sf d ai q7 KC
  exact(hg.k d (by omega) CA (by rw[aN];exact ao)).trans aN
 have eZ:bk.get e=some (nJ pv bA jn):=by
  have aN:a4.get e=some (nJ pv bA jn):=(e1.get e (by omega)).trans (by rw[hE];exact eK rfl)
  exact(hg.k e (by omega) (by omega) (by rw[aN];exact Cs)).trans aN
 have afX:tu h0.n bk jn (ids++[id]):=by
  refine .inr ⟨H.n,Cz,by simp,?_,by omega,by omega⟩
  have aN:a4.get H.n=some (.cells (dp (λd=>[jF d]) (ids++[id])) 32 .aL 0 0):=(e1.get _ (by omega)).trans (by rw[hE];exact(cX (by omega) rfl).trans cU)
  exact(hg.k _ (by omega) (by omega) (by rw[aN];exact xm (by decide))).trans aN
 have afY:k0 h0.n bk bA ns:=bT.bB ig (by omega) λq aK k3=>by
  obtain⟨_,_,cs,gG⟩:=Cy q _ _ aK
  have iq:ak.get q=y.get q:=bG.get q k3 ⟨k3,.inr (.inr (.inr (.inl ⟨_,_,aK⟩)))⟩
  refine(l7 q (by omega) ?_ ?_ (λk cp ah=>?_) (by rw[iq,gG];exact xm (by decide))).trans iq
  · rintro rfl;exact zE gG ev
  · rintro rfl;exact zE gG St
  · obtain⟨_,_,b5,zF⟩:=xv q k cp ah
    rw[gG] at zF
    injection zF with zF;injection zF with _ zF
    exact absurd zF (by decide)
 have a0:fs (ids++[id])=fs ids++j1 id:=by simp[fs]
 subst cy
 refine⟨ak,aM,aF ge rfl,jn,av,cu,by rw[Cz];rfl,aD,b1,a4,fQ,bk,ox,⟨?_,?_,eZ,afY,afX,c6,xu,by omega⟩,by rw[a0];exact l0⟩
 · refine st1.move (by omega) (λd ai mm ao=>?_) (λd ai j_=>?_)
   · refine l7 d ai (λh=>?_) (λh=>?_) (λk cp ah=>?_) ao
     · subst h;exact mm ⟨by omega,.inr (.inl rfl)⟩
     · subst h;exact mm ⟨by omega,.inr (.inr (.inl rfl))⟩
     · exact mm ⟨(xv d k cp ah).1,.inr (.inr (.inr (.inr (.inl ⟨_,_,ah⟩))))⟩
   · obtain⟨_,sL⟩:=j_
     rcases sL with h|h|h|h|h|h
     · exact .inl ⟨by have:=gU d h;omega,.inl h⟩
     · exact .inl ⟨by omega,.inr (.inl h)⟩
     · exact .inl ⟨by omega,.inr (.inr (.inl h))⟩
     · obtain⟨k,cp,h⟩:=h
       exact .inl ⟨(Cy d k cp h).1,.inr (.inr (.inr (.inl ⟨_,_,h⟩)))⟩
     · obtain⟨k,cp,h⟩:=h
       rw[Cz] at h
       cases h
       omega
     · by_cases j_:Loc F y e w bA aU d
       · exact .inl j_
       · refine .inr λao=>h ?_
         rw[l7 d ai (λh=>?_) (λh=>?_) (λk cp ah=>?_) ao]
         · exact ao
         · subst h;exact j_ ⟨by omega,.inr (.inl rfl)⟩
         · subst h;exact j_ ⟨by omega,.inr (.inr (.inl rfl))⟩
         · exact j_ ⟨(xv d k cp ah).1,.inr (.inr (.inr (.inr (.inl ⟨_,_,ah⟩))))⟩
 · refine⟨by omega,λd ai hf=>?_⟩
   have afZ:∀k cp,aU≠ .slice d 0 k cp:=λk cp ah=>by have:=(xv d k cp ah).2.1;omega
   exact(hg.x.get d (by omega) (by omega)).trans ((sf d (by omega) (by omega) afZ).trans ((bG.get d (by omega) ⟨by omega,.inl hf⟩).trans (gv.get d ai hf)))
theorem Su(i:Nat):∀a b:List b3,fk i (a++b)=fk i a+fk i b
 |[],b=>by rw[List.nil_append,fk];omega
 |x::a,b=>by rw[List.cons_append,fk,Su i a b,fk];omega
theorem KD(i:Nat){f:b3->b3}(hf:∀e,(f e).parts=e.parts):∀l:List b3,fk i (l.map f)=fk i l
 |[]=>rfl
 |x::l=>by rw[List.map_cons,fk,hf,KD i hf l,fk]
theorem Sv(c:Nat):zB λy=>{y with e:={y.e with used:=c}}:=⟨λ_=>rfl,λ_=>rfl,λ_=>rfl,λ_=>rfl,λ_=>rfl,λ_=>rfl,λ_=>rfl,λ_=>rfl,λ_=>rfl⟩
theorem Sw(i c:Nat)(M:List Mem):(oC i (λy=>{y with e:={y.e with used:=c}}) M).map Mem.e=(M.map Mem.e).map (kD i c):=by
 unfold oC
 rw[List.map_map,List.map_map]
 refine List.map_congr_left λy _=>?_
 show(if y.e.id=i then({y with e:={y.e with used:=c}}:Mem) else y).e=kD i c y.e
 unfold kD
 split<;>rfl
theorem Sx{i c:Nat}{M:List Mem}{y:Mem}(aZ:y∈oC i (λy=>{y with e:={y.e with used:=c}}) M):∃z∈M,y.ai=z.ai/\y.e.id=z.e.id:=by
 obtain⟨z,a7,rfl⟩:=List.mem_map.1 aZ
 refine⟨z,a7,?_⟩
 split<;>exact⟨rfl,rfl⟩
theorem af0(m:Nat){F:Nat->Prop}{h0:ab}{p e w k r:Nat}{nm:bb}{bA aU:ad}{ns:List bb}{ids:List Nat}{s:bZ}{y:ab}(gU:∀b,F b->b<h0.n)(aT:m7 F h0 p e w bA aU ns ids [J k,.str nm,.str (hl ns),.str (fs ids),aC r] s y)(al:eg s)(gr:∀e∈s.l,e.args.length<=61/\k2 e.ns)(KE:s.clock+1<=10000)(tv:s.given+1<=10000)(aH:k2 ns)(aA:ids.length<=61)(jf:∀i∈ids,i<18446744073709551616):bp an Tryz.f26 (Y (m+3)) [1,1,1,1,1,1,1] ⟨[(0,.ptr p 0),(6,.ptr e 0)],[],.none,y⟩ (λb2 st=>b2=.ret/\∃g,st=⟨[(4,aC (hG k nm ns ids r s).1)],[],.none,g⟩/\gK F g p (hG k nm ns ids r s).2/\cj F h0 g):=by
 obtain⟨st,gv,ev,ig,oD,c6,xu,ly⟩:=aT
 obtain⟨a3,b7,aM,bf,M,h3,gE⟩:=st
 have cK:se s:=⟨λe he=>(gr e he).1,λe he=>(gr e he).2,by omega,by omega⟩
 have w:ha F y p a3 b7 aM bf s.cap s.given s.clock M:=h3.move (Nat.le_refl _) (λd _ _ _=>rfl) λd ai hf=>.inl ⟨ai,.inl hf⟩
 have Dz:p≠e:=λh=>by
  have:=w.st
  rw[h,ev] at this
  injection this with this;injection this with _ this
  exact absurd this (by decide)
 have Sy:¬F e:=λh=>by have:=gU e h;omega
 have FM:∀x∈M,x.e∈s.l:=λx aa=>by rw[<-gE.e];exact List.mem_map.2 ⟨x,aa,rfl⟩
 have FN:∀x∈M,iK k nm (hl ns) (fs ids) r x=x.e.is k nm ns ids r:=λx aa=>RZ (cK.nm _ (FM x aa)) aH (Kt al cK (FM x aa)) jf
 obtain⟨ak,eP⟩:∃ak,ak=y.set p (some (zx s.cap s.given (s.clock+1) a3 b7)):=⟨_,rfl⟩
 have st1:bg.storeCells y p (0+2) [aC (s.clock+1)]=some ak:=by rw[eP];exact eV w.st rfl rfl
 have df:=w.head s.given (s.clock+1)
 rw[<-eP] at df
 have aB:ak.n=y.n:=by rw[eP];rfl
 have bG:cj F y ak:=by rw[eP];exact cj.set w.nA.1
 have y1:ak.get e=y.get e:=by rw[eP];exact cX (λh=>Dz h.symm) rfl
 have vo:=df.ext (Ext.room ak.n ak 14)
 have zG:(ak.room 14).get e=some (nJ [J k,.str nm,.str (hl ns),.str (fs ids),aC r] bA aU):=y1.trans ev
 cases hf:s.l.find? (b3.is k nm ns ids r) with
 |some dc=>
  have af1:=List.mem_of_find?_eq_some hf
  have fi:dc.is k nm ns ids r=true:=List.find?_some hf
  obtain⟨x,aa,lp⟩:=List.mem_map.1 (gE.e▸af1:dc∈M.map Mem.e)
  subst lp
  have aK:iK k nm (hl ns) (fs ids) r x=true:=(FN x aa).trans fi
  have Ct:M.Pairwise λa b=>¬(iK k nm (hl ns) (fs ids) r a=true/\iK k nm (hl ns) (fs ids) r b=true):=by
   have af2:M.Pairwise λa b=>b.e.is a.e.k a.e.nm a.e.ns a.e.args a.e.ret=false:=by
    have:=al.apart
    rw[<-gE.e,List.pairwise_map] at this
    exact this
   refine(List.Pairwise.and_mem.1 af2).imp λ{a b} ⟨aV,ag,fC⟩ ⟨a8,a2⟩=>?_
   rw[FN a aV] at a8
   rw[FN b ag] at a2
   obtain⟨cu,cU,dm,e0,ey⟩:=sa.1 a8
   obtain⟨bn,bo,c9,fS,l0⟩:=sa.1 a2
   rw[sa.2 ⟨bn.trans cu.symm,bo.trans cU.symm,c9.trans dm.symm,fS.trans e0.symm,l0.trans ey.symm⟩] at fC
   cases fC
  have eo:=aeL vo.aE Ct aa aK
  have zH:=vo.ext (Ext.room (ak.room 14).n (ak.room 14) 13)
  have rH:=zH.ev x aa
  have hle:hG k nm ns ids r s=(x.e.id,{s with clock:=s.clock+1,l:=s.l.map (kD x.e.id (s.clock+1))}):=by unfold hG;rw[hf]
  rw[hle]
  have db:=zH.gx aa (Sv (s.clock+1))
  refine Sr (Y (m+3)) p e a3 b7 y ⟨s.clock,aF w.st rfl,by omega,ak,st1,aF vo.st rfl,k,nm,hl ns,fs ids,r,lU zG rfl,x.e.id,true,eo,λ_=>⟨aF zH.st rfl,x.b,tt zH.aG zH.up aa false,s.clock+1,aF zH.st rfl,_,eV rH rfl rfl,rfl,_,rfl,⟨a3,b7,aM,bf,_,db,⟨?_,?_⟩⟩,?_⟩,λh=>by cases h⟩
  · show _=s.l.map (kD x.e.id (s.clock+1))
    rw[Sw,gE.e]
  · intro z a7
    obtain⟨v,aI,aG,aE⟩:=Sx a7
    show z.ai=Int.ofNat (fk z.e.id (s.l.map (kD x.e.id (s.clock+1))))
    rw[aG,aE,gE.ai v aI,KD _ λq=>(B3 x.e.id (s.clock+1) q).parts]
  · exact(gv.trans bG).trans (((cj.ext (Ext.room _ _ _)).trans (cj.ext (Ext.room _ _ _))).trans (cj.set (b:=x.b) (w.ne x aa)))
 |none=>
  have lT:=List.find?_eq_none.1 hf
  have l1:∀x∈M,iK k nm (hl ns) (fs ids) r x=false:=λx aa=>by
   rw[FN x aa]
   simpa using lT x.e (FM x aa)
  have eo:=aeM vo.aE l1
  have hle:hG k nm ns ids r s=(s.given+1,{s with given:=s.given+1,clock:=s.clock+1,l:=s.l++[⟨s.given+1,k,nm,ns,ids,r,0,s.clock+1⟩]}):=by unfold hG;rw[hf]
  rw[hle]
  obtain⟨aD,hE⟩:∃aD,aD=(ak.room 14).set p (some (zx s.cap (s.given+1) (s.clock+1) a3 b7)):=⟨_,rfl⟩
  have JG:bg.storeCells (ak.room 14) p (0+1) [aC (s.given+1)]=some aD:=by rw[hE];exact eV vo.st rfl rfl
  have lr:=vo.head (s.given+1) (s.clock+1)
  rw[<-hE] at lr
  have bd:aD.n=ak.n+14:=by rw[hE];rfl
  have dF:cj F y aD:=bG.trans ((cj.ext (Ext.room _ _ _)).trans (by rw[hE];exact cj.set w.nA.1))
  have af3:aD.get e=y.get e:=by rw[hE];exact(cX (λh=>Dz h.symm) rfl).trans y1
  have zI:=lr.ext (Ext.room aD.n aD 21)
  obtain⟨R,dV⟩:∃R,R=aD.room 21:=⟨_,rfl⟩
  rw[<-dV] at zI
  have vm:R.n=aD.n+21:=by rw[dV];rfl
  have Sz:R.get e=some (nJ [J k,.str nm,.str (hl ns),.str (fs ids),aC r] bA aU):=by rw[dV];exact af3.trans ev
  have SA:∀x∈M,x.e.id<s.given+1:=λx aa=>by have:=(al.lo _ (FM x aa)).2.1;omega
  obtain⟨a4,d1,d2,d3,d4⟩:=afB (id:=s.given+1) zI.aE l1 λx aa=>(zI.hc x aa).2
  obtain⟨bk,CB⟩:∃bk,bk=a4.set b7 (some (.map (M.map kG++[⟨.agg [J k,.str nm,.str (hl ns),.str (fs ids),aC r],aC (s.given+1),bf⟩]) (bf+1))):=⟨_,rfl⟩
  rw[<-CB] at d4
  have af4:bk.get a3=some (.map (M.map iY) aM):=by rw[CB];exact(cX w.ln rfl).trans ((d3 a3 w.ln).trans zI.aG)
  obtain⟨cQ,f1,f2,f3,f4⟩:=afC (id:=s.given+1) (b:=e) af4 (λx aa=>by have:=SA x aa;omega) λx aa=>(zI.hc x aa).1
  obtain⟨dO,CC⟩:∃dO,dO=cQ.set a3 (some (.map (M.map iY++[⟨aC (s.given+1),.ptr e 0,aM⟩]) (aM+1))):=⟨_,rfl⟩
  rw[<-CC] at f4
  have cd:dO.n=R.n:=by
   rw[CC];show cQ.n=_
   rw[f2,CB];exact d2
  have SB:∀d,d≠a3->d≠b7->dO.get d=R.get d:=λd I ae=>by
   rw[CC]
   refine(cX I rfl).trans ((f3 d I).trans ?_)
   rw[CB]
   exact(cX ae rfl).trans (d3 d ae)
  have low:∀{D:Type} {enc:D->List ad} {wd el:Nat} {v:ad} {ds:List D},bT enc wd el h0.n y v ds->bT enc wd el 0 R v ds/\∀d k cp,v=.slice d 0 k cp->¬F d:=by
   intro D enc wd el v ds bc
   rcases bc with⟨rfl,bc⟩|⟨q,rfl,a2,bX,eG,gi⟩
   · exact⟨.inl ⟨rfl,bc⟩,λd k cp h=>by cases h⟩
   · refine⟨.inr ⟨q,rfl,a2,?_,Nat.zero_le _,by omega⟩,λd k cp h hf=>by cases h;have:=gU q hf;omega⟩
     have SC:q≠p:=λh=>by rw[h,w.st] at bX;injection bX with bX;injection bX with _ _ bX;cases bX
     rw[dV]
     show aD.get q=_
     rw[hE]
     refine(cX SC rfl).trans ?_
     show ak.get q=_
     rw[eP]
     exact(cX SC rfl).trans bX
  obtain⟨af5,af6⟩:=low ig
  obtain⟨af7,af8⟩:=low oD
  have Bc:∀x∈M,x.b≠e:=λx aa h=>h3.ne x aa ⟨w.lo.2.2.2 x aa,.inr (.inl h)⟩
  obtain⟨n,pM⟩:∃n:Mem,n=⟨⟨s.given+1,k,nm,ns,ids,r,0,0⟩,e,aM,bf,0,bA,aU⟩:=⟨_,rfl⟩
  have af9:dO.get a3=some (.map ((M++[n]).map iY) (aM+1)):=by rw[CC,List.map_append,pM];exact eK rfl
  have af_:dO.get b7=some (.map ((M++[n]).map kG) (bf+1)):=by
   rw[CC]
   refine(cX (λh=>w.ln h.symm) rfl).trans ((f3 b7 λh=>w.ln h.symm).trans ?_)
   rw[CB,List.map_append,pM];exact eK rfl
  have FO:ha F dO p a3 b7 (aM+1) (bf+1) s.cap (s.given+1) (s.clock+1) (M++[n]):=by
   refine zI.add (n:=n) cd SB af9 af_ ?_ ?_ ?_ ?_ ?_ ?_ ?_ ?_ ?_ ?_ ?_ ?_<;>subst pM
   · exact Sz
   · exact af5
   · exact af7
   · exact Bc
   · rfl
   · rfl
   · exact SA
   · show 0<s.given+1;omega
   · show e<R.n;omega
   · exact Sy
   · exact af6
   · exact af8
  have iN:n∈M++[n]:=by simp
  have aga:∀x∈M++[n],-1000000<=x.ai/\x.ai<=1000000:=λx aa=>by
   rcases List.mem_append.1 aa with aa|aa
   · rw[gE.ai x aa]
     have:=Sf al cK x.e.id
     have e:(Int.ofNat (fk x.e.id s.l))=((fk x.e.id s.l:Nat):Int):=rfl
     omega
   · rw[List.mem_singleton.1 aa,pM]
     exact⟨(by show(-1000000:Int)<=0;decide),(by show(0:Int)<=1000000;decide)⟩
  have dr:=FO.ev n iN
  have agb:=FO.az n iN
  have kx:n.b=e:=by rw[pM]
  have agc:n.e.args=ids:=by rw[pM]
  have agd:n.e.parts=r::ids:=by rw[pM];rfl
  have SD:n.e.id=s.given+1:=by rw[pM]
  obtain⟨dW,x4,xw,IN⟩:=R9 (m+2) (z:=1) (.inl rfl) FO dr agb aga (by rw[agc];omega) (by have:=FO.lo.2.2.2 n iN;exact this)
  rw[kx] at x4
  have zJ:=xw.ext (Ext.room dW.n dW 13)
  have q8:bump 1 n.e.parts n∈(M++[n]).map (bump 1 n.e.parts):=List.mem_map.2 ⟨n,iN,rfl⟩
  have SE:=tt zJ.aG zJ.up q8 false
  have Cx:(bump 1 n.e.parts n).e.id=s.given+1:=SD
  have KF:(bump 1 n.e.parts n).b=e:=kx
  rw[Cx,KF] at SE
  have age:=zJ.ev _ q8
  have nI:=zJ.gx q8 (Sv (s.clock+1))
  have agf:cj F aD dO:=⟨by rw[cd,vm];omega,λd ai hf=>(SB d (λh=>w.nA.2.1 (h▸hf)) (λh=>w.nA.2.2 (h▸hf))).trans (by rw[dV];rfl)⟩
  rw[dV] at d1
  refine Sr (Y (m+3)) p e a3 b7 y ⟨s.clock,aF w.st rfl,by omega,ak,st1,aF vo.st rfl,k,nm,hl ns,fs ids,r,lU zG rfl,0,false,eo,λh=>(by cases h),λ_=>⟨s.given,aF vo.st rfl,by omega,aD,JG,s.given+1,aF lr.st rfl,aF (h:=aD.room 21) lr.st rfl,k,nm,hl ns,fs ids,r,lU (dV▸Sz) rfl,aF (h:=aD.room 21) lr.st rfl,0,bf,a4,d1,bk,⟨d4,rfl⟩,aM,cQ,f1,dO,⟨f4,rfl⟩,dW,x4,aF zJ.st rfl,e,SE,s.clock+1,aF zJ.st rfl,_,eV (KF▸age) rfl rfl,rfl,_,rfl,⟨a3,b7,aM+1,bf+1,_,KF▸nI,⟨?_,?_⟩⟩,?_⟩⟩
  · show _=s.l++[⟨s.given+1,k,nm,ns,ids,r,0,s.clock+1⟩]
    rw[Sw,Sg,List.map_append,gE.e,List.map_append,Cx]
    have aG:s.l.map (kD (s.given+1) (s.clock+1))=s.l:=by
     have:∀q∈s.l,kD (s.given+1) (s.clock+1) q=q:=λq aK=>by
      have:=(al.lo q aK).2.1
      unfold kD
      rw[if_neg (by omega)]
     rw[List.map_congr_left this,List.map_id']
    rw[aG,pM]
    simp[kD]
  · intro z a7
    obtain⟨v,aI,aG,aE⟩:=Sx a7
    obtain⟨u,hu,rfl⟩:=List.mem_map.1 aI
    show z.ai=Int.ofNat (fk z.e.id (s.l++[⟨s.given+1,k,nm,ns,ids,r,0,s.clock+1⟩]))
    rw[aG,aE,Su]
    have bH:fk (bump 1 n.e.parts u).e.id [⟨s.given+1,k,nm,ns,ids,r,0,s.clock+1⟩]=(r::ids).count u.e.id:=by
     rw[fk,fk];rfl
    rw[bH]
    show u.ai+1*((n.e.parts).count u.e.id:Nat)=Int.ofNat (fk u.e.id s.l+(r::ids).count u.e.id)
    rw[agd]
    rcases List.mem_append.1 hu with hu|hu
    · rw[gE.ai u hu]
      show((fk u.e.id s.l:Nat):Int)+1*_=((fk u.e.id s.l+(r::ids).count u.e.id:Nat):Int)
      rw[Int.natCast_add,Int.one_mul]
    · rw[List.mem_singleton.1 hu,SD]
      have GA:fk (s.given+1) s.l=0:=Fl.2 λq aK a0=>by
       have I:=(al.lo q aK).2.1
       rcases al.part q aK _ a0 with h|⟨h,_⟩<;>omega
      have qB:n.ai=0:=by rw[pM]
      rw[GA,qB,Nat.zero_add,Int.one_mul,Int.zero_add]
      rfl
  · exact(gv.trans (dF.trans agf)).trans (IN.trans ((cj.ext (Ext.room _ _ _)).trans (cj.set (b:=e) Sy)))
theorem m7.Cy{F:Nat->Prop}{h0:ab}{p e w:Nat}{bA aU:ad}{ns:List bb}{ids:List Nat}{a1:List ad}{s:bZ}{y:ab}(aT:m7 F h0 p e w bA aU ns ids a1 s y):(∀d k cp,bA=.slice d 0 k cp->d<y.n/\d≠e/\∃cs,y.get d=some (.cells cs 9 .aL 0 0))/\∀d k cp,aU=.slice d 0 k cp->d<y.n/\d≠e/\∃cs,y.get d=some (.cells cs 32 .aL 0 0):=by
 constructor
 · intro d k cp ai
   rcases aT.ns with⟨rfl,_⟩|⟨q,rfl,_,bX,eG,gi⟩
   · cases ai
   · cases ai;exact⟨gi,λh=>(by rw[h] at bX;exact zE bX aT.ev),_,bX⟩
 · intro d k cp ai
   rcases aT.az with⟨rfl,_⟩|⟨q,rfl,_,bX,eG,gi⟩
   · cases ai
   · cases ai;exact⟨gi,λh=>(by rw[h] at bX;exact zE bX aT.ev),_,bX⟩
theorem m7.next{F:Nat->Prop}{h0:ab}{p e w:Nat}{bA aU:ad}{ns:List bb}{ids:List Nat}{a1 CD:List ad}{s:bZ}{y g:ab}(aT:m7 F h0 p e w bA aU ns ids a1 s y)(gU:∀b,F b->b<h0.n)(aH:y.n<=g.n)(ay:∀d,d<y.n->d≠e->kT 5 (y.get d)->g.get d=y.get d)(agh:∀d,d<h0.n->g.get d=y.get d)(he:g.get e=some (nJ CD bA aU)):m7 F h0 p e w bA aU ns ids CD s g:=by
 obtain⟨FP,FQ⟩:=aT.Cy
 have I:=aT.gv.n
 have ae:=aT.c6
 have ax:=aT.xu
 have aN:=aT.ly
 refine⟨aT.st.move aH (λd ai mm ao=>ay d ai (λh=>mm ⟨ai,.inr (.inl h)⟩) ao) (λd ai j_=>?_),⟨by omega,λd ai hf=>(agh d ai).trans (aT.gv.get d ai hf)⟩,he,bT.bB aT.ns aH λq aK k3=>?_,bT.bB aT.az aH λq aK k3=>?_,ae,ax,by omega⟩
 · obtain⟨_,sL⟩:=j_
   rcases sL with h|h|h|h|h|h
   · exact .inl ⟨ai,.inl h⟩
   · exact .inl ⟨ai,.inr (.inl h)⟩
   · exact .inl ⟨ai,.inr (.inr (.inl h))⟩
   · exact .inl ⟨ai,.inr (.inr (.inr (.inl h)))⟩
   · exact .inl ⟨ai,.inr (.inr (.inr (.inr (.inl h))))⟩
   · by_cases q7:d=e
     · exact .inl ⟨ai,.inr (.inl q7)⟩
     · exact .inr λao=>h (by rw[ay d ai q7 ao];exact ao)
 · obtain⟨_,b0,cs,dF⟩:=FP q _ _ aK
   exact ay q k3 b0 (by rw[dF];exact xm (by decide))
 · obtain⟨_,b0,cs,dF⟩:=FQ q _ _ aK
   exact ay q k3 b0 (by rw[dF];exact xm (by decide))
theorem m7.child{F:Nat->Prop}{h0:ab}{p e w:Nat}{bA aU:ad}{ns:List bb}{ids:List Nat}{a1 CD:List ad}{s s':bZ}{y g:ab}(aT:m7 F h0 p e w bA aU ns ids a1 s y)(gU:∀b,F b->b<h0.n)(al:gK (Loc F y e w bA aU) g p s')(ay:cj (Loc F y e w bA aU) y g):m7 F h0 p e w bA aU ns ids CD s' (g.set e (some (nJ CD bA aU))):=by
 obtain⟨FP,FQ⟩:=aT.Cy
 have I:=aT.gv.n
 have ae:=aT.c6
 have ax:=aT.xu
 have aN:=aT.ly
 have bS:=ay.n
 refine⟨al.move (Nat.le_refl _) (λd ai mm ao=>cX (λh=>mm ⟨by omega,.inr (.inl h)⟩) rfl) (λd ai j_=>?_),⟨by simp;omega,λd ai hf=>?_⟩,eK rfl,bT.bB aT.ns (by simp;omega) λq aK k3=>?_,bT.bB aT.az (by simp;omega) λq aK k3=>?_,ae,ax,by simp;omega⟩
 · obtain⟨_,sL⟩:=j_
   rcases sL with h|h|h|h|h|h
   · exact .inl ⟨by have:=gU d h;omega,.inl h⟩
   · exact .inl ⟨by omega,.inr (.inl h)⟩
   · exact .inl ⟨by omega,.inr (.inr (.inl h))⟩
   · obtain⟨k,cp,aK⟩:=h
     exact .inl ⟨(FP d k cp aK).1,.inr (.inr (.inr (.inl ⟨_,_,aK⟩)))⟩
   · obtain⟨k,cp,aK⟩:=h
     exact .inl ⟨(FQ d k cp aK).1,.inr (.inr (.inr (.inr (.inl ⟨_,_,aK⟩))))⟩
   · by_cases q7:d=e
     · exact .inl ⟨by omega,.inr (.inl q7)⟩
     · exact .inr λao=>h (by rw[cX q7 rfl];exact ao)
 · exact(cX (by omega) rfl).trans ((ay.get d (by omega) ⟨by omega,.inl hf⟩).trans (aT.gv.get d ai hf))
 · obtain⟨_,b0,_⟩:=FP q _ _ aK
   exact(cX b0 rfl).trans (ay.get q k3 ⟨k3,.inr (.inr (.inr (.inl ⟨_,_,aK⟩)))⟩)
 · obtain⟨_,b0,_⟩:=FQ q _ _ aK
   exact(cX b0 rfl).trans (ay.get q k3 ⟨k3,.inr (.inr (.inr (.inr (.inl ⟨_,_,aK⟩))))⟩)
theorem FR(l:List aJ){i:Nat}(h:i<l.length):dH (l.take i)+sz l[i]<=dH l:=by
 have key:∀a b:List aJ,dH (a++b)=dH a+dH b:=by
  intro a b
  induction a with
  |nil=>rw[dH,List.nil_append];omega
  |cons x a bl=>rw[List.cons_append,dH,bl,dH];omega
 have e:=key (l.take i) (l.drop i)
 rw[List.take_append_drop,List.drop_eq_getElem_cons h,dH] at e
 omega
theorem SF:∀{ns:List bb},(∀s∈ns,s.length<=24)->gI 1 ns<=25*ns.length
 |[],_=>by rw[gI];exact Nat.zero_le _
 |x::l,h=>by
  have I:=h x (List.mem_cons_self ..)
  have ae:=SF (ns:=l) λs al=>h s (List.mem_cons_of_mem _ al)
  rw[gI,List.length_cons];omega
theorem KG:∀(N:Nat) (t:aJ),sz t<=N->dE (some t)=0->∀n,sz t+10<=n->Ss n t
 |0,t,h,_,_,_=>by have:=p0 t;omega
 |N+1,.mk k nm ns xs rt,hh,ah,n,aH=>by
  intro F h p v s st al gr KE tv gU aI
  obtain⟨aM,bf⟩:=lK.1 ah
  obtain⟨iN,mm,agi⟩:=FK bf
  have bJ:=l3 k nm ns xs rt
  have fH:=mo xs
  obtain⟨r,sg,xx,cY,vs,bq,lo,up,rfl,KH,js,l1,qs,xy,sP⟩:=aI
  obtain⟨m,rfl⟩:∃m,n=m+5+1:=⟨n-6,by omega⟩
  have xg:=gU r KH
  refine wz (R:=λx=>∃g,x=.ret (aC (ch (.mk k nm ns xs rt) s).1) g/\gK F g p (ch (.mk k nm ns xs rt) s).2/\cj F h g) (intr:=ea) (n:=m+5) (args:=[.ptr p 0,.ptr r 0]) Tryz.func26 (by kernel_rfl) (by kernel_rfl) (by kernel_rfl) (Q:=λb2 st=>b2=.ret/\∃g,st=⟨[(4,aC (ch (.mk k nm ns xs rt) s).1)],[],.none,g⟩/\gK F g p (ch (.mk k nm ns xs rt) s).2/\cj F h g) ?_ ?_
  rotate_left
  · rintro e st ⟨rfl,g,rfl,I,ae⟩
    exact .inl ⟨.inl rfl,rfl,aC (ch (.mk k nm ns xs rt) s).1,by kernel_rfl,g,rfl,I,ae⟩
  have KI:∃v2 ak,Y (m+5) (.fn 38) [sg] h=.ret v2 ak/\k0 h.n ak v2 ns/\Ext h.n h ak/\v2.de=true:=by
   have CE:c5 h.n h sg (ns.map .str):=by
    rcases l1 with⟨a,b⟩|⟨b,off,cp,cu,cU,dm,e0,ey,s8⟩
    · exact .inl ⟨a,b⟩
    · exact .inr ⟨b,off,cp,cu,gU b cU,dm,e0,ey⟩
   rcases E_ (m+4) (Nat.le_refl _) CE (by rw[List.length_map];omega) (by simp[List.all_map,ad.de]) with⟨_,e,c⟩|⟨I,b,ak,c,bn,bo,c9,fS⟩
   · have c6:ns=[]:=by simpa using e
     exact⟨.aP,h,c,.inl ⟨rfl,c6⟩,Ext.refl _ _,rfl⟩
   · rw[List.length_map] at I c
     refine⟨_,ak,c,.inr ⟨b,rfl,I,?_,bn,bo⟩,fS,rfl⟩
     rw[kn];exact c9
  obtain⟨v2,ak,yh,xz,Cv,jJ⟩:=KI
  have aB:=Cv.n
  obtain⟨I,kr⟩:∃I,I=ak.push (nJ pv v2 .aP):=⟨_,rfl⟩
  obtain⟨ae,uw⟩:∃ae,ae=I.push (aQ [.aX,.aP] 92):=⟨_,rfl⟩
  have akc:I.n=ak.n+1:=by rw[kr];rfl
  have akd:ae.n=I.n+1:=by rw[uw];rfl
  have p8:Ext ak.n ak ae:=by rw[uw];refine Ext.lV (by omega) ?_;rw[kr];exact Ext.push (Nat.le_refl _) _
  have vp:Ext h.n h ae:=Cv.trans aB p8
  have agj:ae.get ak.n=some (nJ pv v2 .aP):=by rw[uw];refine nn (by omega) ?_;rw[kr];exact e7 rfl
  have agk:ae.get I.n=some (aQ [.aX,.aP] 92):=by rw[uw];exact e7 rfl
  have SG:k0 h.n ae v2 ns:=xz.mono p8 (Nat.le_refl _)
  have xA:m7 F h p ak.n I.n v2 .aP ns [] pv s ae:=by
   refine⟨st.move vp.n (λd ai _ _=>vp.get d ai) (λd ai j_=>?_),cj.ext vp,agj,SG,.inl ⟨rfl,rfl⟩,aB,by omega,by omega⟩
   obtain⟨_,sL⟩:=j_
   rcases sL with aK|aK|aK|⟨_,_,aK⟩|⟨_,_,aK⟩|aK
   · exact .inl aK
   · omega
   · omega
   · rcases SG with⟨e,_⟩|⟨b,e,_,_,eG,_⟩
     · rw[e] at aK;cases aK
     · rw[e] at aK;cases aK;omega
   · cases aK
   · exact .inr (by rw[<-vp.get d ai];exact aK)
  have mC:lk ae.n I.n ae (fs []):=⟨.aX,.aP,agk,.inl rfl,.inl ⟨rfl,rfl⟩,by omega,Nat.le_refl _,λ_=>rfl⟩
  refine ke [] (afF _ p r h (ke [1] (afG _ p r h (ke [1,1] (afH _ p r h ⟨sg,aF js rfl,v2,ak,yh,jJ,jJ,ke [1,1,1] ?_⟩)))))
  have aG:ak.push (aQ [J 0,.str [],.str [],.str [],aC 0,v2,.aP,J 0,J 0,aC 0] 65)=I:=by rw[kr];rfl
  rw[aG]
  refine afI _ p r ak.n I (ke [1,1,1,1] ?_)
  rw[<-uw]
  have Aq:vs.length=xs.length:=cN.len xy
  have KJ:∀g,bV an g 50 xx=some (J vs.length):=λg=>by
   rcases qs with⟨rfl,rfl⟩|⟨b,off,cp,rfl,_⟩<;>rfl
  have rest:∀(y:ab) (aU:ad) (Γ:Env),m7 F h p ak.n I.n v2 aU ns (cf xs s).1 pv (cf xs s).2 y->lk ae.n I.n y (fs (cf xs s).1)->bp an Tryz.f26 (Y (m+5)) [1,1,1,1,1] ⟨[(0,.ptr p 0),(1,.ptr r 0),(5,.fn 26 [.ptr p 0] []),(6,.ptr ak.n 0),(7,.ptr I.n 0)],[],.none,y⟩ (λb2 st=>b2=.ret/\∃g,st=⟨[(4,aC (ch (.mk k nm ns xs rt) s).1)],[],.none,g⟩/\gK F g p (ch (.mk k nm ns xs rt) s).2/\cj F h g):=by
   intro y aU Γ aT ag
   have gv:=aT.gv
   have kF:=gv.n
   have ake:=aT.ly
   have akf:=aT.xu
   have FT:y.get r=h.get r:=gv.get r xg KH
   have xB:y.get r=some (.cells [J k,.str nm,sg,xx,cY] 80 bq lo up):=FT.trans js
   have agl:ll F (y.room 19) sg (ns.map .str):=ll.bB (λb ag=>⟨ag,gv.get b (gU b ag) ag⟩) l1
   obtain⟨FU,agm,SH⟩:=ae6 (m+1) agl (λb ag=>by have:=gU b ag;have:(y.room 19).n=y.n+19:=rfl;omega) (λs al=>(iN s al).1) (by omega) (by have:=SF agi;omega)
   have KA:(y.room 19).n=y.n+19:=rfl
   have agn:=SH.n
   have CF:∀d,d<y.n->FU.get d=y.get d:=λd ai=>SH.get d (by omega)
   have ago:lk ae.n I.n FU (fs (cf xs s).1):=lk.Sq ag (by omega) λd ai _=>CF d ai
   have lh:=zD xs s
   obtain⟨av,cs,SI,agp⟩:=afP (m+4) I.n ae.n FU _ ago (by rw[KB];omega)
   have akg:=SI.n
   have zK:∀d,d<y.n->kT 5 (y.get d)->av.get d=y.get d:=λd ai ao=>by
    have aO:=CF d ai
    exact(agp d (by omega) (by rw[aO];exact ao)).trans aO
   have ge:av.get ak.n=some (nJ pv v2 aU):=(zK ak.n (by omega) (by rw[aT.ev];exact Cs)).trans aT.ev
   have KK:∀d,d<h.n->av.get d=y.get d:=λd ai=>(SI.get d (by omega)).trans (CF d (by omega))
   obtain⟨aD,hE⟩:∃aD,aD=av.set ak.n (some (nJ [J k,.str nm,.str (hl ns),.str (fs (cf xs s).1),aC 0] v2 aU)):=⟨_,rfl⟩
   have tw:m7 F h p ak.n I.n v2 aU ns (cf xs s).1 [J k,.str nm,.str (hl ns),.str (fs (cf xs s).1),aC 0] (cf xs s).2 aD:=by
    refine aT.next gU (by rw[hE];simp;omega) (λd ai q7 ao=>?_) (λd ai=>?_) (by rw[hE];exact eK rfl)
    · rw[hE];exact(cX q7 rfl).trans (zK d ai ao)
    · rw[hE];exact(cX (by omega) rfl).trans (KK d ai)
   refine ke [1,1,1,1,1] (afM _ p r ak.n I.n y ⟨k,aF (h:=y.room 19) xB rfl,nm,aF (h:=y.room 19) xB rfl,sg,aF (h:=y.room 19) xB rfl,hl ns,FU,agm,fs (cf xs s).1,av,cs,aD,by rw[hE];exact eV ge rfl rfl,aF ((KK r xg).trans xB) rfl,aF ((CF r (by omega)).trans xB) rfl,aF ((KK r xg).trans xB) rfl,aF ((CF r (by omega)).trans xB) rfl,?_,?_⟩)
   · rcases l1 with⟨rfl,_⟩|⟨b,off,cp,rfl,_⟩<;>rfl
   obtain⟨mg,_,agq⟩:=sb xs al
   obtain⟨dS,gb,_⟩:=xr xs s
   have FV:=FL xs s (λu hu=>pk ah hu) gr
   have node3:aD.get r=some (.cells [J k,.str nm,sg,xx,cY] 80 bq lo up):=(tw.gv.get r xg KH).trans js
   have agr:∀i∈(cf xs s).1,i<18446744073709551616:=λi hi=>by
    obtain⟨q,aK,my⟩:=agq i hi
    have:=(mg.lo q aK).2.1
    omega
   have vh:=Kx rt (cf xs s).2
   have fin:∀{s2 r2 jQ},m7 F h p ak.n I.n v2 aU ns (cf xs s).1 [J k,.str nm,.str (hl ns),.str (fs (cf xs s).1),aC r2] s2 jQ->(r2,s2)=fM rt (cf xs s).2->bp an Tryz.f26 (Y (m+5)) [1,1,1,1,1,1,1] ⟨[(0,.ptr p 0),(6,.ptr ak.n 0)],[],.none,jQ⟩ (λb2 st=>b2=.ret/\∃g,st=⟨[(4,aC (ch (.mk k nm ns xs rt) s).1)],[],.none,g⟩/\gK F g p (ch (.mk k nm ns xs rt) s).2/\cj F h g):=by
    intro s2 r2 jQ KL dN
    have KM:(fM rt (cf xs s).2).1=r2:=by rw[<-dN]
    have CG:(fM rt (cf xs s).2).2=s2:=by rw[<-dN]
    obtain⟨lS,_,_⟩:=B4 rt mg
    have Hc:=Sn rt (cf xs s).2 (λu hu=>by subst hu;exact xt ah) FV
    rw[CG] at lS Hc vh
    have:=af0 (m+2) gU KL lS Hc (by omega) (by omega) iN (by omega) agr
    rw[ch,KM,CG]
    exact this
   refine ke [1,1,1,1,1,1] ?_
   cases rt with
   |none=>
    have e:cY=.aX:=sP
    subst e
    exact afO _ p r ak.n aD ⟨aF node3 rfl,fin tw (by rw[fM])⟩
   |some u=>
    have hu:=xt ah
    rw[jk] at bJ
    obtain⟨fY,KN⟩:=ew.ptr sP
    subst KN
    have Cw:=KG N u (by omega) hu (m+5) (by omega)
    have ags:ew (Loc F aD ak.n I.n v2 aU) aD u (.ptr fY 0):=ew.bB (λb ag=>⟨⟨by have:=gU b ag;have:=tw.gv.n;omega,.inl ag⟩,tw.gv.get b (gU b ag) ag⟩) _ _ sP
    obtain⟨a4,fQ,KO,gA⟩:=Cw _ aD p (.ptr fY 0) _ tw.st mg FV (by omega) (by omega) (λb ag=>ag.1) ags
    have agt:a4.get ak.n=some (nJ [J k,.str nm,.str (hl ns),.str (fs (cf xs s).1),aC 0] v2 aU):=(gA.get _ (by have:=tw.ly;omega) ⟨by have:=tw.ly;omega,.inr (.inl rfl)⟩).trans tw.ev
    exact afN _ p r ak.n aD ⟨fY,aF node3 rfl,fY,aF node3 rfl,(ch u (cf xs s).2).1,a4,fQ,_,eV agt rfl rfl,fin (tw.child gU KO gA) (by rw[fM])⟩
  refine afJ _ p r ak.n I.n ae ⟨xx,aF ((vp.get r xg).trans js) rfl,vs.length,KJ ae,?_⟩
  rcases qs with⟨rfl,rfl⟩|⟨b,off,cp,rfl,SJ,gf,rE,_⟩
  · have c6:xs=[]:=List.eq_nil_of_length_eq_zero (by rw[<-Aq];rfl)
    subst c6
    refine e8 (λk st=>∃Γ,st=aks Γ ae/\bY [(0,.ptr p 0),(1,.ptr r 0),(5,.fn 26 [.ptr p 0] []),(6,.ptr ak.n 0),(7,.ptr I.n 0),(25,.aP),(26,J 0),(27,J 0)] Γ) ?_ 0 _ (by omega) ⟨_,rfl,rfl,rfl,rfl,rfl,rfl,rfl,rfl,rfl,trivial⟩
    rintro cO st ⟨Γ,rfl,cn⟩
    refine ei (afL _ p r ak.n I.n .aP ae ⟨by omega,ae,_,rfl,rfl,⟨rfl,rfl,rfl,rfl,rfl,trivial⟩,?_⟩) cn
    exact rest ae .aP [] (by rw[cf];exact xA) (by rw[cf];exact mC)
  · refine e8 (λk st=>∃i y aU Γ,st=aks Γ y/\bY [(0,.ptr p 0),(1,.ptr r 0),(5,.fn 26 [.ptr p 0] []),(6,.ptr ak.n 0),(7,.ptr I.n 0),(25,.slice b off vs.length cp),(26,J vs.length),(27,J i)] Γ/\vs.length-i=k/\i<=vs.length/\m7 F h p ak.n I.n v2 aU ns (cf (xs.take i) s).1 pv (cf (xs.take i) s).2 y/\lk ae.n I.n y (fs (cf (xs.take i) s).1)) ?_ vs.length _ (by omega) ⟨0,ae,.aP,_,rfl,⟨rfl,rfl,rfl,rfl,rfl,rfl,rfl,rfl,trivial⟩,by omega,by omega,by rw[List.take_zero,cf];exact xA,by rw[List.take_zero,cf];exact mC⟩
    rintro cO st ⟨i,y,aU,Γ,rfl,cn,fl,hi,aT,ag⟩
    refine ei (afK _ p r ak.n I.n b off _ i cp y ⟨λi1=>?_,λi1=>?_⟩) cn
    · have i2:i<xs.length:=by omega
      have sH:=cN.get xy i i1 i2
      obtain⟨lC,oR⟩:=ew.ptr sH
      have ci:=pk ah (show xs[i]∈(aJ.mk k nm ns xs rt).xs from List.getElem_mem i2)
      have KP:=FR xs i2
      have Cw:=KG N xs[i] (by omega) ci (m+5) (by omega)
      obtain⟨mg,_,_⟩:=sb (xs.take i) al
      obtain⟨dS,gb,_⟩:=xr (xs.take i) s
      have FV:=FL (xs.take i) s (λu hu=>pk ah (List.mem_of_mem_take hu)) gr
      obtain⟨J9,d1,d2,jn,Ci,d3,d4,J_,d5,Ka,d6,SK,d7,agu,hP⟩:=afR (m+2) gU aT ag (by omega) (by have:=aT.xu;omega) Cw mg FV (by omega) (by omega) sH (by rw[zD,List.length_take];omega)
      rw[oR] at d1
      have FW:cf (xs.take (i+1)) s=((cf (xs.take i) s).1++[(ch xs[i] (cf (xs.take i) s).2).1],(ch xs[i] (cf (xs.take i) s).2).2):=by
       rw[List.take_succ_eq_append_getElem i2,Ky]
      have GV:aq y b (off+i*1)=some (.ptr lC 0):=by
       have e:=aT.gv.get b (gU b SJ) SJ
       have aE:=gf i i1
       rw[oR] at aE
       rw[<-aE];exact q1 e
      exact⟨i1,lC,GV,_,J9,d1,aU,d2,jn,Ci,d3,d4,J_,d5,_,Ka,d6,_,_,SK,d7,by omega,_,(by show _<cO;omega),i+1,SK,jn,_,rfl,⟨rfl,rfl,rfl,rfl,rfl,rfl,rfl,rfl,trivial⟩,rfl,by omega,by rw[FW];exact agu,by rw[FW];exact hP⟩
    · obtain rfl:i=vs.length:=by omega
      have e:xs.take vs.length=xs:=List.take_of_length_le (by omega)
      rw[e] at aT ag
      exact⟨y,_,rfl,rfl,⟨rfl,rfl,rfl,rfl,rfl,trivial⟩,rest y aU [] aT ag⟩
end Go.Proofs.kU
