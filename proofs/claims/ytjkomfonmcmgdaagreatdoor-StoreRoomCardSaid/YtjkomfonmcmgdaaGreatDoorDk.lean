/-
  PROVED HERE: contracts of functions (Dk). No condition beside each statement's own.
-/
import Derived.Test.YtjkomfonmcmgdaaGreatDoorDj
set_option linter.unusedVariables false
set_option linter.unusedSimpArgs false
namespace Go.Proofs.dj
open Go aP Go.Proofs c8 Go.Proofs.cG
set_option maxRecDepth 100000
set_option maxHeartbeats 1000000
theorem aar(m:Nat)(p:Nat)(h:J){R:av->Prop}(H:a3 Tryz.prog Tryz.f22 (Y m) [1,1,0] (ah.mk [(1,.ptr h.n 0),(2,.fn 40 [] [.ptr h.n 0])] [] .none (J.push h (.cells [.ptr p 0] 23 .own 0 0))) (λb9 cj=>((∃ai:J,∃bz:Env,b9=.exit 0/\cj=ah.mk bz [] .none ai/\b_ [] bz/\R (.ret (.aQ []) ai))\/(∃ax:J,∃bR:Env,b9=.ret/\cj=ah.mk bR [] .none ax/\b_ [] bR/\R (.ret (.aQ []) ax))))):
  R (Y (m+1) (.fn 22) [.ptr p 0] h):=
 dI (intr:=b0) [(4000,.gT [1,2] [(.exit 0,[]),(.ret,[])])] [(0,.v (.ptr p 0))] Tryz.func22 (by kernel_rfl) (by kernel_rfl) (by kernel_rfl) rfl (Eq.mp (by kernel_rfl) H)
theorem aas(call:aI->List I->J->av)(c:Nat)(aZ:Nat)(bQ:Nat)(h:J){Q:bn->ah->Prop}(H:∃aD:Nat,au (h.room 10) c 0=some (.ptr aD 0)/\au (h.room 10) aD (0+3)=some (.map aZ)/\∃bj:Nat,cc Tryz.prog (h.room 10) 55 (.map aZ)=some (.int .i64 (.ofNat bj))/\∃bD:Nat,au (h.room 10) c 0=some (.ptr bD 0)/\∃bT:Nat,au (h.room 10) bD (0+0)=some (.int .i64 (.ofNat bT))/\(bT<bj->∃b5:Nat,∃ai:J,call (.fn 40) [.ptr c 0] (h.room 10)=.ret (.int .u64 (.ofNat b5)) ai/\(b5=0->Q .ret (ah.mk [(1,.ptr c 0),(2,.fn 40 [] [.ptr c 0])] [] .none ai))/\(¬b5=0->∃cx:Nat,au ai c 0=some (.ptr cx 0)/\au ai cx (0+3)=some (.map aZ)/\∃da:Nat,hy Tryz.prog ai 55 (.map aZ) (.int .u64 (.ofNat b5)) false=some (.ptr da 0)/\∃et:Nat,au ai c 0=some (.ptr et 0)/\∃ax:J,call (.fn 41) [.ptr et 0,.ptr da 0,.int .i64 (.negSucc 0)] ai=.ret (.aQ []) ax/\∃eO:Nat,au (ax.room 9) c 0=some (.ptr eO 0)/\au (ax.room 9) eO (0+4)=some (.map bQ)/\∃gf:Nat,∃s1:List UInt8,∃s2:List UInt8,∃bK:List UInt8,∃iP:Nat,aP.loadCells (ax.room 9) da (0+0) 5=some [.int .i64 (.ofNat gf),.str s1,.str s2,.str bK,.int .u64 (.ofNat iP)]/\∃aB:J,pb Tryz.prog (ax.room 9) 56 (.map bQ) (.agg [.int .i64 (.ofNat gf),.str s1,.str s2,.str bK,.int .u64 (.ofNat iP)])=some (.aQ [],aB)/\∃jz:Nat,au aB c 0=some (.ptr jz 0)/\au aB jz (0+3)=some (.map aZ)/\∃bE:J,pb Tryz.prog aB 55 (.map aZ) (.int .u64 (.ofNat b5))=some (.aQ [],bE)/\Q .nrm (ah.mk [(1,.ptr c 0),(2,.fn 40 [] [.ptr c 0])] [] .none bE)))/\(¬bT<bj->Q (.exit 0) (ah.mk [(1,.ptr c 0),(2,.fn 40 [] [.ptr c 0])] [] .none (h.room 10)))):
  a3 Tryz.prog Tryz.f22 call [1,1,0,0] ⟨[(1,.ptr c 0),(2,.fn 40 [] [.ptr c 0])],[],.none,h⟩ Q:=
 dB [(9,.bA (.is (.map aZ))),(23,.bA (.is (.map aZ))),(32,.bA (.is (.map bQ))),(40,.bA (.is (.map aZ))),(25,.bA .p)] [1,2] [(1,.v (.ptr c 0)),(2,.v (.fn 40 [] [.ptr c 0]))] rfl (Eq.mp (by kernel_rfl) H)
structure wX(l:List ca)(M:List Mem):Prop where
 e:M.map Mem.e=l
 ao:∀x∈M,x.ao=Int.ofNat (eA x.e.id l)
def ng(l:List ca)(x:Mem):dX:=⟨x.e.id,x.b,x.e.pins,eA x.e.id l,x.e.used,x.dz⟩
theorem N_{h:J}{f:Mem->dX}:∀{M:List Mem},(∀x∈M,sd h (hM x)=some (f x))->ug h (M.map hM)=some (M.map f)
 |[],_=>rfl
 |x::M,aa=>by
  rw[List.map_cons,ug,aa x (List.mem_cons_self ..),N_ λy aS=>aa y (List.mem_cons_of_mem _ aS)];rfl
theorem Cp:∀{l:List Nat},l.Pairwise (· ≠ ·)->md l=true
 |[],_=>rfl
 |a::l,h=>by
  rw[List.pairwise_cons] at h
  have:(l.any λx=>Nat.beq a x)=false:=List.any_eq_false.2 λx aa=>by
   intro e
   exact h.1 x aa (Nat.eq_of_beq_eq_true e)
  rw[md,this]
  exact Cp h.2
theorem Cq{l:List ca}{x:Mem}:(ng l x).loose=p5 l x.e:=rfl
def Cr:Option ca->Nat
 |none=>0
 |some e=>e.id
theorem aat{s:cm}(hs:dw s){M:List Mem}(aj:wX s.l M):Ff (nS (M.map (ng s.l)))=Cr (ig s.l s.l):=by
 cases ae:ig s.l s.l with
 |none=>
  have aN:=wE.1 ae
  cases hm:nS (M.map (ng s.l)) with
  |none=>rfl
  |some d=>
   obtain⟨ab,ad,_⟩:=yI hm
   obtain⟨x,aa,rfl⟩:=List.mem_map.1 ab
   have j2:x.e∈s.l:=by rw[<-aj.e];exact List.mem_map.2 ⟨x,aa,rfl⟩
   rw[Cq,aN _ j2] at ad;cases ad
 |some e=>
  obtain⟨bo,bG,ed⟩:=sC ae
  obtain⟨y,aS,G2⟩:=List.mem_map.1 (aj.e▸bo:e∈M.map Mem.e)
  cases hm:nS (M.map (ng s.l)) with
  |none=>
   have:=Bz hm (ng s.l y) (List.mem_map.2 ⟨y,aS,rfl⟩)
   rw[Cq,G2,bG] at this;cases this
  |some d=>
   obtain⟨ab,ad,ar⟩:=yI hm
   obtain⟨x,aa,rfl⟩:=List.mem_map.1 ab
   have j2:x.e∈s.l:=by rw[<-aj.e];exact List.mem_map.2 ⟨x,aa,rfl⟩
   have bz:=ar (ng s.l y) (List.mem_map.2 ⟨y,aS,rfl⟩) (by rw[Cq,G2];exact bG)
   have bR:=ed x.e j2 (by rw[<-Cq];exact ad)
   have aau:x.e.used<=y.e.used:=bz
   rw[G2] at aau
   show x.e.id=e.id
   exact hs.one _ j2 _ bo (by omega)
theorem aav(m:Nat){G:Nat->Prop}{h:J}{p aZ bQ aH a9 c:Nat}{s:cm}{M:List Mem}(w:gj G h p aZ bQ aH a9 s.cap s.given s.clock M)(aj:wX s.l M)(hs:dw s)(ag:au h c 0=some (.ptr p 0))(qq:c<h.n):Y (m+1) (.fn 40) [.ptr c 0] h=.ret (.int .u64 (Int.ofNat (Cr (ig s.l s.l)))) (h.room (1+32*M.length)):=by
 obtain⟨bz,bR,cU,iy⟩:=w.aO
 have aaw:ug h (M.map hM)=some (M.map (ng s.l)):=N_ λx aa=>by
  have he:=w.eu x aa
  have ak:=aj.ao x aa
  have qS:au h x.b 7=some (.int .i64 (Int.ofNat x.e.pins)):=aV he rfl
  have k_:au h x.b 8=some (.int .i64 (Int.ofNat (eA x.e.id s.l))):=by rw[<-ak];exact aV he rfl
  have yE:au h x.b 9=some (.int .u64 (Int.ofNat x.e.used)):=aV he rfl
  unfold sd hM
  simp only[qS,k_,yE];rfl
 have d1:md ((M.map (ng s.l)).map dX.born)=true:=by
  rw[List.map_map]
  exact Cp (List.pairwise_map.2 (w.dz.imp λ{a b} fc=>fc))
 have d2:md ((M.map (ng s.l)).map dX.id)=true:=by
  rw[List.map_map]
  exact Cp (List.pairwise_map.2 (w.up.imp λ{a b} fc=>by show a.e.id≠b.e.id;omega))
 have d3:md (((M.map (ng s.l)).filter dX.loose).map dX.used)=true:=by
  refine Cp (List.pairwise_map.2 (List.Pairwise.filter _ (List.pairwise_map.2 ?_)))
  have zF:M.Pairwise λa b=>a.e∈s.l/\b.e∈s.l/\a.e.id<b.e.id:=by
   have h8:∀x∈M,x.e∈s.l:=λx aa=>by rw[<-aj.e];exact List.mem_map.2 ⟨x,aa,rfl⟩
   exact(List.Pairwise.and_mem.1 w.up).imp λ{a b} ⟨aT,ae,fc⟩=>⟨h8 a aT,h8 b ae,fc⟩
  refine zF.imp λ{a b} fc e=>?_
  have:=hs.one _ fc.1 _ fc.2.1 e
  omega
 have d4:((M.map (ng s.l)).all λd=>Nat.blt d.born aH&&Nat.blt 0 d.id)=true:=List.all_eq_true.2 λd ao=>by
  obtain⟨x,aa,rfl⟩:=List.mem_map.1 ao
  rw[Bool.and_eq_true,Nat.blt_eq,Nat.blt_eq]
  exact⟨(w.fG x aa).1,w.uH x aa⟩
 have d5:((M.map (ng s.l)).all λd=>Nat.blt d.b h.n)=true:=List.all_eq_true.2 λd ao=>by
  obtain⟨x,aa,rfl⟩:=List.mem_map.1 ao
  rw[Nat.blt_eq];exact iy x aa
 have bo:Nat.blt c h.n=true:=by rw[Nat.blt_eq];exact qq
 have bG:Nat.blt p h.n=true:=by rw[Nat.blt_eq];exact bz
 have ed:Nat.blt aZ h.n=true:=by rw[Nat.blt_eq];exact bR
 have ct:au h p 3=some (.map aZ):=aV w.st rfl
 have e:vV 40 [.ptr c 0] h=some (.int .u64 (Int.ofNat (Cr (ig s.l s.l))),h.room (1+32*M.length)):=by
  have ae:Nat.beq 40 40=true:=rfl
  have de:uh (M.map (ng s.l)) aH=true:=by unfold uh;rw[d1,d2,d3,d4];rfl
  unfold vV
  simp only[ae,ag,ct,w.aA,aaw,de,bo,bG,ed,d5,aat hs aj,List.length_map];rfl
 have cF:b0 40 [.ptr c 0] h=some (.int .u64 (Int.ofNat (Cr (ig s.l s.l))),h.room (1+32*M.length)):=e
 show fa Tryz.prog b0 (m+1) _ _ _=_
 simp only[fa,cF]
theorem aax{i:Nat}{l:List ca}{x:Nat}(h:∀e∈l,e.id≠x):hL x l=l:=by
 unfold hL
 refine List.filter_eq_self.2 λe he=>?_
 cases ae:Nat.beq e.id x with
 |false=>rfl
 |true=>exact absurd (Nat.eq_of_beq_eq_true ae) (h e he)
theorem drop_cons{e:ca}{l:List ca}(x:Nat):hL x (e::l)=if e.id=x then hL x l else e::hL x l:=by
 unfold hL
 rw[List.filter_cons]
 by_cases h:e.id=x
 · rw[if_pos h,h,Nat.beq_refl];rfl
 · rw[if_neg h]
   cases ae:Nat.beq e.id x with
   |false=>rfl
   |true=>exact absurd (Nat.eq_of_beq_eq_true ae) h
theorem Oa{l:List ca}(aK:l.Pairwise (λa b=>a.id<b.id)){x:ca}(aa:x∈l)(i:Nat):eA i l=x.parts.count i+eA i (hL x.id l)/\(hL x.id l).length+1=l.length:=by
 induction l with
 |nil=>cases aa
 |cons e l a7=>
  rw[List.pairwise_cons] at aK
  rw[drop_cons]
  rcases List.mem_cons.1 aa with rfl|aa
  · have:=aax (i:=0) (l:=l) (x:=x.id) λe he=>by have:=aK.1 e he;omega
    rw[if_pos rfl,this]
    exact⟨by rw[eA],rfl⟩
  · have cS:¬e.id=x.id:=by have:=aK.1 x aa;omega
    obtain⟨ab,ad⟩:=a7 aK.2 aa
    rw[if_neg cS,eA,eA,List.length_cons,List.length_cons]
    exact⟨by omega,by omega⟩
theorem gj.del{G:Nat->Prop}{h:J}{p aZ bQ aH a9 cap given clock:Nat}{M:List Mem}(w:gj G h p aZ bQ aH a9 cap given clock M)(q:Mem->Bool):gj G ((h.set bQ (some (.map ((M.filter q).map jf) a9))).set aZ (some (.map ((M.filter q).map hM) aH))) p aZ bQ aH a9 cap given clock (M.filter q):=by
 have sub:∀x∈M.filter q,x∈M:=λx aa=>(List.mem_filter.1 aa).1
 have oL:p≠aZ:=λe=>by have:=w.st;rw[e,w.aA] at this;cases this
 have nX:p≠bQ:=λe=>by have:=w.st;rw[e,w.ay] at this;cases this
 have pP:∀x∈M,x.b≠aZ:=λx aa e=>by have:=w.eu x aa;rw[e,w.aA] at this;cases this
 have qV:∀x∈M,x.b≠bQ:=λx aa e=>by have:=w.eu x aa;rw[e,w.ay] at this;cases this
 have row:∀{D:Type} {enc:D->List I} {wd el:Nat} {v:I} {ds:List D},cC enc wd el 0 h v ds->cC enc wd el 0 ((h.set bQ (some (.map ((M.filter q).map jf) a9))).set aZ (some (.map ((M.filter q).map hM) aH))) v ds:=by
  intro D enc wd el v ds a4
  rcases a4 with a4|⟨r,r1,r2,ec,fb,ml⟩
  · exact .inl a4
  · refine .inr ⟨r,r1,r2,dM (λe=>?_) (dM (λe=>?_) ec),fb,by simpa using ml⟩
    · rw[e,w.aA] at ec;cases ec
    · rw[e,w.ay] at ec;cases ec
 exact⟨dM oL (dM nX w.st),gR rfl,dM (λe=>w.jR e.symm) (gR rfl),λx aa=>dM (pP x (sub x aa)) (dM (qV x (sub x aa)) (w.eu x (sub x aa))),λx aa=>row (w.ns x (sub x aa)),λx aa=>row (w.az x (sub x aa)),w.bs.filter _,w.dz.filter _,λx aa=>w.fG x (sub x aa),w.up.filter _,λx aa=>w.uH x (sub x aa),w.jR,⟨w.aO.1,w.aO.2.1,w.aO.2.2.1,λx aa=>w.aO.2.2.2 x (sub x aa)⟩,w.lF,λx aa=>w.ne x (sub x aa),λx aa=>w.wU x (sub x aa),λx aa=>w.wV x (sub x aa)⟩
structure p9(s:cm):Prop where
 args:∀e∈s.l,e.args.length<=61
 nm:∀e∈s.l,jC e.ns
 kJ:s.given<=10000
 oW:s.clock<=10000
theorem Ob{i:Nat}:∀{l:List ca},(∀e∈l,e.args.length<=61)->eA i l<=62*l.length
 |[],_=>by rw[eA];exact Nat.zero_le _
 |e::l,h=>by
  have ab:=Ob (i:=i) (l:=l) λx aa=>h x (List.mem_cons_of_mem _ aa)
  have ad:=h e (List.mem_cons_self ..)
  have ar:=List.count_le_length (a:=i) (l:=e.parts)
  have aG:e.parts.length=e.args.length+1:=rfl
  rw[eA,List.length_cons];omega
theorem Oc:∀{l:List ca} {g:Nat},l.Pairwise (λa b=>a.id<b.id)->(∀e∈l,0<e.id/\e.id<=g)->l.length<=g
 |[],_,_,_=>Nat.zero_le _
 |e::l,g,aK,al=>by
  rw[List.pairwise_cons] at aK
  have key:∀(l:List ca) (a:Nat),l.Pairwise (λa b=>a.id<b.id)->(∀e∈l,a<e.id/\e.id<=g)->l.length+a<=g\/l=[]:=by
   intro l
   induction l with
   |nil=>intro _ _ _;exact .inr rfl
   |cons x l a7=>
    intro a aK al
    rw[List.pairwise_cons] at aK
    have aa:=al x (List.mem_cons_self ..)
    rcases a7 x.id aK.2 (λe he=>⟨aK.1 e he,(al e (List.mem_cons_of_mem _ he)).2⟩) with h|h
    · left;rw[List.length_cons];omega
    · left;rw[h];simp;omega
  have:=key (e::l) 0 (List.pairwise_cons.2 aK) al
  rcases this with h|h
  · omega
  · cases h
theorem Od{s:cm}(hs:dw s)(ae:p9 s)(i:Nat):eA i s.l<=620000:=by
 have ab:=Ob (i:=i) ae.args
 have ad:=Oc hs.up λe he=>⟨(hs.aO e he).1,(hs.aO e he).2.1⟩
 have:=ae.kJ
 omega
end Go.Proofs.dj
namespace Go.Proofs.dj
open Go aP Go.Proofs c8 Go.Proofs.cG
set_option maxRecDepth 100000
set_option maxHeartbeats 1000000
def gE(F:Nat->Prop)(h:J)(p:Nat)(s:cm):Prop:=∃aZ bQ aH a9 M,gj F h p aZ bQ aH a9 s.cap s.given s.clock M/\wX s.l M
theorem aay(x:Mem):hx x.e.k x.e.nm (gm x.e.ns) (eE x.e.args) x.e.ret x=true:=by simp[hx]
theorem p9.drop{s:cm}(h:p9 s)(i:Nat):p9 {s with l:=hL i s.l}:=⟨λe he=>h.args e (m9.1 he).1,λe he=>h.nm e (m9.1 he).1,h.kJ,h.oW⟩
theorem G3{s:cm}(hs:dw s)(ae:p9 s){e:ca}(he:e∈s.l):∀i∈e.args,i<18446744073709551616:=λi af=>by
 have ab:=ae.kJ
 have ad:=(hs.aO e he).2.1
 rcases hs.part e he i (List.mem_cons_of_mem _ af) with h|⟨h,_⟩<;>omega
theorem aaz{s:cm}(hs:dw s)(ae:p9 s){M:List Mem}(g1:M.map Mem.e=s.l){x y:Mem}(aa:x∈M)(aS:y∈M):hx x.e.k x.e.nm (gm x.e.ns) (eE x.e.args) x.e.ret y=kp x.e.id y:=by
 have j2:x.e∈s.l:=by rw[<-g1];exact List.mem_map.2 ⟨x,aa,rfl⟩
 have zA:y.e∈s.l:=by rw[<-g1];exact List.mem_map.2 ⟨y,aS,rfl⟩
 rw[NY (ae.nm _ zA) (ae.nm _ j2) (G3 hs ae zA) (G3 hs ae j2)]
 unfold kp
 have key:∀(l:List ca),l.Pairwise (λa b=>b.is a.k a.nm a.ns a.args a.ret=false)->l.Pairwise (λa b=>a.id<b.id)->∀a∈l,∀b∈l,b.is a.k a.nm a.ns a.args a.ret=decide (b.id=a.id):=by
  intro l
  induction l with
  |nil=>intro _ _ a aT;cases aT
  |cons e l a7=>
   intro ab ad a aT b ae
   rw[List.pairwise_cons] at ab ad
   have self:∀e:ca,e.is e.k e.nm e.ns e.args e.ret=true:=λe=>p6.2 ⟨rfl,rfl,rfl,rfl,rfl⟩
   rcases List.mem_cons.1 aT with aT|aT<;>rcases List.mem_cons.1 ae with ae|ae
   · rw[aT,ae,self,decide_eq_true rfl]
   · rw[aT,ab.1 b ae,decide_eq_false];have:=ad.1 b ae;omega
   · rw[ae,ML,ab.1 a aT,decide_eq_false];have:=ad.1 a aT;omega
   · exact a7 ab.2 ad.2 a aT b ae
 exact key s.l hs.apart hs.up _ j2 _ zA
theorem Oe(z:Int)(l:List Nat)(M:List Mem):(M.map (bump z l)).map Mem.e=M.map Mem.e:=by
 rw[List.map_map];rfl
theorem aaA(i:Nat)(M:List Mem):(M.filter λz=>!kp i z).map Mem.e=hL i (M.map Mem.e):=by
 unfold hL
 rw[List.filter_map]
 congr 1
 refine List.filter_congr λz a2=>?_
 show(!kp i z)=!Nat.beq z.e.id i
 unfold kp
 congr 1
 cases G4:Nat.beq z.e.id i with
 |true=>exact decide_eq_true (Nat.eq_of_beq_eq_true G4)
 |false=>exact decide_eq_false λe=>by rw[e,Nat.beq_refl] at G4;cases G4
theorem Of(m:Nat){F:Nat->Prop}{h:J}{p:Nat}{s:cm}(w:gE F h p s)(hs:dw s)(ae:p9 s):∃g,Y (m+2) (.fn 22) [.ptr p 0] h=.ret (.aQ []) g/\gE F g p (n3 s)/\bW F h g:=by
 obtain⟨aZ,bQ,aH,a9,Og,gX,fA⟩:=w
 obtain⟨bz,bR,cU,iy⟩:=gX.aO
 obtain⟨H,cl⟩:∃H,H=h.push (.cells [.ptr p 0] 23 .own 0 0):=⟨_,rfl⟩
 have dE:Ext h.n h H:=by rw[cl];exact Ext.push (Nat.le_refl _) _
 have lg:H.n=h.n+1:=by rw[cl];rfl
 obtain⟨G,iL⟩:∃G:Nat->Prop,G=λd=>F d\/d=h.n:=⟨_,rfl⟩
 have aaB:gj G H p aZ bQ aH a9 s.cap s.given s.clock Og:=gX.move dE.n (λd ao _ _=>dE.get d ao) λd ao al=>by
  rw[iL] at al
  rcases al with al|al
  · exact .inl al
  · omega
 have Oh:∀d,F d->G d:=λd ao=>by rw[iL];exact .inl ao
 have Oi:G h.n:=by rw[iL];exact .inr rfl
 refine aar (m+1) p h (R:=λx=>∃g,x=.ret (.aQ []) g/\gE F g p (n3 s)/\bW F h g) ?_
 rw[<-cl]
 refine a3.loop (by kernel_rfl) (λk st=>∃y Γ l M,st=⟨Γ,[],.none,y⟩/\b_ [(1,.ptr h.n 0),(2,.fn 40 [] [.ptr h.n 0])] Γ/\l.length=k/\dw {s with l:=l}/\p9 {s with l:=l}/\gj G y p aZ bQ aH a9 s.cap s.given s.clock M/\wX l M/\h3 s.cap l.length l=h3 s.cap s.l.length s.l/\bW G H y) ?_ s.l.length _ (by
  have:=Oc hs.up λe he=>⟨(hs.aO e he).1,(hs.aO e he).2.1⟩
  have:=ae.kJ
  omega) ⟨H,_,s.l,Og,rfl,⟨rfl,rfl,trivial⟩,rfl,hs,ae,aaB,fA,rfl,bW.refl _ _⟩
 rintro k st ⟨y,Γ,l,M,rfl,cQ,aq,ok,cn,jY,uK,pr,fg⟩
 have uL:∀{x},bW G y x->au x h.n 0=some (.ptr p 0):=λe=>by
  have aA:H.get h.n=some (.cells [.ptr p 0] 23 .own 0 0):=by rw[cl];exact fo rfl
  exact aV ((e.get _ (by have:=fg.n;omega) Oi).trans ((fg.get _ (by omega) Oi).trans aA)) rfl
 have aaC:M.length=l.length:=by rw[<-uK.e,List.length_map]
 have fin:∀x,bW G y x->gj G x p aZ bQ aH a9 s.cap s.given s.clock M->h3 s.cap l.length l=l->∃g,av.ret (.aQ []) x=.ret (.aQ []) g/\gE F g p (n3 s)/\bW F h g:=λx e aaD aw=>by
  refine⟨x,rfl,⟨aZ,bQ,aH,a9,M,aaD.move (Nat.le_refl _) (λd _ _ _=>rfl) λd _ ao=>.inl (Oh d ao),?_⟩,?_⟩
  · have:(n3 s).l=l:=by show h3 s.cap s.l.length s.l=l;rw[<-pr,aw]
    rw[this];exact uK
  · have aA:=(fg.trans e)
    exact⟨by have:=aA.n;omega,λd ao hf=>(aA.get d (by omega) (Oh d hf)).trans (dE.get d ao)⟩
 have wK:bW G y (y.room 10):=bW.ext (Ext.room _ _ _)
 have zG:=jY.ext (Ext.room y.n y 10)
 refine a3.pre (aas (Y (m+1)) h.n aZ bQ y ⟨p,uL wK,aV zG.st rfl,l.length,?_,p,uL wK,s.cap,aV zG.st rfl,λiG=>?_,λiG=>?_⟩) cQ rfl rfl rfl
 · have hu:Tryz.prog.underlying 55=some (.map 32 59):=wP
   simp only[cc,hu,zG.aA,List.length_map,aaC]
 · have j5:=aav m (s:={s with l:=l}) zG uK ok (uL wK) (by have:=fg.n;have:(y.room 10).n=y.n+10:=rfl;omega)
   obtain⟨ai,dZ⟩:∃ai,ai=(y.room 10).room (1+32*M.length):=⟨_,rfl⟩
   rw[<-dZ] at j5
   have zH:Ext y.n y ai:=by rw[dZ];exact(Ext.room _ _ _).h_
   have aA:bW G y ai:=bW.ext zH
   have cN:=jY.ext zH
   cases uj:ig l l with
   |none=>
    have G5:Y (m+1) (.fn 40) [.ptr h.n 0] (y.room 10)=.ret (.int .u64 (Int.ofNat 0)) ai:=by rw[j5];simp only[uj];rfl
    refine⟨0,ai,G5,λ_=>.inr ⟨ai,_,rfl,rfl,trivial,fin ai aA cN ?_⟩,λh=>absurd rfl h⟩
    obtain⟨j,aJ⟩:∃j,l.length=j+1:=⟨l.length-1,by omega⟩
    rw[aJ,h3,if_pos iG,uj]
   |some e=>
    obtain⟨bo,bG,_⟩:=sC uj
    obtain⟨x,aa,n6⟩:=List.mem_map.1 (uK.e▸bo:e∈M.map Mem.e)
    subst n6
    have adV:=cN.uH x aa
    have G5:Y (m+1) (.fn 40) [.ptr h.n 0] (y.room 10)=.ret (.int .u64 (Int.ofNat x.e.id)) ai:=by rw[j5];simp only[uj];rfl
    have fk:∀z∈M,-1000000<=z.ao/\z.ao<=1000000:=λz a2=>by
     rw[uK.ao z a2]
     have:=Od ok cn z.e.id
     have e:(Int.ofNat (eA z.e.id l))=((eA z.e.id l:Nat):Int):=rfl
     have this:eA z.e.id l<=620000:=this
     omega
    have h9:x.e.args.length<=1000:=by have:=cn.args x.e bo;omega
    obtain⟨ax,u_,cK,bY⟩:=N7 m (z:=Int.negSucc 0) (.inr rfl) cN (cN.eu x aa) (cN.az x aa) fk h9 (cN.aO.2.2.2 x aa)
    have ay:=aA.trans bY
    have lL:=cK.ext (Ext.room ax.n ax 9)
    have gJ:bW G y (ax.room 9):=ay.trans (bW.ext (Ext.room _ _ _))
    have pP:bump (Int.negSucc 0) x.e.parts x∈M.map (bump (Int.negSucc 0) x.e.parts):=List.mem_map.2 ⟨x,aa,rfl⟩
    have aaE:=lL.eu _ pP
    have Oj:(M.map (bump (Int.negSucc 0) x.e.parts)).map Mem.e=l:=by rw[Oe];exact uK.e
    have G6:∀z∈M.map (bump (Int.negSucc 0) x.e.parts),hx x.e.k x.e.nm (gm x.e.ns) (eE x.e.args) x.e.ret z=kp x.e.id z:=λz a2=>aaz (s:={s with l:=l}) (x:=bump (Int.negSucc 0) x.e.parts x) ok cn Oj pP a2
    have zF:(M.map (bump (Int.negSucc 0) x.e.parts)).Pairwise λa b=>¬(hx x.e.k x.e.nm (gm x.e.ns) (eE x.e.args) x.e.ret a=true/\hx x.e.k x.e.nm (gm x.e.ns) (eE x.e.args) x.e.ret b=true):=by
     refine(List.Pairwise.and_mem.1 lL.up).imp λ{a b} ⟨aT,ae,fc⟩ ⟨a8,a6⟩=>?_
     rw[G6 a aT] at a8
     rw[G6 b ae] at a6
     have a8:=of_decide_eq_true a8
     have a6:=of_decide_eq_true a6
     omega
    have G7:=ZV lL.ay zF pP (aay x)
    have aaF:(M.map (bump (Int.negSucc 0) x.e.parts)).filter (λz=>!hx x.e.k x.e.nm (gm x.e.ns) (eE x.e.args) x.e.ret z)=(M.map (bump (Int.negSucc 0) x.e.parts)).filter (λz=>!kp x.e.id z):=List.filter_congr λz a2=>by rw[G6 z a2]
    rw[aaF] at G7
    obtain⟨aB,gA⟩:∃aB,aB=(ax.room 9).set bQ (some (.map (((M.map (bump (Int.negSucc 0) x.e.parts)).filter (λz=>!kp x.e.id z)).map jf) a9)):=⟨_,rfl⟩
    rw[<-gA] at G7
    have nX:p≠bQ:=λe=>by have:=lL.st;rw[e,lL.ay] at this;cases this
    have aaG:aB.get p=some (wT s.cap s.given s.clock aZ bQ):=by rw[gA];exact dM nX lL.st
    have aaH:aB.get aZ=some (.map ((M.map (bump (Int.negSucc 0) x.e.parts)).map hM) aH):=by rw[gA];exact dM lL.jR lL.aA
    have Fi:=ZR aaH lL.up pP
    have nD:=lL.del (λz=>!kp x.e.id z)
    rw[<-gA] at nD
    have bw:bW G y aB:=by rw[gA];exact gJ.trans (bW.set lL.lF.2.2)
    have eh:bW G y (aB.set aZ (some (.map (((M.map (bump (Int.negSucc 0) x.e.parts)).filter (λz=>!kp x.e.id z)).map hM) aH))):=bw.trans (bW.set lL.lF.2.1)
    obtain⟨adW,Cs⟩:=Oa ok.up bo 0
    refine⟨x.e.id,ai,G5,λh0=>by omega,λ_=>⟨p,uL aA,aV cN.st rfl,x.b,uF cN.aA cN.up aa false,p,uL aA,ax,u_,p,uL gJ,aV lL.st rfl,x.e.k,x.e.nm,gm x.e.ns,eE x.e.args,x.e.ret,pF aaE rfl,aB,G7,p,uL bw,aV aaG rfl,_,Fi,_,?_,_,_,hL x.e.id l,_,rfl,⟨rfl,rfl,trivial⟩,rfl,?_,cn.drop x.e.id,nD,⟨?_,?_⟩,?_,fg.trans eh⟩⟩
    · have Cs:(hL x.e.id l).length+1=l.length:=Cs
      show(hL x.e.id l).length<k
      omega
    · exact dw.drop (s:={s with l:=l}) ok (sB.1 bG).2
    · rw[<-Oj]
      exact aaA _ _
    · intro z a2
      obtain⟨v,aC,rfl⟩:=List.mem_map.1 (List.mem_filter.1 a2).1
      have ao:=(Oa ok.up bo v.e.id).1
      have ak:=uK.ao v aC
      show v.ao+Int.negSucc 0*(x.e.parts.count v.e.id:Nat)=Int.ofNat (eA v.e.id (hL x.e.id l))
      rw[ak]
      have aA:(Int.ofNat (eA v.e.id l))=((eA v.e.id l:Nat):Int):=rfl
      have ay:(Int.ofNat (eA v.e.id (hL x.e.id l)))=((eA v.e.id (hL x.e.id l):Nat):Int):=rfl
      have bw:(Int.negSucc 0:Int)=-1:=rfl
      have ao:eA v.e.id l=x.e.parts.count v.e.id+eA v.e.id (hL x.e.id l):=ao
      rw[aA,ay,bw]
      omega
    · obtain⟨j,aJ⟩:∃j,l.length=j+1:=⟨l.length-1,by omega⟩
      have Cs:(hL x.e.id l).length+1=l.length:=Cs
      rw[<-pr,aJ,h3,if_pos iG,uj]
      simp only
      rw[show(hL x.e.id l).length=j by omega]
 · refine .inl ⟨_,_,rfl,rfl,trivial,fin _ wK zG ?_⟩
   cases aN:l.length with
   |zero=>rfl
   |succ j=>rw[h3,if_neg iG]
end Go.Proofs.dj
namespace Go.Proofs.dj
open Go aP Go.Proofs c8 Go.Proofs.cG
set_option maxRecDepth 100000
set_option maxHeartbeats 1000000
theorem aaI(k:Nat)(nm:a5)(ns:List a5)(az:List Nat)(r:Nat)(s:cm):(jA k nm ns az r s).2.clock=s.clock+1/\(jA k nm ns az r s).2.given<=s.given+1/\(jA k nm ns az r s).2.cap=s.cap:=by
 unfold jA
 split<;>exact⟨rfl,by simp,rfl⟩
mutual
theorem zI:∀(t:aE) (s:cm),(cD t s).2.clock=s.clock+sz t/\(cD t s).2.given<=s.given+sz t/\(cD t s).2.cap=s.cap
 |.mk k nm ns xs rt,s=>by
  obtain⟨cr,cZ,dp⟩:=Ct xs s
  obtain⟨bo,bG,ed⟩:=Ok rt (cX xs s).2
  obtain⟨d1,d2,d3⟩:=aaI k nm ns (cX xs s).1 (gL rt (cX xs s).2).1 (gL rt (cX xs s).2).2
  rw[cD,sz]
  exact⟨by omega,by omega,by rw[d3,ed,dp]⟩
theorem Ct:∀(l:List aE) (s:cm),(cX l s).2.clock=s.clock+c1 l/\(cX l s).2.given<=s.given+c1 l/\(cX l s).2.cap=s.cap
 |[],s=>by rw[cX,c1];exact⟨rfl,Nat.le_refl _,rfl⟩
 |t::l,s=>by
  obtain⟨cr,cZ,dp⟩:=zI t s
  obtain⟨bo,bG,ed⟩:=Ct l (cD t s).2
  rw[cX,c1]
  exact⟨by show(cX l (cD t s).2).2.clock=_;omega,by show(cX l (cD t s).2).2.given<=_;omega,by show(cX l (cD t s).2).2.cap=_;rw[ed,dp]⟩
theorem Ok:∀(o:Option aE) (s:cm),(gL o s).2.clock=s.clock+dq o/\(gL o s).2.given<=s.given+dq o/\(gL o s).2.cap=s.cap
 |none,s=>by rw[gL,dq];exact⟨rfl,Nat.le_refl _,rfl⟩
 |some t,s=>by rw[gL,dq];exact zI t s
end
theorem Cu:∀(l:List aE) (s:cm),(cX l s).1.length=l.length
 |[],s=>by rw[cX];rfl
 |t::l,s=>by rw[cX];simp[Cu l]
theorem Ol(t:aE):∀(l:List aE) (s:cm),cX (l++[t]) s=((cX l s).1++[(cD t (cX l s).2).1],(cD t (cX l s).2).2)
 |[],s=>by simp[cX]
 |x::l,s=>by
  rw[List.cons_append,cX,Ol t l]
  simp[cX]
theorem Om{p:Option a5}:∀{ns:List a5},jM p ns=true->jC ns
 |[],_,s,hs=>by cases hs
 |x::l,h,s,hs=>by
  rw[jM,Bool.and_eq_true,Bool.and_eq_true] at h
  rcases List.mem_cons.1 hs with rfl|hs
  · have hf:=h.1
    unfold hX at hf
    simp only[Bool.and_eq_true,decide_eq_true_eq] at hf
    refine⟨λe=>by rw[e] at hf;simp at hf,λc ag e=>?_⟩
    have:=List.all_eq_true.1 hf.2 c ag
    rw[e] at this
    exact absurd this (by decide)
  · exact Om h.2.2 s hs
theorem On{k:Nat}{nm:a5}{ns:List a5}{xs:List aE}{rt:Option aE}(h:ef (.mk k nm ns xs rt)=true):jC ns/\ns.length<=xs.length/\∀s∈ns,s.length<=24:=by
 rw[m3] at h
 simp only[Bool.and_eq_true] at h
 obtain⟨_,aK,aa,aq⟩:=h
 by_cases dg:k=7
 · subst dg
   have:ns.length=xs.length/\jM none ns=true:=by simpa[eT] using aq
   exact⟨Om this.2,by omega,Fq none ns this.2⟩
 · have h0:=Gq aK dg
   have:ns=[]:=List.eq_nil_of_length_eq_zero h0
   subst this
   exact⟨λs hs=>(by cases hs),by simp,λs hs=>(by cases hs)⟩
theorem G8{k:Nat}{nm:a5}{ns:List a5}{xs:List aE}{u:aE}(h:dm (some (.mk k nm ns xs (some u)))=0):dm (some u)=0:=by
 obtain⟨ab,ad⟩:=kR.1 h
 rw[m3] at ad
 simp only[Bool.and_eq_true] at ad
 obtain⟨_,aK,aa,aq⟩:=ad
 have hB:k=8:=by
  unfold hY at aK
  simp only[Bool.and_eq_true] at aK
  have:=aK.2
  simpa using this
 subst hB
 have hu:ef u=true:=by simpa[eT,ix] using aq
 rw[mf,ld] at ab
 exact kR.2 ⟨by omega,hu⟩
theorem aaJ{s:cm}{k:Nat}{nm:a5}{ns:List a5}{az:List Nat}{r:Nat}(ab:∀e∈s.l,e.args.length<=61/\jC e.ns)(ad:az.length<=61)(ar:jC ns):∀e∈(jA k nm ns az r s).2.l,e.args.length<=61/\jC e.ns:=by
 unfold jA
 split
 · intro e he
   obtain⟨x,aa,rfl⟩:=List.mem_map.1 he
   have T:=B5
   have:=ab x aa
   rename_i q _
   rw[(T q.id (s.clock+1) x).args,(T q.id (s.clock+1) x).ns]
   exact this
 · intro e he
   rcases List.mem_append.1 he with he|he
   · exact ab e he
   · obtain rfl:=List.mem_singleton.1 he
     exact⟨ad,ar⟩
mutual
theorem G9:∀(t:aE) (s:cm),dm (some t)=0->(∀e∈s.l,e.args.length<=61/\jC e.ns)->∀e∈(cD t s).2.l,e.args.length<=61/\jC e.ns
 |.mk k nm ns xs rt,s,ag,h=>by
  obtain⟨aH,a9⟩:=kR.1 ag
  have aa:=Cv xs s (λu hu=>uA ag hu) h
  have a4:=Oo rt (cX xs s).2 (λu hu=>by subst hu;exact G8 ag) aa
  rw[cD]
  rw[mf] at aH
  have:=nU xs
  exact aaJ a4 (by rw[Cu];omega) (On a9).1
theorem Cv:∀(l:List aE) (s:cm),(∀t∈l,dm (some t)=0)->(∀e∈s.l,e.args.length<=61/\jC e.ns)->∀e∈(cX l s).2.l,e.args.length<=61/\jC e.ns
 |[],s,_,h=>by rw[cX];exact h
 |t::l,s,ag,h=>by
  rw[cX]
  exact Cv l _ (λu hu=>ag u (List.mem_cons_of_mem _ hu)) (G9 t s (ag t (List.mem_cons_self ..)) h)
theorem Oo:∀(o:Option aE) (s:cm),(∀u,o=some u->dm (some u)=0)->(∀e∈s.l,e.args.length<=61/\jC e.ns)->∀e∈(gL o s).2.l,e.args.length<=61/\jC e.ns
 |none,s,_,h=>by rw[gL];exact h
 |some t,s,ag,h=>by rw[gL];exact G9 t s (ag t rfl) h
end
theorem Oq{es:List dN}{k v:I}{c:Nat}:∀(j:Nat),(∀e∈es,e.born≠c)->sU (Int.ofNat c) (es++[⟨k,v,c⟩]) j=some (j+es.length,⟨k,v,c⟩):=by
 induction es with
 |nil=>intro j _;show(match a_ (Int.ofNat c) (Int.ofNat c) with|true=>some (j,_)|false=>_)=_;rw[mU rfl];rfl
 |cons e es a7=>
  intro j h
  have ab:=h e (List.mem_cons_self ..)
  show(match a_ (Int.ofNat e.born) (Int.ofNat c) with|true=>some (j,e)|false=>sU (Int.ofNat c) (es++[(⟨k,v,c⟩:dN)]) (j+1))=_
  rw[jw ab]
  simp only
  rw[a7 (j+1) λx aa=>h x (List.mem_cons_of_mem _ aa),List.length_cons]
  congr 2;omega
theorem Ot{es:List dN}{e:dN}{v key:I}:qe v key es.length (es++[e])=es++[⟨key,v,e.born⟩]:=by
 induction es with
 |nil=>rfl
 |cons x es a7=>show x::qe v key es.length (es++[e])=_;rw[a7];rfl
theorem aaK{h:J}{m c:Nat}{M:List Mem}(hm:h.get m=some (.map (M.map jf) c)){k r id:Nat}{nm f p:a5}(aN:∀x∈M,hx k nm f p r x=false)(a4:∀x∈M,x.dG<c):∃g,o_ Tryz.prog h 56 (.map m) (.agg [.int .i64 (Int.ofNat k),.str nm,.str f,.str p,.int .u64 (Int.ofNat r)])=some (.aQ [.int .u64 (Int.ofNat 0),.int .i64 (Int.ofNat c)],g)/\g.n=h.n/\(∀d,d≠m->g.get d=h.get d)/\pa g (.map m) (.int .i64 (Int.ofNat c)) (.int .u64 (Int.ofNat id))=some (g.set m (some (.map (M.map jf++[⟨.agg [.int .i64 (Int.ofNat k),.str nm,.str f,.str p,.int .u64 (Int.ofNat r)],.int .u64 (Int.ofNat id),c⟩]) (c+1)))):=by
 have ab:=zy (q:=hx k nm f p r) (l:=M) (j:=0) aN
 have a2:ei Tryz.prog 32=some (.int .u64 (Int.ofNat 0)):=by kernel_rfl
 refine⟨h.set m (some (.map (M.map jf++[⟨.agg [.int .i64 (Int.ofNat k),.str nm,.str f,.str p,.int .u64 (Int.ofNat r)],.int .u64 (Int.ofNat 0),c⟩]) (c+1))),?_,rfl,λd ao=>dM ao rfl,?_⟩
 · simp only[o_,Cg,Ci,hm,q5 M 0 λy _=>Ck h k r nm f p y,ab,Option.map,a2]
 · have ae:=Oq (es:=M.map jf) (k:=.agg [.int .i64 (Int.ofNat k),.str nm,.str f,.str p,.int .u64 (Int.ofNat r)]) (v:=.int .u64 (Int.ofNat 0)) (c:=c) 0 λe he=>by
     obtain⟨x,aa,rfl⟩:=List.mem_map.1 he
     have:=a4 x aa
     show x.dG≠c
     omega
   rw[Nat.zero_add] at ae
   have gs:∀(o:df),(h.set m (some o)).get m=some o:=λo=>gR rfl
   simp only[pa,gs,ae,Ot]
theorem aaL{h:J}{m c:Nat}{M:List Mem}(hm:h.get m=some (.map (M.map hM) c)){id b:Nat}(aN:∀x∈M,x.e.id≠id)(a4:∀x∈M,x.dz<c):∃g,o_ Tryz.prog h 55 (.map m) (.int .u64 (Int.ofNat id))=some (.aQ [.bb,.int .i64 (Int.ofNat c)],g)/\g.n=h.n/\(∀d,d≠m->g.get d=h.get d)/\pa g (.map m) (.int .i64 (Int.ofNat c)) (.ptr b 0)=some (g.set m (some (.map (M.map hM++[⟨.int .u64 (Int.ofNat id),.ptr b 0,c⟩]) (c+1)))):=by
 have ab:=zy (q:=kp id) (l:=M) (j:=0) λx aa=>decide_eq_false (aN x aa)
 have a2:ei Tryz.prog 59=some .bb:=by kernel_rfl
 refine⟨h.set m (some (.map (M.map hM++[⟨.int .u64 (Int.ofNat id),.bb,c⟩]) (c+1))),?_,rfl,λd ao=>dM ao rfl,?_⟩
 · simp only[o_,wP,Ch,hm,q5 M 0 λy _=>Cj h id y,ab,Option.map,a2]
 · have ae:=Oq (es:=M.map hM) (k:=.int .u64 (Int.ofNat id)) (v:=.bb) (c:=c) 0 λe he=>by
     obtain⟨x,aa,rfl⟩:=List.mem_map.1 he
     have:=a4 x aa
     show x.dz≠c
     omega
   rw[Nat.zero_add] at ae
   have gs:∀(o:df),(h.set m (some o)).get m=some o:=λo=>gR rfl
   simp only[pa,gs,ae,Ot]
theorem gj.add{F:Nat->Prop}{h g:J}{p aZ bQ aH a9 cap given clock:Nat}{M:List Mem}(w:gj F h p aZ bQ aH a9 cap given clock M){n:Mem}(aN:g.n=h.n)(aq:∀d,d≠aZ->d≠bQ->g.get d=h.get d)(ab:g.get aZ=some (.map ((M++[n]).map hM) (aH+1)))(ad:g.get bQ=some (.map ((M++[n]).map jf) (a9+1)))(he:h.get n.b=some (Co n.e n.ao n.bL n.bg))(iH:p8 0 h n.bL n.e.ns)(wY:mv 0 h n.bg n.e.args)(ae:∀x∈M,x.b≠n.b)(adX:n.dz=aH)(adY:n.dG=a9)(iJ:∀x∈M,x.e.id<n.e.id)(h0:0<n.e.id)(xz:n.b<h.n)(fP:¬F n.b)(aaM:∀d k cp,n.bL=.slice d 0 k cp->¬F d)(aaN:∀d k cp,n.bg=.slice d 0 k cp->¬F d):gj F g p aZ bQ (aH+1) (a9+1) cap given clock (M++[n]):=by
 have pP:∀{b cs el},h.get b=some (.cells cs el .own 0 0)->b≠aZ:=λae e=>by rw[e,w.aA] at ae;cases ae
 have qV:∀{b cs el},h.get b=some (.cells cs el .own 0 0)->b≠bQ:=λae e=>by rw[e,w.ay] at ae;cases ae
 have own:∀{b cs el},h.get b=some (.cells cs el .own 0 0)->g.get b=some (.cells cs el .own 0 0):=λae=>(aq _ (pP ae) (qV ae)).trans ae
 have row:∀{D:Type} {enc:D->List I} {wd el:Nat} {v:I} {ds:List D},cC enc wd el 0 h v ds->cC enc wd el 0 g v ds:=by
  intro D enc wd el v ds a4
  rcases a4 with a4|⟨r,r1,r2,ec,fb,ml⟩
  · exact .inl a4
  · exact .inr ⟨r,r1,r2,(aq r (λe=>by rw[e,w.aA] at ec;cases ec) (λe=>by rw[e,w.ay] at ec;cases ec)).trans ec,fb,by omega⟩
 have all:∀{Q:Mem->Prop},(∀x∈M,Q x)->Q n->∀x∈M++[n],Q x:=λa b x aa=>by
  rcases List.mem_append.1 aa with aa|aa
  · exact a x aa
  · rw[List.mem_singleton.1 aa];exact b
 have uJ:∀{R:Mem->Mem->Prop},M.Pairwise R->(∀x∈M,R x n)->(M++[n]).Pairwise R:=λa b=>by
  rw[List.pairwise_append]
  exact⟨a,List.pairwise_singleton ..,λx aa y aS=>by rw[List.mem_singleton.1 aS];exact b x aa⟩
 obtain⟨bz,bR,cU,iy⟩:=w.aO
 exact⟨own w.st,ab,ad,all (λx aa=>own (w.eu x aa)) (own he),all (λx aa=>row (w.ns x aa)) (row iH),all (λx aa=>row (w.az x aa)) (row wY),uJ w.bs ae,uJ w.dz (λx aa=>by have:=(w.fG x aa).1;omega),all (λx aa=>by have:=w.fG x aa;omega) (by omega),uJ w.up iJ,all w.uH h0,w.jR,⟨by omega,by omega,by omega,all (λx aa=>by have:=iy x aa;omega) (by omega)⟩,w.lF,all w.ne fP,all w.wU aaM,all w.wV aaN⟩
theorem jP.Ou{B w:Nat}{h g:J}{s:List UInt8}(ae:jP B w h s)(aN:h.n<=g.n)(aq:∀d,d<h.n->(d=w\/¬jx 5 (h.get d))->g.get d=h.get d):jP B w g s:=by
 obtain⟨a,v,ab,ad,ar,aG,bJ,cu⟩:=ae
 refine⟨a,v,(aq w (by omega) (.inl rfl)).trans ab,ad,?_,aG,by omega,cu⟩
 rcases ar with ar|⟨c,rest,aA,ay,bw,eh⟩
 · exact .inl ar
 · exact .inr ⟨c,rest,aA,(aq c eh (.inr λOv=>Ov _ _ _ ay)).trans ay,bw,by omega⟩
end Go.Proofs.dj
namespace Go.Proofs.dj
open Go aP Go.Proofs c8 Go.Proofs.cG
set_option maxRecDepth 100000
set_option maxHeartbeats 1000000
theorem aaO(call:aI->List I->J->av)(p:Nat)(r:Nat)(h:J){Q:bn->ah->Prop}(H:Q .nrm (ah.mk [(0,.ptr p 0),(1,.ptr r 0)] [] .none h)):
  a3 Tryz.prog Tryz.f26 call [0] ⟨[(0,.ptr p 0),(1,.ptr r 0)],[],.none,h⟩ Q:=
 dB [] [0,1] [(0,.v (.ptr p 0)),(1,.v (.ptr r 0))] rfl (Eq.mp (by kernel_rfl) H)
theorem aaP(call:aI->List I->J->av)(p:Nat)(r:Nat)(h:J){Q:bn->ah->Prop}(H:Q .nrm (ah.mk [(0,.ptr p 0),(1,.ptr r 0),(5,.fn 26 [.ptr p 0] [])] [] .none h)):
  a3 Tryz.prog Tryz.f26 call [1,0] ⟨[(0,.ptr p 0),(1,.ptr r 0)],[],.none,h⟩ Q:=
 dB [] [0,1,5] [(0,.v (.ptr p 0)),(1,.v (.ptr r 0))] rfl (Eq.mp (by kernel_rfl) H)
theorem aaQ(call:aI->List I->J->av)(p:Nat)(r:Nat)(h:J){Q:bn->ah->Prop}(H:∃v1:I,au h r (0+2)=some v1/\∃v2:I,∃ai:J,call (.fn 38) [v1] h=.ret v2 ai/\I.cT v2=true/\I.cT v2=true/\Q .nrm (ah.mk [(0,.ptr p 0),(1,.ptr r 0),(5,.fn 26 [.ptr p 0] []),(6,.ptr ai.n 0)] [] .none (J.push ai (.cells [.int .i64 (.ofNat 0),.str [],.str [],.str [],.int .u64 (.ofNat 0),v2,.a0,.int .i64 (.ofNat 0),.int .i64 (.ofNat 0),.int .u64 (.ofNat 0)] 65 .own 0 0)))):
  a3 Tryz.prog Tryz.f26 call [1,1,0] ⟨[(0,.ptr p 0),(1,.ptr r 0),(5,.fn 26 [.ptr p 0] [])],[],.none,h⟩ Q:=
 dB [(19,.bA .o)] [0,1,5,6] [(0,.v (.ptr p 0)),(1,.v (.ptr r 0)),(5,.v (.fn 26 [.ptr p 0] []))] rfl (Eq.mp (by kernel_rfl) H)
theorem aaR(call:aI->List I->J->av)(p:Nat)(r:Nat)(e:Nat)(h:J){Q:bn->ah->Prop}(H:Q .nrm (ah.mk [(0,.ptr p 0),(1,.ptr r 0),(5,.fn 26 [.ptr p 0] []),(6,.ptr e 0),(7,.ptr h.n 0)] [] .none (J.push h (.cells [.bb,.a0] 92 .own 0 0)))):
  a3 Tryz.prog Tryz.f26 call [1,1,1,0] ⟨[(0,.ptr p 0),(1,.ptr r 0),(5,.fn 26 [.ptr p 0] []),(6,.ptr e 0)],[],.none,h⟩ Q:=
 dB [] [0,1,5,6,7] [(0,.v (.ptr p 0)),(1,.v (.ptr r 0)),(5,.v (.fn 26 [.ptr p 0] [])),(6,.v (.ptr e 0))] rfl (Eq.mp (by kernel_rfl) H)
theorem aaS(call:aI->List I->J->av)(p:Nat)(r:Nat)(e:Nat)(w:Nat)(h:J){Q:bn->ah->Prop}(H:∃v1:I,au h r (0+3)=some v1/\∃aD:Nat,cc Tryz.prog h 50 v1=some (.int .i64 (.ofNat aD))/\a3 Tryz.prog Tryz.f26 call [1,1,1,1,0,1,0] (ah.mk [(0,.ptr p 0),(1,.ptr r 0),(5,.fn 26 [.ptr p 0] []),(6,.ptr e 0),(7,.ptr w 0),(25,v1),(26,.int .i64 (.ofNat aD)),(27,.int .i64 (.ofNat 0))] [] .none h) (λb9 cj=>∃ai:J,∃bz:Env,b9=.exit 0/\cj=ah.mk bz [] .none ai/\b_ [(0,.ptr p 0),(1,.ptr r 0),(5,.fn 26 [.ptr p 0] []),(6,.ptr e 0),(7,.ptr w 0)] bz/\Q .nrm (ah.mk [(0,.ptr p 0),(1,.ptr r 0),(5,.fn 26 [.ptr p 0] []),(6,.ptr e 0),(7,.ptr w 0)] [] .none ai))):
  a3 Tryz.prog Tryz.f26 call [1,1,1,1,0] ⟨[(0,.ptr p 0),(1,.ptr r 0),(5,.fn 26 [.ptr p 0] []),(6,.ptr e 0),(7,.ptr w 0)],[],.none,h⟩ Q:=
 dB [(25,.bA .o),(4000,.gT [0,1,5,6,7,25,26,27] [(.exit 0,[(0,.is (.ptr p 0)),(1,.is (.ptr r 0)),(5,.is (.fn 26 [.ptr p 0] [])),(6,.is (.ptr e 0)),(7,.is (.ptr w 0))])])] [0,1,5,6,7] [(0,.v (.ptr p 0)),(1,.v (.ptr r 0)),(5,.v (.fn 26 [.ptr p 0] [])),(6,.v (.ptr e 0)),(7,.v (.ptr w 0))] rfl (Eq.mp (by kernel_rfl) H)
theorem aaT(call:aI->List I->J->av)(p:Nat)(r:Nat)(e:Nat)(w:Nat)(b:Nat)(off:Nat)(N:Nat)(i:Nat)(cp:b3)(h:J){Q:bn->ah->Prop}(H:(i<N->i<N/\∃aD:Nat,au h b (off+i*1)=some (.ptr aD 0)/\∃bj:Nat,∃ai:J,call (.fn 26) [.ptr p 0,.ptr aD 0] h=.ret (.int .u64 (.ofNat bj)) ai/\∃v1:I,au ai e (0+6)=some v1/\∃v2:I,∃ax:J,dt Tryz.prog (J.push ai (.cells [.int .u64 (.ofNat bj)] 32 .own 0 0)) 44 (some 44) v1 (.slice ai.n 0 1 (.exact 1))=some (v2,ax)/\I.cT v2=true/\∃aB:J,aP.storeCells ax e (0+6) [v2]=some aB/\∃s1:List UInt8,∃bE:J,call (.fn 45) [.int .u64 (.ofNat bj)] aB=.ret (.str s1) bE/\∃bD:Nat,∃dc:I,∃bS:J,call (.fn 44) [.ptr w 0,.str s1] bE=.ret (.aQ [.int .i64 (.ofNat bD),dc]) bS/\i+1<9223372036854775808/\Q .nrm (ah.mk [(0,.ptr p 0),(1,.ptr r 0),(5,.fn 26 [.ptr p 0] []),(6,.ptr e 0),(7,.ptr w 0),(25,.slice b off N cp),(26,.int .i64 (.ofNat N)),(27,.int .i64 (.ofNat (i+1)))] [] .none bS))/\(¬i<N->Q (.exit 0) (ah.mk [(0,.ptr p 0),(1,.ptr r 0),(5,.fn 26 [.ptr p 0] []),(6,.ptr e 0),(7,.ptr w 0),(25,.slice b off N cp),(26,.int .i64 (.ofNat N)),(27,.int .i64 (.ofNat i))] [] .none h))):
  a3 Tryz.prog Tryz.f26 call [1,1,1,1,0,1,0,0] ⟨[(0,.ptr p 0),(1,.ptr r 0),(5,.fn 26 [.ptr p 0] []),(6,.ptr e 0),(7,.ptr w 0),(25,.slice b off N cp),(26,.int .i64 (.ofNat N)),(27,.int .i64 (.ofNat i))],[],.none,h⟩ Q:=
 dB [] [0,1,5,6,7,25,26,27] [(0,.v (.ptr p 0)),(1,.v (.ptr r 0)),(5,.v (.fn 26 [.ptr p 0] [])),(6,.v (.ptr e 0)),(7,.v (.ptr w 0)),(25,.v (.slice b off N cp)),(26,.v (.int .i64 (.ofNat N))),(27,.v (.int .i64 (.ofNat i)))] rfl (Eq.mp (by kernel_rfl) H)
theorem aaU(call:aI->List I->J->av)(p:Nat)(r:Nat)(e:Nat)(w:Nat)(v:I)(h:J){Q:bn->ah->Prop}(H:¬0<0/\Q (.exit 0) (ah.mk [(0,.ptr p 0),(1,.ptr r 0),(5,.fn 26 [.ptr p 0] []),(6,.ptr e 0),(7,.ptr w 0)] [] .none h)):
  a3 Tryz.prog Tryz.f26 call [1,1,1,1,0,1,0,0] ⟨[(0,.ptr p 0),(1,.ptr r 0),(5,.fn 26 [.ptr p 0] []),(6,.ptr e 0),(7,.ptr w 0),(25,v),(26,.int .i64 (.ofNat 0)),(27,.int .i64 (.ofNat 0))],[],.none,h⟩ Q:=
 dB [(1028,.f)] [0,1,5,6,7] [(0,.v (.ptr p 0)),(1,.v (.ptr r 0)),(5,.v (.fn 26 [.ptr p 0] [])),(6,.v (.ptr e 0)),(7,.v (.ptr w 0)),(25,.o v),(26,.v (.int .i64 (.ofNat 0))),(27,.v (.int .i64 (.ofNat 0)))] rfl (Eq.mp (by kernel_rfl) H)
theorem aaV(call:aI->List I->J->av)(p:Nat)(r:Nat)(e:Nat)(w:Nat)(h:J){Q:bn->ah->Prop}(H:∃aD:Nat,au (h.room 19) r (0+0)=some (.int .i64 (.ofNat aD))/\∃s1:List UInt8,au (h.room 19) r (0+1)=some (.str s1)/\∃v1:I,au (h.room 19) r (0+2)=some v1/\∃s2:List UInt8,∃ai:J,call (.fn 46) [v1,.str [32]] (h.room 19)=.ret (.str s2) ai/\∃bK:List UInt8,∃ax:J,call (.fn 47) [.ptr w 0] ai=.ret (.str bK) ax/\∃aB:J,aP.storeCells ax e (0+0) [.int .i64 (.ofNat aD),.str s1,.str s2,.str bK,.int .u64 (.ofNat 0)]=some aB/\au ax r (0+0)=some (.int .i64 (.ofNat aD))/\au ai r (0+0)=some (.int .i64 (.ofNat aD))/\au ax r (0+1)=some (.str s1)/\au ai r (0+1)=some (.str s1)/\I.sound v1=true/\Q .nrm (ah.mk [(0,.ptr p 0),(1,.ptr r 0),(5,.fn 26 [.ptr p 0] []),(6,.ptr e 0)] [] .none aB)):
  a3 Tryz.prog Tryz.f26 call [1,1,1,1,1,0] ⟨[(0,.ptr p 0),(1,.ptr r 0),(5,.fn 26 [.ptr p 0] []),(6,.ptr e 0),(7,.ptr w 0)],[],.none,h⟩ Q:=
 dB [] [0,1,5,6] [(0,.v (.ptr p 0)),(1,.v (.ptr r 0)),(5,.v (.fn 26 [.ptr p 0] [])),(6,.v (.ptr e 0)),(7,.v (.ptr w 0))] rfl (Eq.mp (by kernel_rfl) H)
theorem aaW(call:aI->List I->J->av)(p:Nat)(r:Nat)(e:Nat)(h:J){Q:bn->ah->Prop}(H:∃aD:Nat,au h r (0+4)=some (.ptr aD 0)/\∃bj:Nat,au h r (0+4)=some (.ptr bj 0)/\∃bD:Nat,∃ai:J,call (.fn 26) [.ptr p 0,.ptr bj 0] h=.ret (.int .u64 (.ofNat bD)) ai/\∃ax:J,aP.storeCells ai e (0+0+4) [.int .u64 (.ofNat bD)]=some ax/\Q .nrm (ah.mk [(0,.ptr p 0),(6,.ptr e 0)] [] .none ax)):
  a3 Tryz.prog Tryz.f26 call [1,1,1,1,1,1,0] ⟨[(0,.ptr p 0),(1,.ptr r 0),(5,.fn 26 [.ptr p 0] []),(6,.ptr e 0)],[],.none,h⟩ Q:=
 dB [(69,.bA .p)] [0,6] [(0,.v (.ptr p 0)),(1,.v (.ptr r 0)),(5,.v (.fn 26 [.ptr p 0] [])),(6,.v (.ptr e 0))] rfl (Eq.mp (by kernel_rfl) H)
theorem aaX(call:aI->List I->J->av)(p:Nat)(r:Nat)(e:Nat)(h:J){Q:bn->ah->Prop}(H:au h r (0+4)=some .bb/\Q .nrm (ah.mk [(0,.ptr p 0),(6,.ptr e 0)] [] .none h)):
  a3 Tryz.prog Tryz.f26 call [1,1,1,1,1,1,0] ⟨[(0,.ptr p 0),(1,.ptr r 0),(5,.fn 26 [.ptr p 0] []),(6,.ptr e 0)],[],.none,h⟩ Q:=
 dB [(69,.bA (.is .bb))] [0,6] [(0,.v (.ptr p 0)),(1,.v (.ptr r 0)),(5,.v (.fn 26 [.ptr p 0] [])),(6,.v (.ptr e 0))] rfl (Eq.mp (by kernel_rfl) H)
theorem Ow(call:aI->List I->J->av)(p:Nat)(e:Nat)(aZ:Nat)(bQ:Nat)(h:J){Q:bn->ah->Prop}(H:∃aD:Nat,au h p (0+2)=some (.int .u64 (.ofNat aD))/\aD+1<18446744073709551616/\∃ai:J,aP.storeCells h p (0+2) [.int .u64 (.ofNat (aD+1))]=some ai/\au (ai.room 14) p (0+4)=some (.map bQ)/\∃bj:Nat,∃s1:List UInt8,∃s2:List UInt8,∃bK:List UInt8,∃bD:Nat,aP.loadCells (ai.room 14) e (0+0) 5=some [.int .i64 (.ofNat bj),.str s1,.str s2,.str bK,.int .u64 (.ofNat bD)]/\∃bT:Nat,∃bo:Bool,hy Tryz.prog (ai.room 14) 56 (.map bQ) (.agg [.int .i64 (.ofNat bj),.str s1,.str s2,.str bK,.int .u64 (.ofNat bD)]) true=some (.aQ [.int .u64 (.ofNat bT),.bool bo])/\(bo=true->au (J.room (ai.room 14) 13) p (0+3)=some (.map aZ)/\∃b5:Nat,hy Tryz.prog (J.room (ai.room 14) 13) 55 (.map aZ) (.int .u64 (.ofNat bT)) false=some (.ptr b5 0)/\∃cx:Nat,au (J.room (ai.room 14) 13) p (0+2)=some (.int .u64 (.ofNat cx))/\∃ax:J,aP.storeCells (J.room (ai.room 14) 13) b5 (0+9) [.int .u64 (.ofNat cx)]=some ax/\Q .ret (ah.mk [(4,.int .u64 (.ofNat bT))] [] .none ax))/\(bo=false->∃da:Nat,au (ai.room 14) p (0+1)=some (.int .u64 (.ofNat da))/\da+1<18446744073709551616/\∃aB:J,aP.storeCells (ai.room 14) p (0+1) [.int .u64 (.ofNat (da+1))]=some aB/\∃et:Nat,au aB p (0+1)=some (.int .u64 (.ofNat et))/\au (aB.room 21) p (0+4)=some (.map bQ)/\∃eO:Nat,∃bN:List UInt8,∃ch:List UInt8,∃c3:List UInt8,∃gf:Nat,aP.loadCells (aB.room 21) e (0+0) 5=some [.int .i64 (.ofNat eO),.str bN,.str ch,.str c3,.int .u64 (.ofNat gf)]/\au (aB.room 21) p (0+3)=some (.map aZ)/\∃iP:Nat,∃jz:Nat,∃bE:J,o_ Tryz.prog (aB.room 21) 56 (.map bQ) (.agg [.int .i64 (.ofNat eO),.str bN,.str ch,.str c3,.int .u64 (.ofNat gf)])=some (.aQ [.int .u64 (.ofNat iP),.int .i64 (.ofNat jz)],bE)/\∃bS:J,(pa bE (.map bQ) (.int .i64 (.ofNat jz)) (.int .u64 (.ofNat et))=some bS/\I.aQ []=.aQ [])/\∃kj:Nat,∃dC:J,o_ Tryz.prog bS 55 (.map aZ) (.int .u64 (.ofNat et))=some (.aQ [.bb,.int .i64 (.ofNat kj)],dC)/\∃eY:J,(pa dC (.map aZ) (.int .i64 (.ofNat kj)) (.ptr e 0)=some eY/\I.aQ []=.aQ [])/\∃fZ:J,call (.fn 41) [.ptr p 0,.ptr e 0,.int .i64 (.ofNat 1)] eY=.ret (.aQ []) fZ/\au (fZ.room 13) p (0+3)=some (.map aZ)/\∃pW:Nat,hy Tryz.prog (fZ.room 13) 55 (.map aZ) (.int .u64 (.ofNat et)) false=some (.ptr pW 0)/\∃nW:Nat,au (fZ.room 13) p (0+2)=some (.int .u64 (.ofNat nW))/\∃jO:J,aP.storeCells (fZ.room 13) pW (0+9) [.int .u64 (.ofNat nW)]=some jO/\Q .ret (ah.mk [(4,.int .u64 (.ofNat et))] [] .none jO))):
  a3 Tryz.prog Tryz.f26 call [1,1,1,1,1,1,1] ⟨[(0,.ptr p 0),(6,.ptr e 0)],[],.none,h⟩ Q:=
 dB [(92,.bA (.is (.map bQ))),(97,.bA (.fL [.n .u64,.b])),(116,.bA (.is (.map bQ))),(124,.bA (.is (.map aZ))),(128,.bA (.fL [.n .u64,.n .i64])),(130,.bA (.fL [.is .bb,.n .i64])),(138,.bA (.is (.map aZ))),(140,.bA .p)] [4] [(0,.v (.ptr p 0)),(6,.v (.ptr e 0))] rfl (Eq.mp (by kernel_rfl) H)
theorem aaY(n b B:Nat)(h:J)(w:List UInt8)(ae:jP B b h w)(aw:w.length<=1000000000):∃an,Y (n+1) (.fn 47) [.ptr b 0] h=.ret (.str w) an/\Ext B h an/\∀d,d<h.n->jx 5 (h.get d)->an.get d=h.get d:=by
 obtain⟨a,v,g,aT,aC,kP,aN,qE⟩:=ae
 rcases aC with⟨rfl,rfl⟩|⟨c,rest,rfl,ag,qO,vB⟩
 · have iU:o6 Tryz.prog (J.room h 12) 118 I.bb (I.int IntKind.i64 (Int.ofNat 0))=some (.str [],J.room h 12):=by kernel_rfl
   exact⟨_,eR (intr:=b0) (n:=n) (args:=[.ptr b 0]) Tryz.func47 (by kernel_rfl) rfl (by kernel_rfl) (Mv (Y n) b h [] _ (aV (h:=h.room 12) g rfl) iU) (.inl rfl) (by kernel_rfl),Ext.room _ _ _,λd _ _=>rfl⟩
 · by_cases hw:w=[]
   · exact absurd (qE hw) (by simp)
   · have cS:w.length≠0:=by cases w<;>simp at hw⊢
     have eH:h6 Tryz.prog Builtin.unsafeSliceData (Array.mk [27]) [I.slice c 0 w.length (b3.a1 1)] (J.room h 12)=jg.val (I.ptr c 0) (J.room h 12):=by
      simp only[h6]
      exact if_neg cS
     have iU:=Kl (P:=Tryz.prog) (h:=h.room 12) (pT:=118) (u:=5) (c:=c) (e:=5) (w:=w) (rest:=rest) hw (by omega) (by kernel_rfl) (by kernel_rfl) (by kernel_rfl) ag
     exact⟨_,eR (intr:=b0) (n:=n) (args:=[.ptr b 0]) Tryz.func47 (by kernel_rfl) rfl (by kernel_rfl) (Mu (Y n) b c w.length h w _ (aV (h:=h.room 12) g rfl) eH iU) (.inl rfl) (by kernel_rfl),
      (Ext.room B h 12).trans (Nat.le_refl _) (Ext.set (by omega) _),λd ao aj=>dM (λe=>by subst e;exact aj _ _ _ ag) rfl⟩
def Loc(F:Nat->Prop)(h:J)(e w:Nat)(bL bg:I)(d:Nat):Prop:=d<h.n/\(F d\/d=e\/d=w\/(∃k cp,bL=.slice d 0 k cp)\/(∃k cp,bg=.slice d 0 k cp)\/¬jx 5 (h.get d))
abbrev lM(bA:List I)(bL bg:I):df:=.cells (bA++[bL,bg,.int .i64 (Int.ofNat 0),.int .i64 (Int.ofNat 0),.int .u64 (Int.ofNat 0)]) 65 .own 0 0
abbrev nh:List I:=[.int .i64 (Int.ofNat 0),.str [],.str [],.str [],.int .u64 (Int.ofNat 0)]
structure lj(F:Nat->Prop)(h0:J)(p e w:Nat)(bL bg:I)(ns:List a5)(ids:List Nat)(bA:List I)(s:cm)(y:J):Prop where
 st:gE (Loc F y e w bL bg) y p s
 fg:bW F h0 y
 eu:y.get e=some (lM bA bL bg)
 ns:p8 h0.n y bL ns
 az:mv h0.n y bg ids
 c9:h0.n<=e
 uM:e<w
 jY:w<y.n
def Ox(n:Nat)(t:aE):Prop:=∀(F:Nat->Prop) (h:J) (p:Nat) (v:I) (s:cm),gE F h p s->dw s->(∀e∈s.l,e.args.length<=61/\jC e.ns)->s.clock+sz t<=10000->s.given+sz t<=10000->(∀b,F b->b<h.n)->eU F h t v->∃g,Y n (.fn 26) [.ptr p 0,v] h=.ret (.int .u64 (Int.ofNat (cD t s).1)) g/\gE F g p (cD t s).2/\bW F h g
theorem gE.move{F G:Nat->Prop}{h g:J}{p:Nat}{s:cm}(w:gE F h p s)(aN:h.n<=g.n)(aq:∀d,d<h.n->¬F d->jx 5 (h.get d)->g.get d=h.get d)(iL:∀d,d<h.n->G d->F d\/¬jx 5 (h.get d)):gE G g p s:=by
 obtain⟨aZ,bQ,aH,a9,M,cN,r⟩:=w
 exact⟨aZ,bQ,aH,a9,M,cN.move aN aq iL,r⟩
theorem aaZ(t:aE){s:cm}(hs:dw s)(al:s.given+sz t<=10000):(cD t s).1<18446744073709551616:=by
 obtain⟨ok,_,q,aM,oO⟩:=m_ t hs
 have ab:=(ok.aO q aM).2.1
 have ad:=(zI t s).2.1
 omega
theorem wZ{h:J}{d:Nat}{cs bO:List I}{el pt aO up:Nat}(ab:h.get d=some (.cells cs el .a1 aO up))(ad:h.get d=some (.cells bO pt .own 0 0)):False:=by rw[ab] at ad;cases ad
theorem G_:∀l:List Nat,(eE l).length=8*l.length
 |[]=>rfl
 |a::l=>by
  show(iD a++eE l).length=_
  rw[List.length_append,uG,G_ l,List.length_cons];omega
theorem aa0(m:Nat){F:Nat->Prop}{h0:J}{p e w B:Nat}{bL bg v:I}{ns:List a5}{ids:List Nat}{s:cm}{y:J}{t:aE}(fP:∀b,F b->b<h0.n)(c4:lj F h0 p e w bL bg ns ids nh s y)(ae:jP B w y (eE ids))(FM:h0.n<=B)(adZ:e<B)(zJ:Ox (m+3) t)(hs:dw s)(fk:∀e∈s.l,e.args.length<=61/\jC e.ns)(aq:s.clock+sz t<=10000)(al:s.given+sz t<=10000)(aC:eU F h0 t v)(aw:ids.length<=1000):
  ∃ai,Y (m+3) (.fn 26) [.ptr p 0,v] y=.ret (.int .u64 (Int.ofNat (cD t s).1)) ai/\au ai e (0+6)=some bg/\
  ∃j7 ax,dt Tryz.prog (ai.push (.cells [o1 (cD t s).1] 32 .own 0 0)) 44 (some 44) bg (.slice ai.n 0 1 (.exact 1))=some (j7,ax)/\j7.cT=true/\
  ∃aB,aP.storeCells ax e (0+6) [j7]=some aB/\
  ∃bE,Y (m+3) (.fn 45) [.int .u64 (Int.ofNat (cD t s).1)] aB=.ret (.str (iD (cD t s).1)) bE/\
  ∃bS,Y (m+3) (.fn 44) [.ptr w 0,.str (iD (cD t s).1)] bE=.ret (.aQ [.int .i64 (Int.ofNat (iD (cD t s).1).length),.e1]) bS/\lj F h0 p e w bL j7 ns (ids++[(cD t s).1]) nh (cD t s).2 bS/\jP B w bS (eE (ids++[(cD t s).1])):=by
 obtain⟨st,fg,eu,iH,wY,c9,uM,jY⟩:=c4
 obtain⟨ad0,bv,Oy,_,_,ad1,FN,_⟩:=id ae
 have ad2:=fg.n
 have aa1:eU (Loc F y e w bL bg) y t v:=eU.b8 (λb ae=>⟨⟨by have:=fP b ae;omega,.inl ae⟩,fg.get b (fP b ae) ae⟩) _ _ aC
 obtain⟨ai,aH,st1,bH⟩:=zJ _ y p v s st hs fk aq al (λb ae=>ae.1) aa1
 obtain⟨id,iJ⟩:∃id,id=(cD t s).1:=⟨_,rfl⟩
 have zK:=aaZ t hs al
 rw[<-iJ] at aH zK⊢
 have aD:=bH.n
 have ge:ai.get e=some (lM nh bL bg):=(bH.get e (by omega) ⟨by omega,.inr (.inl rfl)⟩).trans eu
 have ad3:ai.get w=y.get w:=bH.get w jY ⟨jY,.inr (.inr (.inl rfl))⟩
 obtain⟨H,cl⟩:∃H,H=ai.push (.cells [o1 id] 32 .own 0 0):=⟨_,rfl⟩
 have lg:H.n=ai.n+1:=by rw[cl];rfl
 have dE:Ext ai.n ai H:=by rw[cl];exact Ext.push (Nat.le_refl _) _
 have uN:∀d k cp,bg=.slice d 0 k cp->d<y.n/\h0.n<=d/\∃cs,y.get d=some (.cells cs 32 .a1 0 0):=by
  intro d k cp ao
  rcases wY with⟨rfl,_⟩|⟨q,rfl,_,b4,fX,fI⟩
  · cases ao
  · cases ao;exact⟨fI,fX,_,b4⟩
 have zL:∀d k cp,bL=.slice d 0 k cp->d<y.n/\h0.n<=d/\∃cs,y.get d=some (.cells cs 9 .a1 0 0):=by
  intro d k cp ao
  rcases iH with⟨rfl,_⟩|⟨q,rfl,_,b4,fX,fI⟩
  · cases ao
  · cases ao;exact⟨fI,fX,_,b4⟩
 have aa2:mv h0.n H bg ids:=cC.b8 wY (by omega) λq aM kT=>(dE.get q (by omega)).trans (bH.get q kT ⟨kT,.inr (.inr (.inr (.inr (.inl ⟨_,_,aM⟩))))⟩)
 obtain⟨ax,cr,cZ,dp,eS,eG⟩:=Gm wS aa2 (by omega) (d:=id) (src:=.slice ai.n 0 1 (.exact 1)) (by rw[cl];exact yr wS ai 32 id) (by omega)
 have aa3:∀k cp,bg≠ .slice e 0 k cp:=λk cp ao=>by
  obtain⟨_,_,cs,ag⟩:=uN e k cp ao
  exact wZ ag eu
 have aa4:∀k cp,bg≠ .slice w 0 k cp:=λk cp ao=>by
  obtain⟨_,_,cs,ag⟩:=uN w k cp ao
  exact wZ ag Oy
 have aa5:ax.get e=some (lM nh bL bg):=((eG e (by omega) aa3).trans (dE.get e (by omega))).trans ge
 obtain⟨j7,zM⟩:∃j7,j7=I.slice H.n 0 (ids++[id]).length (.a1 1):=⟨_,rfl⟩
 rw[<-zM] at cr
 obtain⟨aB,gA⟩:∃aB,aB=ax.set e (some (lM nh bL j7)):=⟨_,rfl⟩
 have bD:aB.n=ax.n:=by rw[gA];rfl
 have bK:aP.storeCells ax e (0+6) [j7]=some aB:=by rw[gA,zM];exact gS aa5 rfl rfl
 obtain⟨bE,gW,g_⟩:=Z9 (m+2) id aB zK
 have bT:=g_.n
 have Ha:∀d,d<ai.n->d≠e->(∀k cp,bg≠ .slice d 0 k cp)->bE.get d=ai.get d:=λd ao o3 Hb=>by
  refine(g_.get d (by omega)).trans ?_
  rw[gA]
  exact(dM o3 rfl).trans ((eG d (by omega) Hb).trans (dE.get d ao))
 have ja:jP B w bE (eE ids):=jP.Ou ae (by omega) λd ao zN=>by
  have ky:Loc F y e w bL bg d:=by
   rcases zN with rfl|aj
   · exact⟨ao,.inr (.inr (.inl rfl))⟩
   · exact⟨ao,.inr (.inr (.inr (.inr (.inr aj))))⟩
  refine(Ha d (by omega) ?_ λk cp ag=>?_).trans (bH.get d ao ky)
  · rintro rfl
    rcases zN with h|h
    · omega
    · exact h (by rw[eu];exact zE)
  · obtain⟨_,_,cs,fC⟩:=uN d k cp ag
    rcases zN with rfl|h
    · exact aa4 _ _ ag
    · exact h (by rw[fC];exact uI (by decide))
 have hC:=G_ ids
 obtain⟨bS,n0,pM,ho⟩:=BW m w B bE (eE ids) (iD id) ja (by rw[hC,uG];omega)
 have b5:=ho.x.n
 have Hc:∀d,d<ai.n->d≠e->d≠w->(∀k cp,bg≠ .slice d 0 k cp)->jx 5 (ai.get d)->bS.get d=ai.get d:=λd ao o3 zN Hb aj=>by
  have aG:=Ha d ao o3 Hb
  exact(ho.k d (by omega) zN (by rw[aG];exact aj)).trans aG
 have fH:bS.get e=some (lM nh bL j7):=by
  have aG:bE.get e=some (lM nh bL j7):=(g_.get e (by omega)).trans (by rw[gA];exact gR rfl)
  exact(ho.k e (by omega) (by omega) (by rw[aG];exact zE)).trans aG
 have aa6:mv h0.n bS j7 (ids++[id]):=by
  refine .inr ⟨H.n,zM,by simp,?_,by omega,by omega⟩
  have aG:bE.get H.n=some (.cells (dR (λd=>[o1 d]) (ids++[id])) 32 .a1 0 0):=(g_.get _ (by omega)).trans (by rw[gA];exact(dM (by omega) rfl).trans cZ)
  exact(ho.k _ (by omega) (by omega) (by rw[aG];exact uI (by decide))).trans aG
 have aa7:p8 h0.n bS bL ns:=cC.b8 iH (by omega) λq aM kT=>by
  obtain⟨_,_,cs,fC⟩:=zL q _ _ aM
  have iw:ai.get q=y.get q:=bH.get q kT ⟨kT,.inr (.inr (.inr (.inl ⟨_,_,aM⟩)))⟩
  refine(Hc q (by omega) ?_ ?_ (λk cp ag=>?_) (by rw[iw,fC];exact uI (by decide))).trans iw
  · rintro rfl;exact wZ fC eu
  · rintro rfl;exact wZ fC Oy
  · obtain⟨_,_,bO,w0⟩:=uN q k cp ag
    rw[fC] at w0
    injection w0 with w0;injection w0 with _ w0
    exact absurd w0 (by decide)
 have aK:eE (ids++[id])=eE ids++iD id:=by simp[eE]
 subst cl
 refine⟨ai,aH,aV ge rfl,j7,ax,cr,by rw[zM];rfl,aB,bK,bE,gW,bS,n0,⟨?_,?_,fH,aa7,aa6,c9,uM,by omega⟩,by rw[aK];exact pM⟩
 · refine st1.move (by omega) (λd ao la aj=>?_) (λd ao ky=>?_)
   · refine Hc d ao (λh=>?_) (λh=>?_) (λk cp ag=>?_) aj
     · subst h;exact la ⟨by omega,.inr (.inl rfl)⟩
     · subst h;exact la ⟨by omega,.inr (.inr (.inl rfl))⟩
     · exact la ⟨(uN d k cp ag).1,.inr (.inr (.inr (.inr (.inl ⟨_,_,ag⟩))))⟩
   · obtain⟨_,qB⟩:=ky
     rcases qB with h|h|h|h|h|h
     · exact .inl ⟨by have:=fP d h;omega,.inl h⟩
     · exact .inl ⟨by omega,.inr (.inl h)⟩
     · exact .inl ⟨by omega,.inr (.inr (.inl h))⟩
     · obtain⟨k,cp,h⟩:=h
       exact .inl ⟨(zL d k cp h).1,.inr (.inr (.inr (.inl ⟨_,_,h⟩)))⟩
     · obtain⟨k,cp,h⟩:=h
       rw[zM] at h
       cases h
       omega
     · by_cases ky:Loc F y e w bL bg d
       · exact .inl ky
       · refine .inr λaj=>h ?_
         rw[Hc d ao (λh=>?_) (λh=>?_) (λk cp ag=>?_) aj]
         · exact aj
         · subst h;exact ky ⟨by omega,.inr (.inl rfl)⟩
         · subst h;exact ky ⟨by omega,.inr (.inr (.inl rfl))⟩
         · exact ky ⟨(uN d k cp ag).1,.inr (.inr (.inr (.inr (.inl ⟨_,_,ag⟩))))⟩
 · refine⟨by omega,λd ao hf=>?_⟩
   have aa8:∀k cp,bg≠ .slice d 0 k cp:=λk cp ag=>by have:=(uN d k cp ag).2.1;omega
   exact(ho.x.get d (by omega) (by omega)).trans ((Ha d (by omega) (by omega) aa8).trans ((bH.get d (by omega) ⟨by omega,.inl hf⟩).trans (fg.get d ao hf)))
end Go.Proofs.dj
namespace Go.Proofs.dj
open Go aP Go.Proofs c8 Go.Proofs.cG
set_option maxRecDepth 100000
set_option maxHeartbeats 1000000
theorem Oz(i:Nat):∀a b:List ca,eA i (a++b)=eA i a+eA i b
 |[],b=>by rw[List.nil_append,eA];omega
 |x::a,b=>by rw[List.cons_append,eA,Oz i a b,eA];omega
theorem Hd(i:Nat){f:ca->ca}(hf:∀e,(f e).parts=e.parts):∀l:List ca,eA i (l.map f)=eA i l
 |[]=>rfl
 |x::l=>by rw[List.map_cons,eA,hf,Hd i hf l,eA]
theorem OA(c:Nat):wW λy=>{y with e:={y.e with used:=c}}:=⟨λ_=>rfl,λ_=>rfl,λ_=>rfl,λ_=>rfl,λ_=>rfl,λ_=>rfl,λ_=>rfl,λ_=>rfl,λ_=>rfl⟩
theorem OB(i c:Nat)(M:List Mem):(mw i (λy=>{y with e:={y.e with used:=c}}) M).map Mem.e=(M.map Mem.e).map (lh i c):=by
 unfold mw
 rw[List.map_map,List.map_map]
 refine List.map_congr_left λy _=>?_
 show(if y.e.id=i then({y with e:={y.e with used:=c}}:Mem) else y).e=lh i c y.e
 unfold lh
 split<;>rfl
theorem OC{i c:Nat}{M:List Mem}{y:Mem}(aS:y∈mw i (λy=>{y with e:={y.e with used:=c}}) M):∃z∈M,y.ao=z.ao/\y.e.id=z.e.id:=by
 obtain⟨z,a2,rfl⟩:=List.mem_map.1 aS
 refine⟨z,a2,?_⟩
 split<;>exact⟨rfl,rfl⟩
theorem aa9(m:Nat){F:Nat->Prop}{h0:J}{p e w k r:Nat}{nm:a5}{bL bg:I}{ns:List a5}{ids:List Nat}{s:cm}{y:J}(fP:∀b,F b->b<h0.n)(c4:lj F h0 p e w bL bg ns ids [.int .i64 (Int.ofNat k),.str nm,.str (gm ns),.str (eE ids),.int .u64 (Int.ofNat r)] s y)(hs:dw s)(fk:∀e∈s.l,e.args.length<=61/\jC e.ns)(aa_:s.clock+1<=10000)(aba:s.given+1<=10000)(aN:jC ns)(aw:ids.length<=61)(iJ:∀i∈ids,i<18446744073709551616):a3 Tryz.prog Tryz.f26 (Y (m+3)) [1,1,1,1,1,1,1] ⟨[(0,.ptr p 0),(6,.ptr e 0)],[],.none,y⟩ (λb9 st=>b9=.ret/\∃g,st=⟨[(4,.int .u64 (Int.ofNat (jA k nm ns ids r s).1))],[],.none,g⟩/\gE F g p (jA k nm ns ids r s).2/\bW F h0 g):=by
 obtain⟨st,fg,eu,iH,wY,c9,uM,jY⟩:=c4
 obtain⟨aZ,bQ,aH,a9,M,gX,fA⟩:=st
 have cn:p9 s:=⟨λe he=>(fk e he).1,λe he=>(fk e he).2,by omega,by omega⟩
 have w:gj F y p aZ bQ aH a9 s.cap s.given s.clock M:=gX.move (Nat.le_refl _) (λd _ _ _=>rfl) λd ao hf=>.inl ⟨ao,.inl hf⟩
 have Ar:p≠e:=λh=>by
  have:=w.st
  rw[h,eu] at this
  injection this with this;injection this with _ this
  exact absurd this (by decide)
 have OD:¬F e:=λh=>by have:=fP e h;omega
 have Cw:∀x∈M,x.e∈s.l:=λx aa=>by rw[<-fA.e];exact List.mem_map.2 ⟨x,aa,rfl⟩
 have Cx:∀x∈M,hx k nm (gm ns) (eE ids) r x=x.e.is k nm ns ids r:=λx aa=>NY (cn.nm _ (Cw x aa)) aN (G3 hs cn (Cw x aa)) iJ
 obtain⟨ai,dZ⟩:∃ai,ai=y.set p (some (wT s.cap s.given (s.clock+1) aZ bQ)):=⟨_,rfl⟩
 have st1:aP.storeCells y p (0+2) [.int .u64 (Int.ofNat (s.clock+1))]=some ai:=by rw[dZ];exact gS w.st rfl rfl
 have cN:=w.head s.given (s.clock+1)
 rw[<-dZ] at cN
 have aD:ai.n=y.n:=by rw[dZ];rfl
 have bH:bW F y ai:=by rw[dZ];exact bW.set w.lF.1
 have wa:ai.get e=y.get e:=by rw[dZ];exact dM (λh=>Ar h.symm) rfl
 have sQ:=cN.ext (Ext.room ai.n ai 14)
 have OE:(ai.room 14).get e=some (lM [.int .i64 (Int.ofNat k),.str nm,.str (gm ns),.str (eE ids),.int .u64 (Int.ofNat r)] bL bg):=wa.trans eu
 cases hf:s.l.find? (ca.is k nm ns ids r) with
 |some cF=>
  have abb:=List.mem_of_find?_eq_some hf
  have eQ:cF.is k nm ns ids r=true:=List.find?_some hf
  obtain⟨x,aa,n6⟩:=List.mem_map.1 (fA.e▸abb:cF∈M.map Mem.e)
  subst n6
  have aM:hx k nm (gm ns) (eE ids) r x=true:=(Cx x aa).trans eQ
  have zF:M.Pairwise λa b=>¬(hx k nm (gm ns) (eE ids) r a=true/\hx k nm (gm ns) (eE ids) r b=true):=by
   have abc:M.Pairwise λa b=>b.e.is a.e.k a.e.nm a.e.ns a.e.args a.e.ret=false:=by
    have:=hs.apart
    rw[<-fA.e,List.pairwise_map] at this
    exact this
   refine(List.Pairwise.and_mem.1 abc).imp λ{a b} ⟨aT,ae,fc⟩ ⟨a8,a6⟩=>?_
   rw[Cx a aT] at a8
   rw[Cx b ae] at a6
   obtain⟨cr,cZ,dp,eS,eG⟩:=p6.1 a8
   obtain⟨bo,bG,ed,ja,pM⟩:=p6.1 a6
   rw[p6.2 ⟨bo.trans cr.symm,bG.trans cZ.symm,ed.trans dp.symm,ja.trans eS.symm,pM.trans eG.symm⟩] at fc
   cases fc
  have ee:=ZT sQ.ay zF aa aM
  have w1:=sQ.ext (Ext.room (ai.room 14).n (ai.room 14) 13)
  have pw:=w1.eu x aa
  have hle:jA k nm ns ids r s=(x.e.id,{s with clock:=s.clock+1,l:=s.l.map (lh x.e.id (s.clock+1))}):=by unfold jA;rw[hf]
  rw[hle]
  have cK:=w1.fr aa (OA (s.clock+1))
  refine Ow (Y (m+3)) p e aZ bQ y ⟨s.clock,aV w.st rfl,by omega,ai,st1,aV sQ.st rfl,k,nm,gm ns,eE ids,r,pF OE rfl,x.e.id,true,ee,λ_=>⟨aV w1.st rfl,x.b,uF w1.aA w1.up aa false,s.clock+1,aV w1.st rfl,_,gS pw rfl rfl,rfl,_,rfl,⟨aZ,bQ,aH,a9,_,cK,⟨?_,?_⟩⟩,?_⟩,λh=>by cases h⟩
  · show _=s.l.map (lh x.e.id (s.clock+1))
    rw[OB,fA.e]
  · intro z a2
    obtain⟨v,aC,aA,ay⟩:=OC a2
    show z.ao=Int.ofNat (eA z.e.id (s.l.map (lh x.e.id (s.clock+1))))
    rw[aA,ay,fA.ao v aC,Hd _ λq=>(B5 x.e.id (s.clock+1) q).parts]
  · exact(fg.trans bH).trans (((bW.ext (Ext.room _ _ _)).trans (bW.ext (Ext.room _ _ _))).trans (bW.set (b:=x.b) (w.ne x aa)))
 |none=>
  have ox:=List.find?_eq_none.1 hf
  have nQ:∀x∈M,hx k nm (gm ns) (eE ids) r x=false:=λx aa=>by
   rw[Cx x aa]
   simpa using ox x.e (Cw x aa)
  have ee:=ZU sQ.ay nQ
  have hle:jA k nm ns ids r s=(s.given+1,{s with given:=s.given+1,clock:=s.clock+1,l:=s.l++[⟨s.given+1,k,nm,ns,ids,r,0,s.clock+1⟩]}):=by unfold jA;rw[hf]
  rw[hle]
  obtain⟨aB,gA⟩:∃aB,aB=(ai.room 14).set p (some (wT s.cap (s.given+1) (s.clock+1) aZ bQ)):=⟨_,rfl⟩
  have F8:aP.storeCells (ai.room 14) p (0+1) [.int .u64 (Int.ofNat (s.given+1))]=some aB:=by rw[gA];exact gS sQ.st rfl rfl
  have iK:=sQ.head (s.given+1) (s.clock+1)
  rw[<-gA] at iK
  have bD:aB.n=ai.n+14:=by rw[gA];rfl
  have eb:bW F y aB:=bH.trans ((bW.ext (Ext.room _ _ _)).trans (by rw[gA];exact bW.set w.lF.1))
  have abd:aB.get e=y.get e:=by rw[gA];exact(dM (λh=>Ar h.symm) rfl).trans wa
  have w2:=iK.ext (Ext.room aB.n aB 21)
  obtain⟨R,dP⟩:∃R,R=aB.room 21:=⟨_,rfl⟩
  rw[<-dP] at w2
  have NK:R.n=aB.n+21:=by rw[dP];rfl
  have OF:R.get e=some (lM [.int .i64 (Int.ofNat k),.str nm,.str (gm ns),.str (eE ids),.int .u64 (Int.ofNat r)] bL bg):=by rw[dP];exact abd.trans eu
  have OG:∀x∈M,x.e.id<s.given+1:=λx aa=>by have:=(hs.aO _ (Cw x aa)).2.1;omega
  obtain⟨bE,d1,d2,d3,d4⟩:=aaK (id:=s.given+1) w2.ay nQ λx aa=>(w2.fG x aa).2
  obtain⟨bS,zO⟩:∃bS,bS=bE.set bQ (some (.map (M.map jf++[⟨.agg [.int .i64 (Int.ofNat k),.str nm,.str (gm ns),.str (eE ids),.int .u64 (Int.ofNat r)],.int .u64 (Int.ofNat (s.given+1)),a9⟩]) (a9+1))):=⟨_,rfl⟩
  rw[<-zO] at d4
  have abe:bS.get aZ=some (.map (M.map hM) aH):=by rw[zO];exact(dM w.jR rfl).trans ((d3 aZ w.jR).trans w2.aA)
  obtain⟨dC,f1,f2,f3,f4⟩:=aaL (id:=s.given+1) (b:=e) abe (λx aa=>by have:=OG x aa;omega) λx aa=>(w2.fG x aa).1
  obtain⟨eY,zP⟩:∃eY,eY=dC.set aZ (some (.map (M.map hM++[⟨.int .u64 (Int.ofNat (s.given+1)),.ptr e 0,aH⟩]) (aH+1))):=⟨_,rfl⟩
  rw[<-zP] at f4
  have da:eY.n=R.n:=by
   rw[zP];show dC.n=_
   rw[f2,zO];exact d2
  have OH:∀d,d≠aZ->d≠bQ->eY.get d=R.get d:=λd ab ad=>by
   rw[zP]
   refine(dM ab rfl).trans ((f3 d ab).trans ?_)
   rw[zO]
   exact(dM ad rfl).trans (d3 d ad)
  have low:∀{D:Type} {enc:D->List I} {wd el:Nat} {v:I} {ds:List D},cC enc wd el h0.n y v ds->cC enc wd el 0 R v ds/\∀d k cp,v=.slice d 0 k cp->¬F d:=by
   intro D enc wd el v ds a4
   rcases a4 with⟨rfl,a4⟩|⟨q,rfl,a6,b4,fX,fI⟩
   · exact⟨.inl ⟨rfl,a4⟩,λd k cp h=>by cases h⟩
   · refine⟨.inr ⟨q,rfl,a6,?_,Nat.zero_le _,by omega⟩,λd k cp h hf=>by cases h;have:=fP q hf;omega⟩
     have OI:q≠p:=λh=>by rw[h,w.st] at b4;injection b4 with b4;injection b4 with _ _ b4;cases b4
     rw[dP]
     show aB.get q=_
     rw[gA]
     refine(dM OI rfl).trans ?_
     show ai.get q=_
     rw[dZ]
     exact(dM OI rfl).trans b4
  obtain⟨abf,abg⟩:=low iH
  obtain⟨abh,abi⟩:=low wY
  have yp:∀x∈M,x.b≠e:=λx aa h=>gX.ne x aa ⟨w.aO.2.2.2 x aa,.inr (.inl h)⟩
  obtain⟨n,nE⟩:∃n:Mem,n=⟨⟨s.given+1,k,nm,ns,ids,r,0,0⟩,e,aH,a9,0,bL,bg⟩:=⟨_,rfl⟩
  have abj:eY.get aZ=some (.map ((M++[n]).map hM) (aH+1)):=by rw[zP,List.map_append,nE];exact gR rfl
  have abk:eY.get bQ=some (.map ((M++[n]).map jf) (a9+1)):=by
   rw[zP]
   refine(dM (λh=>w.jR h.symm) rfl).trans ((f3 bQ λh=>w.jR h.symm).trans ?_)
   rw[zO,List.map_append,nE];exact gR rfl
  have Cy:gj F eY p aZ bQ (aH+1) (a9+1) s.cap (s.given+1) (s.clock+1) (M++[n]):=by
   refine w2.add (n:=n) da OH abj abk ?_ ?_ ?_ ?_ ?_ ?_ ?_ ?_ ?_ ?_ ?_ ?_<;>subst nE
   · exact OF
   · exact abf
   · exact abh
   · exact yp
   · rfl
   · rfl
   · exact OG
   · show 0<s.given+1;omega
   · show e<R.n;omega
   · exact OD
   · exact abg
   · exact abi
  have jI:n∈M++[n]:=by simp
  have abl:∀x∈M++[n],-1000000<=x.ao/\x.ao<=1000000:=λx aa=>by
   rcases List.mem_append.1 aa with aa|aa
   · rw[fA.ao x aa]
     have:=Od hs cn x.e.id
     have e:(Int.ofNat (eA x.e.id s.l))=((eA x.e.id s.l:Nat):Int):=rfl
     omega
   · rw[List.mem_singleton.1 aa,nE]
     exact⟨(by show(-1000000:Int)<=0;decide),(by show(0:Int)<=1000000;decide)⟩
  have cS:=Cy.eu n jI
  have abm:=Cy.az n jI
  have kZ:n.b=e:=by rw[nE]
  have abn:n.e.args=ids:=by rw[nE]
  have abo:n.e.parts=r::ids:=by rw[nE];rfl
  have OJ:n.e.id=s.given+1:=by rw[nE]
  obtain⟨fZ,u_,abp,Fp⟩:=N7 (m+2) (z:=1) (.inl rfl) Cy cS abm abl (by rw[abn];omega) (by have:=Cy.aO.2.2.2 n jI;exact this)
  rw[kZ] at u_
  have w3:=abp.ext (Ext.room fZ.n fZ 13)
  have He:bump 1 n.e.parts n∈(M++[n]).map (bump 1 n.e.parts):=List.mem_map.2 ⟨n,jI,rfl⟩
  have OK:=uF w3.aA w3.up He false
  have zK:(bump 1 n.e.parts n).e.id=s.given+1:=OJ
  have Hf:(bump 1 n.e.parts n).b=e:=kZ
  rw[zK,Hf] at OK
  have abq:=w3.eu _ He
  have lL:=w3.fr He (OA (s.clock+1))
  have abr:bW F aB eY:=⟨by rw[da,NK];omega,λd ao hf=>(OH d (λh=>w.lF.2.1 (h▸hf)) (λh=>w.lF.2.2 (h▸hf))).trans (by rw[dP];rfl)⟩
  rw[dP] at d1
  refine Ow (Y (m+3)) p e aZ bQ y ⟨s.clock,aV w.st rfl,by omega,ai,st1,aV sQ.st rfl,k,nm,gm ns,eE ids,r,pF OE rfl,0,false,ee,λh=>(by cases h),λ_=>⟨s.given,aV sQ.st rfl,by omega,aB,F8,s.given+1,aV iK.st rfl,aV (h:=aB.room 21) iK.st rfl,k,nm,gm ns,eE ids,r,pF (dP▸OF) rfl,aV (h:=aB.room 21) iK.st rfl,0,a9,bE,d1,bS,⟨d4,rfl⟩,aH,dC,f1,eY,⟨f4,rfl⟩,fZ,u_,aV w3.st rfl,e,OK,s.clock+1,aV w3.st rfl,_,gS (Hf▸abq) rfl rfl,rfl,_,rfl,⟨aZ,bQ,aH+1,a9+1,_,Hf▸lL,⟨?_,?_⟩⟩,?_⟩⟩
  · show _=s.l++[⟨s.given+1,k,nm,ns,ids,r,0,s.clock+1⟩]
    rw[OB,Oe,List.map_append,fA.e,List.map_append,zK]
    have aA:s.l.map (lh (s.given+1) (s.clock+1))=s.l:=by
     have:∀q∈s.l,lh (s.given+1) (s.clock+1) q=q:=λq aM=>by
      have:=(hs.aO q aM).2.1
      unfold lh
      rw[if_neg (by omega)]
     rw[List.map_congr_left this,List.map_id']
    rw[aA,nE]
    simp[lh]
  · intro z a2
    obtain⟨v,aC,aA,ay⟩:=OC a2
    obtain⟨u,hu,rfl⟩:=List.mem_map.1 aC
    show z.ao=Int.ofNat (eA z.e.id (s.l++[⟨s.given+1,k,nm,ns,ids,r,0,s.clock+1⟩]))
    rw[aA,ay,Oz]
    have bw:eA (bump 1 n.e.parts u).e.id [⟨s.given+1,k,nm,ns,ids,r,0,s.clock+1⟩]=(r::ids).count u.e.id:=by
     rw[eA,eA];rfl
    rw[bw]
    show u.ao+1*((n.e.parts).count u.e.id:Nat)=Int.ofNat (eA u.e.id s.l+(r::ids).count u.e.id)
    rw[abo]
    rcases List.mem_append.1 hu with hu|hu
    · rw[fA.ao u hu]
      show((eA u.e.id s.l:Nat):Int)+1*_=((eA u.e.id s.l+(r::ids).count u.e.id:Nat):Int)
      rw[Int.natCast_add,Int.one_mul]
    · rw[List.mem_singleton.1 hu,OJ]
      have C8:eA (s.given+1) s.l=0:=B4.2 λq aM aK=>by
       have ab:=(hs.aO q aM).2.1
       rcases hs.part q aM _ aK with h|⟨h,_⟩<;>omega
      have ov:n.ao=0:=by rw[nE]
      rw[C8,ov,Nat.zero_add,Int.one_mul,Int.zero_add]
      rfl
  · exact(fg.trans (eb.trans abr)).trans (Fp.trans ((bW.ext (Ext.room _ _ _)).trans (bW.set (b:=e) OD)))
end Go.Proofs.dj
namespace Go.Proofs.dj
open Go aP Go.Proofs c8 Go.Proofs.cG
set_option maxRecDepth 100000
set_option maxHeartbeats 1000000
theorem lj.zL{F:Nat->Prop}{h0:J}{p e w:Nat}{bL bg:I}{ns:List a5}{ids:List Nat}{bA:List I}{s:cm}{y:J}(c4:lj F h0 p e w bL bg ns ids bA s y):(∀d k cp,bL=.slice d 0 k cp->d<y.n/\d≠e/\∃cs,y.get d=some (.cells cs 9 .a1 0 0))/\∀d k cp,bg=.slice d 0 k cp->d<y.n/\d≠e/\∃cs,y.get d=some (.cells cs 32 .a1 0 0):=by
 constructor
 · intro d k cp ao
   rcases c4.ns with⟨rfl,_⟩|⟨q,rfl,_,b4,fX,fI⟩
   · cases ao
   · cases ao;exact⟨fI,λh=>(by rw[h] at b4;exact wZ b4 c4.eu),_,b4⟩
 · intro d k cp ao
   rcases c4.az with⟨rfl,_⟩|⟨q,rfl,_,b4,fX,fI⟩
   · cases ao
   · cases ao;exact⟨fI,λh=>(by rw[h] at b4;exact wZ b4 c4.eu),_,b4⟩
theorem lj.next{F:Nat->Prop}{h0:J}{p e w:Nat}{bL bg:I}{ns:List a5}{ids:List Nat}{bA zQ:List I}{s:cm}{y g:J}(c4:lj F h0 p e w bL bg ns ids bA s y)(fP:∀b,F b->b<h0.n)(aN:y.n<=g.n)(aq:∀d,d<y.n->d≠e->jx 5 (y.get d)->g.get d=y.get d)(abt:∀d,d<h0.n->g.get d=y.get d)(he:g.get e=some (lM zQ bL bg)):lj F h0 p e w bL bg ns ids zQ s g:=by
 obtain⟨Cz,CA⟩:=c4.zL
 have ab:=c4.fg.n
 have ad:=c4.c9
 have ar:=c4.uM
 have aG:=c4.jY
 refine⟨c4.st.move aN (λd ao la aj=>aq d ao (λh=>la ⟨ao,.inr (.inl h)⟩) aj) (λd ao ky=>?_),⟨by omega,λd ao hf=>(abt d ao).trans (c4.fg.get d ao hf)⟩,he,cC.b8 c4.ns aN λq aM kT=>?_,cC.b8 c4.az aN λq aM kT=>?_,ad,ar,by omega⟩
 · obtain⟨_,qB⟩:=ky
   rcases qB with h|h|h|h|h|h
   · exact .inl ⟨ao,.inl h⟩
   · exact .inl ⟨ao,.inr (.inl h)⟩
   · exact .inl ⟨ao,.inr (.inr (.inl h))⟩
   · exact .inl ⟨ao,.inr (.inr (.inr (.inl h)))⟩
   · exact .inl ⟨ao,.inr (.inr (.inr (.inr (.inl h))))⟩
   · by_cases o3:d=e
     · exact .inl ⟨ao,.inr (.inl o3)⟩
     · exact .inr λaj=>h (by rw[aq d ao o3 aj];exact aj)
 · obtain⟨_,bY,cs,eb⟩:=Cz q _ _ aM
   exact aq q kT bY (by rw[eb];exact uI (by decide))
 · obtain⟨_,bY,cs,eb⟩:=CA q _ _ aM
   exact aq q kT bY (by rw[eb];exact uI (by decide))
theorem lj.child{F:Nat->Prop}{h0:J}{p e w:Nat}{bL bg:I}{ns:List a5}{ids:List Nat}{bA zQ:List I}{s bc:cm}{y g:J}(c4:lj F h0 p e w bL bg ns ids bA s y)(fP:∀b,F b->b<h0.n)(hs:gE (Loc F y e w bL bg) g p bc)(aq:bW (Loc F y e w bL bg) y g):lj F h0 p e w bL bg ns ids zQ bc (g.set e (some (lM zQ bL bg))):=by
 obtain⟨Cz,CA⟩:=c4.zL
 have ab:=c4.fg.n
 have ad:=c4.c9
 have ar:=c4.uM
 have aG:=c4.jY
 have bJ:=aq.n
 refine⟨hs.move (Nat.le_refl _) (λd ao la aj=>dM (λh=>la ⟨by omega,.inr (.inl h)⟩) rfl) (λd ao ky=>?_),⟨by simp;omega,λd ao hf=>?_⟩,gR rfl,cC.b8 c4.ns (by simp;omega) λq aM kT=>?_,cC.b8 c4.az (by simp;omega) λq aM kT=>?_,ad,ar,by simp;omega⟩
 · obtain⟨_,qB⟩:=ky
   rcases qB with h|h|h|h|h|h
   · exact .inl ⟨by have:=fP d h;omega,.inl h⟩
   · exact .inl ⟨by omega,.inr (.inl h)⟩
   · exact .inl ⟨by omega,.inr (.inr (.inl h))⟩
   · obtain⟨k,cp,aM⟩:=h
     exact .inl ⟨(Cz d k cp aM).1,.inr (.inr (.inr (.inl ⟨_,_,aM⟩)))⟩
   · obtain⟨k,cp,aM⟩:=h
     exact .inl ⟨(CA d k cp aM).1,.inr (.inr (.inr (.inr (.inl ⟨_,_,aM⟩))))⟩
   · by_cases o3:d=e
     · exact .inl ⟨by omega,.inr (.inl o3)⟩
     · exact .inr λaj=>h (by rw[dM o3 rfl];exact aj)
 · exact(dM (by omega) rfl).trans ((aq.get d (by omega) ⟨by omega,.inl hf⟩).trans (c4.fg.get d ao hf))
 · obtain⟨_,bY,_⟩:=Cz q _ _ aM
   exact(dM bY rfl).trans (aq.get q kT ⟨kT,.inr (.inr (.inr (.inl ⟨_,_,aM⟩)))⟩)
 · obtain⟨_,bY,_⟩:=CA q _ _ aM
   exact(dM bY rfl).trans (aq.get q kT ⟨kT,.inr (.inr (.inr (.inr (.inl ⟨_,_,aM⟩))))⟩)
theorem abu(l:List aE){i:Nat}(h:i<l.length):c1 (l.take i)+sz l[i]<=c1 l:=by
 have key:∀a b:List aE,c1 (a++b)=c1 a+c1 b:=by
  intro a b
  induction a with
  |nil=>rw[c1,List.nil_append];omega
  |cons x a a7=>rw[List.cons_append,c1,a7,c1];omega
 have e:=key (l.take i) (l.drop i)
 rw[List.take_append_drop,List.drop_eq_getElem_cons h,c1] at e
 omega
theorem OL:∀{ns:List a5},(∀s∈ns,s.length<=24)->fE 1 ns<=25*ns.length
 |[],_=>by rw[fE];exact Nat.zero_le _
 |x::l,h=>by
  have ab:=h x (List.mem_cons_self ..)
  have ad:=OL (ns:=l) λs hs=>h s (List.mem_cons_of_mem _ hs)
  rw[fE,List.length_cons];omega
theorem Hg:∀(N:Nat) (t:aE),sz t<=N->dm (some t)=0->∀n,sz t+10<=n->Ox n t
 |0,t,h,_,_,_=>by have:=sh t;omega
 |N+1,.mk k nm ns xs rt,gP,ag,n,aN=>by
  intro F h p v s st hs fk aa_ aba fP aC
  obtain⟨aH,a9⟩:=kR.1 ag
  obtain⟨jI,la,abv⟩:=On a9
  have bx:=mf k nm ns xs rt
  have fw:=nU xs
  obtain⟨r,uO,CB,c2,vs,bh,aO,up,rfl,Hh,CC,nQ,rA,OM,x2⟩:=aC
  obtain⟨m,rfl⟩:∃m,n=m+5+1:=⟨n-6,by omega⟩
  have wz:=fP r Hh
  refine EI (R:=λx=>∃g,x=.ret (.int .u64 (Int.ofNat (cD (.mk k nm ns xs rt) s).1)) g/\gE F g p (cD (.mk k nm ns xs rt) s).2/\bW F h g) (intr:=b0) (n:=m+5) (args:=[.ptr p 0,.ptr r 0]) Tryz.func26 (by kernel_rfl) (by kernel_rfl) (by kernel_rfl) (Q:=λb9 st=>b9=.ret/\∃g,st=⟨[(4,.int .u64 (Int.ofNat (cD (.mk k nm ns xs rt) s).1))],[],.none,g⟩/\gE F g p (cD (.mk k nm ns xs rt) s).2/\bW F h g) ?_ ?_
  rotate_left
  · rintro e st ⟨rfl,g,rfl,ab,ad⟩
    exact .inl ⟨.inl rfl,rfl,.int .u64 (Int.ofNat (cD (.mk k nm ns xs rt) s).1),by kernel_rfl,g,rfl,ab,ad⟩
  have abw:∃v2 ai,Y (m+5) (.fn 38) [uO] h=.ret v2 ai/\p8 h.n ai v2 ns/\Ext h.n h ai/\v2.cT=true:=by
   have abx:db h.n h uO (ns.map .str):=by
    rcases nQ with⟨a,b⟩|⟨b,off,cp,cr,cZ,dp,eS,eG,qR⟩
    · exact .inl ⟨a,b⟩
    · exact .inr ⟨b,off,cp,cr,fP b cZ,dp,eS,eG⟩
   rcases Mk (m+4) (Nat.le_refl _) abx (by rw[List.length_map];omega) (by simp[List.all_map,I.cT]) with⟨_,e,c⟩|⟨ab,b,ai,c,bo,bG,ed,ja⟩
   · have c9:ns=[]:=by simpa using e
     exact⟨.a0,h,c,.inl ⟨rfl,c9⟩,Ext.refl _ _,rfl⟩
   · rw[List.length_map] at ab c
     refine⟨_,ai,c,.inr ⟨b,rfl,ab,?_,bo,bG⟩,ja,rfl⟩
     rw[kn];exact ed
  obtain⟨v2,ai,JG,aby,zH,lR⟩:=abw
  have aD:=zH.n
  obtain⟨ab,iT⟩:∃ab,ab=ai.push (lM nh v2 .a0):=⟨_,rfl⟩
  obtain⟨ad,rS⟩:∃ad,ad=ab.push (.cells [.bb,.a0] 92 .own 0 0):=⟨_,rfl⟩
  have ad4:ab.n=ai.n+1:=by rw[iT];rfl
  have ad5:ad.n=ab.n+1:=by rw[rS];rfl
  have n1:Ext ai.n ai ad:=by rw[rS];refine Ext.kG (by omega) ?_;rw[iT];exact Ext.push (Nat.le_refl _) _
  have zR:Ext h.n h ad:=zH.trans aD n1
  have abz:ad.get ai.n=some (lM nh v2 .a0):=by rw[rS];refine l7 (by omega) ?_;rw[iT];exact fo rfl
  have abA:ad.get ab.n=some (.cells [.bb,.a0] 92 .own 0 0):=by rw[rS];exact fo rfl
  have ON:p8 h.n ad v2 ns:=aby.mono n1 (Nat.le_refl _)
  have OO:lj F h p ai.n ab.n v2 .a0 ns [] nh s ad:=by
   refine⟨st.move zR.n (λd ao _ _=>zR.get d ao) (λd ao ky=>?_),bW.ext zR,abz,ON,.inl ⟨rfl,rfl⟩,aD,by omega,by omega⟩
   obtain⟨_,qB⟩:=ky
   rcases qB with aM|aM|aM|⟨_,_,aM⟩|⟨_,_,aM⟩|aM
   · exact .inl aM
   · omega
   · omega
   · rcases ON with⟨e,_⟩|⟨b,e,_,_,fX,_⟩
     · rw[e] at aM;cases aM
     · rw[e] at aM;cases aM;omega
   · cases aM
   · exact .inr (by rw[<-zR.get d ao];exact aM)
  have kU:jP ad.n ab.n ad (eE []):=⟨.bb,.a0,abA,.inl rfl,.inl ⟨rfl,rfl⟩,by omega,Nat.le_refl _,λ_=>rfl⟩
  refine a3.seq (p:=[]) (by kernel_rfl) (aaO _ p r h (a3.seq (p:=[1]) (by kernel_rfl) (aaP _ p r h (a3.seq (p:=[1,1]) (by kernel_rfl) (aaQ _ p r h ⟨uO,aV CC rfl,v2,ai,JG,lR,lR,a3.seq (p:=[1,1,1]) (by kernel_rfl) ?_⟩)))))
  have aA:ai.push (.cells [.int .i64 (Int.ofNat 0),.str [],.str [],.str [],.int .u64 (Int.ofNat 0),v2,.a0,.int .i64 (Int.ofNat 0),.int .i64 (Int.ofNat 0),.int .u64 (Int.ofNat 0)] 65 .own 0 0)=ab:=by rw[iT];rfl
  rw[aA]
  refine aaR _ p r ai.n ab (a3.seq (p:=[1,1,1,1]) (by kernel_rfl) ?_)
  rw[<-rS]
  have Ah:vs.length=xs.length:=cY.len OM
  have abB:∀g,cc Tryz.prog g 50 CB=some (.int .i64 (Int.ofNat vs.length)):=λg=>by
   rcases rA with⟨rfl,rfl⟩|⟨b,off,cp,rfl,_⟩<;>rfl
  have rest:∀(y:J) (bg:I) (Γ:Env),lj F h p ai.n ab.n v2 bg ns (cX xs s).1 nh (cX xs s).2 y->jP ad.n ab.n y (eE (cX xs s).1)->a3 Tryz.prog Tryz.f26 (Y (m+5)) [1,1,1,1,1] ⟨[(0,.ptr p 0),(1,.ptr r 0),(5,.fn 26 [.ptr p 0] []),(6,.ptr ai.n 0),(7,.ptr ab.n 0)],[],.none,y⟩ (λb9 st=>b9=.ret/\∃g,st=⟨[(4,.int .u64 (Int.ofNat (cD (.mk k nm ns xs rt) s).1))],[],.none,g⟩/\gE F g p (cD (.mk k nm ns xs rt) s).2/\bW F h g):=by
   intro y bg Γ c4 ae
   have fg:=c4.fg
   have nd:=fg.n
   have ad6:=c4.jY
   have ad7:=c4.uM
   have abC:y.get r=h.get r:=fg.get r wz Hh
   have uP:y.get r=some (.cells [.int .i64 (Int.ofNat k),.str nm,uO,CB,c2] 80 bh aO up):=abC.trans CC
   have abD:km F (y.room 19) uO (ns.map .str):=km.b8 (λb ae=>⟨ae,fg.get b (fP b ae) ae⟩) nQ
   obtain⟨CD,abE,OP⟩:=aad (m+1) abD (λb ae=>by have:=fP b ae;have:(y.room 19).n=y.n+19:=rfl;omega) (λs hs=>(jI s hs).1) (by omega) (by have:=OL abv;omega)
   have Ov:(y.room 19).n=y.n+19:=rfl
   have ad8:=OP.n
   have zS:∀d,d<y.n->CD.get d=y.get d:=λd ao=>OP.get d (by omega)
   have abF:jP ad.n ab.n CD (eE (cX xs s).1):=jP.Ou ae (by omega) λd ao _=>zS d ao
   have jy:=Cu xs s
   obtain⟨ax,cs,OQ,abG⟩:=aaY (m+4) ab.n ad.n CD _ abF (by rw[G_];omega)
   have ad9:=OQ.n
   have OR:∀d,d<y.n->jx 5 (y.get d)->ax.get d=y.get d:=λd ao aj=>by
    have aJ:=zS d ao
    exact(abG d (by omega) (by rw[aJ];exact aj)).trans aJ
   have ge:ax.get ai.n=some (lM nh v2 bg):=(OR ai.n (by omega) (by rw[c4.eu];exact zE)).trans c4.eu
   have Hi:∀d,d<h.n->ax.get d=y.get d:=λd ao=>(OQ.get d (by omega)).trans (zS d (by omega))
   obtain⟨aB,gA⟩:∃aB,aB=ax.set ai.n (some (lM [.int .i64 (Int.ofNat k),.str nm,.str (gm ns),.str (eE (cX xs s).1),.int .u64 (Int.ofNat 0)] v2 bg)):=⟨_,rfl⟩
   have q6:lj F h p ai.n ab.n v2 bg ns (cX xs s).1 [.int .i64 (Int.ofNat k),.str nm,.str (gm ns),.str (eE (cX xs s).1),.int .u64 (Int.ofNat 0)] (cX xs s).2 aB:=by
    refine c4.next fP (by rw[gA];simp;omega) (λd ao o3 aj=>?_) (λd ao=>?_) (by rw[gA];exact gR rfl)
    · rw[gA];exact(dM o3 rfl).trans (OR d ao aj)
    · rw[gA];exact(dM (by omega) rfl).trans (Hi d ao)
   refine a3.seq (p:=[1,1,1,1,1]) (by kernel_rfl) (aaV _ p r ai.n ab.n y ⟨k,aV (h:=y.room 19) uP rfl,nm,aV (h:=y.room 19) uP rfl,uO,aV (h:=y.room 19) uP rfl,gm ns,CD,abE,eE (cX xs s).1,ax,cs,aB,by rw[gA];exact gS ge rfl rfl,aV ((Hi r wz).trans uP) rfl,aV ((zS r (by omega)).trans uP) rfl,aV ((Hi r wz).trans uP) rfl,aV ((zS r (by omega)).trans uP) rfl,?_,?_⟩)
   · rcases nQ with⟨rfl,_⟩|⟨b,off,cp,rfl,_⟩<;>rfl
   obtain⟨kB,_,abH⟩:=wG xs hs
   obtain⟨ep,gk,_⟩:=Ct xs s
   have CE:=Cv xs s (λu hu=>uA ag hu) fk
   have node3:aB.get r=some (.cells [.int .i64 (Int.ofNat k),.str nm,uO,CB,c2] 80 bh aO up):=(q6.fg.get r wz Hh).trans CC
   have abI:∀i∈(cX xs s).1,i<18446744073709551616:=λi af=>by
    obtain⟨q,aM,oO⟩:=abH i af
    have:=(kB.aO q aM).2.1
    omega
   have zx:=Ok rt (cX xs s).2
   have fin:∀{s2 r2 eN},lj F h p ai.n ab.n v2 bg ns (cX xs s).1 [.int .i64 (Int.ofNat k),.str nm,.str (gm ns),.str (eE (cX xs s).1),.int .u64 (Int.ofNat r2)] s2 eN->(r2,s2)=gL rt (cX xs s).2->a3 Tryz.prog Tryz.f26 (Y (m+5)) [1,1,1,1,1,1,1] ⟨[(0,.ptr p 0),(6,.ptr ai.n 0)],[],.none,eN⟩ (λb9 st=>b9=.ret/\∃g,st=⟨[(4,.int .u64 (Int.ofNat (cD (.mk k nm ns xs rt) s).1))],[],.none,g⟩/\gE F g p (cD (.mk k nm ns xs rt) s).2/\bW F h g):=by
    intro s2 r2 eN q7 OS
    have abJ:(gL rt (cX xs s).2).1=r2:=by rw[<-OS]
    have OT:(gL rt (cX xs s).2).2=s2:=by rw[<-OS]
    obtain⟨qC,_,_⟩:=Gh rt kB
    have DN:=Oo rt (cX xs s).2 (λu hu=>by subst hu;exact G8 ag) CE
    rw[OT] at qC DN zx
    have:=aa9 (m+2) fP q7 qC DN (by omega) (by omega) jI (by omega) abI
    rw[cD,abJ,OT]
    exact this
   refine a3.seq (p:=[1,1,1,1,1,1]) (by kernel_rfl) ?_
   cases rt with
   |none=>
    have e:c2=.bb:=x2
    subst e
    exact aaX _ p r ai.n aB ⟨aV node3 rfl,fin q6 (by rw[gL])⟩
   |some u=>
    have hu:=G8 ag
    rw[ld] at bx
    obtain⟨CF,abK⟩:=eU.ptr x2
    subst abK
    have zJ:=Hg N u (by omega) hu (m+5) (by omega)
    have CG:eU (Loc F aB ai.n ab.n v2 bg) aB u (.ptr CF 0):=eU.b8 (λb ae=>⟨⟨by have:=fP b ae;have:=q6.fg.n;omega,.inl ae⟩,q6.fg.get b (fP b ae) ae⟩) _ _ x2
    obtain⟨bE,gW,abL,gO⟩:=zJ _ aB p (.ptr CF 0) _ q6.st kB CE (by omega) (by omega) (λb ae=>ae.1) CG
    have abM:bE.get ai.n=some (lM [.int .i64 (Int.ofNat k),.str nm,.str (gm ns),.str (eE (cX xs s).1),.int .u64 (Int.ofNat 0)] v2 bg):=(gO.get _ (by have:=q6.jY;omega) ⟨by have:=q6.jY;omega,.inr (.inl rfl)⟩).trans q6.eu
    exact aaW _ p r ai.n aB ⟨CF,aV node3 rfl,CF,aV node3 rfl,(cD u (cX xs s).2).1,bE,gW,_,gS abM rfl rfl,fin (q6.child fP abL gO) (by rw[gL])⟩
  refine aaS _ p r ai.n ab.n ad ⟨CB,aV ((zR.get r wz).trans CC) rfl,vs.length,abB ad,?_⟩
  rcases rA with⟨rfl,rfl⟩|⟨b,off,cp,rfl,OU,fp,xn,_⟩
  · have c9:xs=[]:=List.eq_nil_of_length_eq_zero (by rw[<-Ah];rfl)
    subst c9
    refine a3.loop (by kernel_rfl) (λk st=>∃Γ,st=⟨Γ,[],.none,ad⟩/\b_ [(0,.ptr p 0),(1,.ptr r 0),(5,.fn 26 [.ptr p 0] []),(6,.ptr ai.n 0),(7,.ptr ab.n 0),(25,.a0),(26,.int .i64 (Int.ofNat 0)),(27,.int .i64 (Int.ofNat 0))] Γ) ?_ 0 _ (by omega) ⟨_,rfl,rfl,rfl,rfl,rfl,rfl,rfl,rfl,rfl,trivial⟩
    rintro ej st ⟨Γ,rfl,cQ⟩
    refine a3.pre (aaU _ p r ai.n ab.n .a0 ad ⟨by omega,ad,_,rfl,rfl,⟨rfl,rfl,rfl,rfl,rfl,trivial⟩,?_⟩) cQ rfl rfl rfl
    exact rest ad .a0 [] (by rw[cX];exact OO) (by rw[cX];exact kU)
  · refine a3.loop (by kernel_rfl) (λk st=>∃i y bg Γ,st=⟨Γ,[],.none,y⟩/\b_ [(0,.ptr p 0),(1,.ptr r 0),(5,.fn 26 [.ptr p 0] []),(6,.ptr ai.n 0),(7,.ptr ab.n 0),(25,.slice b off vs.length cp),(26,.int .i64 (Int.ofNat vs.length)),(27,.int .i64 (Int.ofNat i))] Γ/\vs.length-i=k/\i<=vs.length/\lj F h p ai.n ab.n v2 bg ns (cX (xs.take i) s).1 nh (cX (xs.take i) s).2 y/\jP ad.n ab.n y (eE (cX (xs.take i) s).1)) ?_ vs.length _ (by omega) ⟨0,ad,.a0,_,rfl,⟨rfl,rfl,rfl,rfl,rfl,rfl,rfl,rfl,trivial⟩,by omega,by omega,by rw[List.take_zero,cX];exact OO,by rw[List.take_zero,cX];exact kU⟩
    rintro ej st ⟨i,y,bg,Γ,rfl,cQ,e3,af,c4,ae⟩
    refine a3.pre (aaT _ p r ai.n ab.n b off _ i cp y ⟨λi1=>?_,λi1=>?_⟩) cQ rfl rfl rfl
    · have i2:i<xs.length:=by omega
      have xF:=cY.get OM i i1 i2
      obtain⟨lB,py⟩:=eU.ptr xF
      have ci:=uA ag (show xs[i]∈(aE.mk k nm ns xs rt).xs from List.getElem_mem i2)
      have ad_:=abu xs i2
      have zJ:=Hg N xs[i] (by omega) ci (m+5) (by omega)
      obtain⟨kB,_,_⟩:=wG (xs.take i) hs
      obtain⟨ep,gk,_⟩:=Ct (xs.take i) s
      have CE:=Cv (xs.take i) s (λu hu=>uA ag (List.mem_of_mem_take hu)) fk
      obtain⟨GB,d1,d2,j7,zv,d3,d4,GC,d5,GD,d6,OV,d7,CH,hS⟩:=aa0 (m+2) fP c4 ae (by omega) (by have:=c4.uM;omega) zJ kB CE (by omega) (by omega) xF (by rw[Cu,List.length_take];omega)
      rw[py] at d1
      have OW:cX (xs.take (i+1)) s=((cX (xs.take i) s).1++[(cD xs[i] (cX (xs.take i) s).2).1],(cD xs[i] (cX (xs.take i) s).2).2):=by
       rw[List.take_succ_eq_append_getElem i2,Ol]
      have Du:au y b (off+i*1)=some (.ptr lB 0):=by
       have e:=c4.fg.get b (fP b OU) OU
       have ay:=fp i i1
       rw[py] at ay
       rw[<-ay];exact B7 e
      exact⟨i1,lB,Du,_,GB,d1,bg,d2,j7,zv,d3,d4,GC,d5,_,GD,d6,_,_,OV,d7,by omega,_,(by show _<ej;omega),i+1,OV,j7,_,rfl,⟨rfl,rfl,rfl,rfl,rfl,rfl,rfl,rfl,trivial⟩,rfl,by omega,by rw[OW];exact CH,by rw[OW];exact hS⟩
    · obtain rfl:i=vs.length:=by omega
      have e:xs.take vs.length=xs:=List.take_of_length_le (by omega)
      rw[e] at c4 ae
      exact⟨y,_,rfl,rfl,⟨rfl,rfl,rfl,rfl,rfl,trivial⟩,rest y bg [] c4 ae⟩
end Go.Proofs.dj
