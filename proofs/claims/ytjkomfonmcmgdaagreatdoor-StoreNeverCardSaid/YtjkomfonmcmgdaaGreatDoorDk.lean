/-
  PROVED HERE: contracts of functions (Dk). No condition beside each statement's own.
-/
import Derived.Test.YtjkomfonmcmgdaaGreatDoorDj
set_option linter.unusedVariables false
set_option linter.unusedSimpArgs false
namespace Go.Proofs.dj
open Go aM Go.Proofs c_ Go.Proofs.cF
set_option maxRecDepth 100000
set_option maxHeartbeats 1000000
theorem ZP(m:Nat)(p:Nat)(h:J){R:av->Prop}(H:a4 Tryz.prog Tryz.f22 (Y m) [1,1,0] (ah.mk [(1,.ptr h.n 0),(2,.fn 40 [] [.ptr h.n 0])] [] .none (J.push h (.cells [.ptr p 0] 23 .own 0 0))) (λcd ct=>((∃aj:J,∃bB:Env,cd=.exit 0/\ct=ah.mk bB [] .none aj/\cl [] bB/\R (.ret (.aP []) aj))\/(∃ax:J,∃b2:Env,cd=.ret/\ct=ah.mk b2 [] .none ax/\cl [] b2/\R (.ret (.aP []) ax))))):
  R (Y (m+1) (.fn 22) [.ptr p 0] h):=
 dJ (intr:=b1) [(4000,.g2 [1,2] [(.exit 0,[]),(.ret,[])])] [(0,.v (.ptr p 0))] Tryz.func22 (by kernel_rfl) (by kernel_rfl) (by kernel_rfl) rfl (Eq.mp (by kernel_rfl) H)
theorem ZQ(call:aI->List I->J->av)(c:Nat)(a3:Nat)(bS:Nat)(h:J){Q:bn->ah->Prop}(H:∃aD:Nat,au (h.room 10) c 0=some (.ptr aD 0)/\au (h.room 10) aD (0+3)=some (.map a3)/\∃bm:Nat,b9 Tryz.prog (h.room 10) 55 (.map a3)=some (.int .i64 (.ofNat bm))/\∃bG:Nat,au (h.room 10) c 0=some (.ptr bG 0)/\∃bV:Nat,au (h.room 10) bG (0+0)=some (.int .i64 (.ofNat bV))/\(bV<bm->∃cc:Nat,∃aj:J,call (.fn 40) [.ptr c 0] (h.room 10)=.ret (.int .u64 (.ofNat cc)) aj/\(cc=0->Q .ret (ah.mk [(1,.ptr c 0),(2,.fn 40 [] [.ptr c 0])] [] .none aj))/\(¬cc=0->∃cI:Nat,au aj c 0=some (.ptr cI 0)/\au aj cI (0+3)=some (.map a3)/\∃dr:Nat,h9 Tryz.prog aj 55 (.map a3) (.int .u64 (.ofNat cc)) false=some (.ptr dr 0)/\∃en:Nat,au aj c 0=some (.ptr en 0)/\∃ax:J,call (.fn 41) [.ptr en 0,.ptr dr 0,.int .i64 (.negSucc 0)] aj=.ret (.aP []) ax/\∃eH:Nat,au (ax.room 9) c 0=some (.ptr eH 0)/\au (ax.room 9) eH (0+4)=some (.map bS)/\∃fX:Nat,∃s1:List UInt8,∃s2:List UInt8,∃bI:List UInt8,∃iH:Nat,aM.loadCells (ax.room 9) dr (0+0) 5=some [.int .i64 (.ofNat fX),.str s1,.str s2,.str bI,.int .u64 (.ofNat iH)]/\∃aC:J,oO Tryz.prog (ax.room 9) 56 (.map bS) (.agg [.int .i64 (.ofNat fX),.str s1,.str s2,.str bI,.int .u64 (.ofNat iH)])=some (.aP [],aC)/\∃jk:Nat,au aC c 0=some (.ptr jk 0)/\au aC jk (0+3)=some (.map a3)/\∃bK:J,oO Tryz.prog aC 55 (.map a3) (.int .u64 (.ofNat cc))=some (.aP [],bK)/\Q .nrm (ah.mk [(1,.ptr c 0),(2,.fn 40 [] [.ptr c 0])] [] .none bK)))/\(¬bV<bm->Q (.exit 0) (ah.mk [(1,.ptr c 0),(2,.fn 40 [] [.ptr c 0])] [] .none (h.room 10)))):
  a4 Tryz.prog Tryz.f22 call [1,1,0,0] ⟨[(1,.ptr c 0),(2,.fn 40 [] [.ptr c 0])],[],.none,h⟩ Q:=
 dI [(9,.bC (.is (.map a3))),(23,.bC (.is (.map a3))),(32,.bC (.is (.map bS))),(40,.bC (.is (.map a3))),(25,.bC .p)] [1,2] [(1,.v (.ptr c 0)),(2,.v (.fn 40 [] [.ptr c 0]))] rfl (Eq.mp (by kernel_rfl) H)
structure wx(l:List cu)(M:List Mem):Prop where
 e:M.map Mem.e=l
 ao:∀x∈M,x.ao=Int.ofNat (eu x.e.id l)
def mY(l:List cu)(x:Mem):dT:=⟨x.e.id,x.b,x.e.pins,eu x.e.id l,x.e.used,x.dv⟩
theorem Nu{h:J}{f:Mem->dT}:∀{M:List Mem},(∀x∈M,rO h (hD x)=some (f x))->tE h (M.map hD)=some (M.map f)
 |[],_=>rfl
 |x::M,aa=>by
  rw[List.map_cons,tE,aa x (List.mem_cons_self ..),Nu λy aW=>aa y (List.mem_cons_of_mem _ aW)];rfl
theorem B2:∀{l:List Nat},l.Pairwise (· ≠ ·)->lY l=true
 |[],_=>rfl
 |a::l,h=>by
  rw[List.pairwise_cons] at h
  have:(l.any λx=>Nat.beq a x)=false:=List.any_eq_false.2 λx aa=>by
   intro e
   exact h.1 x aa (Nat.eq_of_beq_eq_true e)
  rw[lY,this]
  exact B2 h.2
theorem B3{l:List cu}{x:Mem}:(mY l x).loose=pF l x.e:=rfl
def B4:Option cu->Nat
 |none=>0
 |some e=>e.id
theorem ZR{s:c5}(hs:e_ s){M:List Mem}(ak:wx s.l M):EO (nB (M.map (mY s.l)))=B4 (jB s.l s.l):=by
 cases ae:jB s.l s.l with
 |none=>
  have aK:=BE.1 ae
  cases hm:nB (M.map (mY s.l)) with
  |none=>rfl
  |some d=>
   obtain⟨ab,ad,_⟩:=yg hm
   obtain⟨x,aa,rfl⟩:=List.mem_map.1 ab
   have jP:x.e∈s.l:=by rw[<-ak.e];exact List.mem_map.2 ⟨x,aa,rfl⟩
   rw[B3,aK _ jP] at ad;cases ad
 |some e=>
  obtain⟨bt,bH,ej⟩:=v5 ae
  obtain⟨y,aW,Gy⟩:=List.mem_map.1 (ak.e▸bt:e∈M.map Mem.e)
  cases hm:nB (M.map (mY s.l)) with
  |none=>
   have:=A9 hm (mY s.l y) (List.mem_map.2 ⟨y,aW,rfl⟩)
   rw[B3,Gy,bH] at this;cases this
  |some d=>
   obtain⟨ab,ad,ar⟩:=yg hm
   obtain⟨x,aa,rfl⟩:=List.mem_map.1 ab
   have jP:x.e∈s.l:=by rw[<-ak.e];exact List.mem_map.2 ⟨x,aa,rfl⟩
   have bB:=ar (mY s.l y) (List.mem_map.2 ⟨y,aW,rfl⟩) (by rw[B3,Gy];exact bH)
   have b2:=ej x.e jP (by rw[<-B3];exact ad)
   have ZS:x.e.used<=y.e.used:=bB
   rw[Gy] at ZS
   show x.e.id=e.id
   exact hs.one _ jP _ bt (by omega)
theorem ZT(m:Nat){G:Nat->Prop}{h:J}{p a3 bS aG a9 c:Nat}{s:c5}{M:List Mem}(w:f_ G h p a3 bS aG a9 s.cap s.given s.clock M)(ak:wx s.l M)(hs:e_ s)(ag:au h c 0=some (.ptr p 0))(p0:c<h.n):Y (m+1) (.fn 40) [.ptr c 0] h=.ret (.int .u64 (Int.ofNat (B4 (jB s.l s.l)))) (h.room (1+32*M.length)):=by
 obtain⟨bB,b2,dq,im⟩:=w.aN
 have ZU:tE h (M.map hD)=some (M.map (mY s.l)):=Nu λx aa=>by
  have he:=w.et x aa
  have ai:=ak.ao x aa
  have qp:au h x.b 7=some (.int .i64 (Int.ofNat x.e.pins)):=aU he rfl
  have kY:au h x.b 8=some (.int .i64 (Int.ofNat (eu x.e.id s.l))):=by rw[<-ai];exact aU he rfl
  have yc:au h x.b 9=some (.int .u64 (Int.ofNat x.e.used)):=aU he rfl
  unfold rO hD
  simp only[qp,kY,yc];rfl
 have d1:lY ((M.map (mY s.l)).map dT.born)=true:=by
  rw[List.map_map]
  exact B2 (List.pairwise_map.2 (w.dv.imp λ{a b} fg=>fg))
 have d2:lY ((M.map (mY s.l)).map dT.id)=true:=by
  rw[List.map_map]
  exact B2 (List.pairwise_map.2 (w.up.imp λ{a b} fg=>by show a.e.id≠b.e.id;omega))
 have d3:lY (((M.map (mY s.l)).filter dT.loose).map dT.used)=true:=by
  refine B2 (List.pairwise_map.2 (List.Pairwise.filter _ (List.pairwise_map.2 ?_)))
  have ze:M.Pairwise λa b=>a.e∈s.l/\b.e∈s.l/\a.e.id<b.e.id:=by
   have h1:∀x∈M,x.e∈s.l:=λx aa=>by rw[<-ak.e];exact List.mem_map.2 ⟨x,aa,rfl⟩
   exact(List.Pairwise.and_mem.1 w.up).imp λ{a b} ⟨aS,ae,fg⟩=>⟨h1 a aS,h1 b ae,fg⟩
  refine ze.imp λ{a b} fg e=>?_
  have:=hs.one _ fg.1 _ fg.2.1 e
  omega
 have d4:((M.map (mY s.l)).all λd=>Nat.blt d.born aG&&Nat.blt 0 d.id)=true:=List.all_eq_true.2 λd ao=>by
  obtain⟨x,aa,rfl⟩:=List.mem_map.1 ao
  rw[Bool.and_eq_true,Nat.blt_eq,Nat.blt_eq]
  exact⟨(w.fD x aa).1,w.ua x aa⟩
 have d5:((M.map (mY s.l)).all λd=>Nat.blt d.b h.n)=true:=List.all_eq_true.2 λd ao=>by
  obtain⟨x,aa,rfl⟩:=List.mem_map.1 ao
  rw[Nat.blt_eq];exact im x aa
 have bt:Nat.blt c h.n=true:=by rw[Nat.blt_eq];exact p0
 have bH:Nat.blt p h.n=true:=by rw[Nat.blt_eq];exact bB
 have ej:Nat.blt a3 h.n=true:=by rw[Nat.blt_eq];exact b2
 have ch:au h p 3=some (.map a3):=aU w.st rfl
 have e:vr 40 [.ptr c 0] h=some (.int .u64 (Int.ofNat (B4 (jB s.l s.l))),h.room (1+32*M.length)):=by
  have ae:Nat.beq 40 40=true:=rfl
  have c9:tF (M.map (mY s.l)) aG=true:=by unfold tF;rw[d1,d2,d3,d4];rfl
  unfold vr
  simp only[ae,ag,ch,w.aA,ZU,c9,bt,bH,ej,d5,ZR hs ak,List.length_map];rfl
 have cH:b1 40 [.ptr c 0] h=some (.int .u64 (Int.ofNat (B4 (jB s.l s.l))),h.room (1+32*M.length)):=e
 show e6 Tryz.prog b1 (m+1) _ _ _=_
 simp only[e6,cH]
theorem ZV{i:Nat}{l:List cu}{x:Nat}(h:∀e∈l,e.id≠x):hV x l=l:=by
 unfold hV
 refine List.filter_eq_self.2 λe he=>?_
 cases ae:Nat.beq e.id x with
 |false=>rfl
 |true=>exact absurd (Nat.eq_of_beq_eq_true ae) (h e he)
theorem drop_cons{e:cu}{l:List cu}(x:Nat):hV x (e::l)=if e.id=x then hV x l else e::hV x l:=by
 unfold hV
 rw[List.filter_cons]
 by_cases h:e.id=x
 · rw[if_pos h,h,Nat.beq_refl];rfl
 · rw[if_neg h]
   cases ae:Nat.beq e.id x with
   |false=>rfl
   |true=>exact absurd (Nat.eq_of_beq_eq_true ae) h
theorem Nv{l:List cu}(aO:l.Pairwise (λa b=>a.id<b.id)){x:cu}(aa:x∈l)(i:Nat):eu i l=x.parts.count i+eu i (hV x.id l)/\(hV x.id l).length+1=l.length:=by
 induction l with
 |nil=>cases aa
 |cons e l a6=>
  rw[List.pairwise_cons] at aO
  rw[drop_cons]
  rcases List.mem_cons.1 aa with rfl|aa
  · have:=ZV (i:=0) (l:=l) (x:=x.id) λe he=>by have:=aO.1 e he;omega
    rw[if_pos rfl,this]
    exact⟨by rw[eu],rfl⟩
  · have cV:¬e.id=x.id:=by have:=aO.1 x aa;omega
    obtain⟨ab,ad⟩:=a6 aO.2 aa
    rw[if_neg cV,eu,eu,List.length_cons,List.length_cons]
    exact⟨by omega,by omega⟩
theorem f_.del{G:Nat->Prop}{h:J}{p a3 bS aG a9 cap given clock:Nat}{M:List Mem}(w:f_ G h p a3 bS aG a9 cap given clock M)(q:Mem->Bool):f_ G ((h.set bS (some (.map ((M.filter q).map iW) a9))).set a3 (some (.map ((M.filter q).map hD) aG))) p a3 bS aG a9 cap given clock (M.filter q):=by
 have sub:∀x∈M.filter q,x∈M:=λx aa=>(List.mem_filter.1 aa).1
 have oo:p≠a3:=λe=>by have:=w.st;rw[e,w.aA] at this;cases this
 have nG:p≠bS:=λe=>by have:=w.st;rw[e,w.ay] at this;cases this
 have po:∀x∈M,x.b≠a3:=λx aa e=>by have:=w.et x aa;rw[e,w.aA] at this;cases this
 have qt:∀x∈M,x.b≠bS:=λx aa e=>by have:=w.et x aa;rw[e,w.ay] at this;cases this
 have row:∀{D:Type} {enc:D->List I} {wd el:Nat} {v:I} {ds:List D},cD enc wd el 0 h v ds->cD enc wd el 0 ((h.set bS (some (.map ((M.filter q).map iW) a9))).set a3 (some (.map ((M.filter q).map hD) aG))) v ds:=by
  intro D enc wd el v ds a2
  rcases a2 with a2|⟨r,r1,r2,ed,fq,l5⟩
  · exact .inl a2
  · refine .inr ⟨r,r1,r2,dH (λe=>?_) (dH (λe=>?_) ed),fq,by simpa using l5⟩
    · rw[e,w.aA] at ed;cases ed
    · rw[e,w.ay] at ed;cases ed
 exact⟨dH oo (dH nG w.st),gI rfl,dH (λe=>w.jD e.symm) (gI rfl),λx aa=>dH (po x (sub x aa)) (dH (qt x (sub x aa)) (w.et x (sub x aa))),λx aa=>row (w.ns x (sub x aa)),λx aa=>row (w.az x (sub x aa)),w.bs.filter _,w.dv.filter _,λx aa=>w.fD x (sub x aa),w.up.filter _,λx aa=>w.ua x (sub x aa),w.jD,⟨w.aN.1,w.aN.2.1,w.aN.2.2.1,λx aa=>w.aN.2.2.2 x (sub x aa)⟩,w.lq,λx aa=>w.ne x (sub x aa),λx aa=>w.wq x (sub x aa),λx aa=>w.wu x (sub x aa)⟩
structure pI(s:c5):Prop where
 args:∀e∈s.l,e.args.length<=61
 nm:∀e∈s.l,jm e.ns
 kX:s.given<=10000
 pG:s.clock<=10000
theorem Nw{i:Nat}:∀{l:List cu},(∀e∈l,e.args.length<=61)->eu i l<=62*l.length
 |[],_=>by rw[eu];exact Nat.zero_le _
 |e::l,h=>by
  have ab:=Nw (i:=i) (l:=l) λx aa=>h x (List.mem_cons_of_mem _ aa)
  have ad:=h e (List.mem_cons_self ..)
  have ar:=List.count_le_length (a:=i) (l:=e.parts)
  have aJ:e.parts.length=e.args.length+1:=rfl
  rw[eu,List.length_cons];omega
theorem Nx:∀{l:List cu} {g:Nat},l.Pairwise (λa b=>a.id<b.id)->(∀e∈l,0<e.id/\e.id<=g)->l.length<=g
 |[],_,_,_=>Nat.zero_le _
 |e::l,g,aO,al=>by
  rw[List.pairwise_cons] at aO
  have key:∀(l:List cu) (a:Nat),l.Pairwise (λa b=>a.id<b.id)->(∀e∈l,a<e.id/\e.id<=g)->l.length+a<=g\/l=[]:=by
   intro l
   induction l with
   |nil=>intro _ _ _;exact .inr rfl
   |cons x l a6=>
    intro a aO al
    rw[List.pairwise_cons] at aO
    have aa:=al x (List.mem_cons_self ..)
    rcases a6 x.id aO.2 (λe he=>⟨aO.1 e he,(al e (List.mem_cons_of_mem _ he)).2⟩) with h|h
    · left;rw[List.length_cons];omega
    · left;rw[h];simp;omega
  have:=key (e::l) 0 (List.pairwise_cons.2 aO) al
  rcases this with h|h
  · omega
  · cases h
theorem Ny{s:c5}(hs:e_ s)(ae:pI s)(i:Nat):eu i s.l<=620000:=by
 have ab:=Nw (i:=i) ae.args
 have ad:=Nx hs.up λe he=>⟨(hs.aN e he).1,(hs.aN e he).2.1⟩
 have:=ae.kX
 omega
end Go.Proofs.dj
namespace Go.Proofs.dj
open Go aM Go.Proofs c_ Go.Proofs.cF
set_option maxRecDepth 100000
set_option maxHeartbeats 1000000
def hE(F:Nat->Prop)(h:J)(p:Nat)(s:c5):Prop:=∃a3 bS aG a9 M,f_ F h p a3 bS aG a9 s.cap s.given s.clock M/\wx s.l M
theorem ZW(x:Mem):hn x.e.k x.e.nm (gi x.e.ns) (ez x.e.args) x.e.ret x=true:=by simp[hn]
theorem pI.drop{s:c5}(h:pI s)(i:Nat):pI {s with l:=hV i s.l}:=⟨λe he=>h.args e (oA.1 he).1,λe he=>h.nm e (oA.1 he).1,h.kX,h.pG⟩
theorem Gz{s:c5}(hs:e_ s)(ae:pI s){e:cu}(he:e∈s.l):∀i∈e.args,i<18446744073709551616:=λi af=>by
 have ab:=ae.kX
 have ad:=(hs.aN e he).2.1
 rcases hs.part e he i (List.mem_cons_of_mem _ af) with h|⟨h,_⟩<;>omega
theorem ZX{s:c5}(hs:e_ s)(ae:pI s){M:List Mem}(gT:M.map Mem.e=s.l){x y:Mem}(aa:x∈M)(aW:y∈M):hn x.e.k x.e.nm (gi x.e.ns) (ez x.e.args) x.e.ret y=ke x.e.id y:=by
 have jP:x.e∈s.l:=by rw[<-gT];exact List.mem_map.2 ⟨x,aa,rfl⟩
 have y_:y.e∈s.l:=by rw[<-gT];exact List.mem_map.2 ⟨y,aW,rfl⟩
 rw[Ni (ae.nm _ y_) (ae.nm _ jP) (Gz hs ae y_) (Gz hs ae jP)]
 unfold ke
 have key:∀(l:List cu),l.Pairwise (λa b=>b.is a.k a.nm a.ns a.args a.ret=false)->l.Pairwise (λa b=>a.id<b.id)->∀a∈l,∀b∈l,b.is a.k a.nm a.ns a.args a.ret=decide (b.id=a.id):=by
  intro l
  induction l with
  |nil=>intro _ _ a aS;cases aS
  |cons e l a6=>
   intro ab ad a aS b ae
   rw[List.pairwise_cons] at ab ad
   have self:∀e:cu,e.is e.k e.nm e.ns e.args e.ret=true:=λe=>qE.2 ⟨rfl,rfl,rfl,rfl,rfl⟩
   rcases List.mem_cons.1 aS with aS|aS<;>rcases List.mem_cons.1 ae with ae|ae
   · rw[aS,ae,self,decide_eq_true rfl]
   · rw[aS,ab.1 b ae,decide_eq_false];have:=ad.1 b ae;omega
   · rw[ae,L9,ab.1 a aS,decide_eq_false];have:=ad.1 a aS;omega
   · exact a6 ab.2 ad.2 a aS b ae
 exact key s.l hs.apart hs.up _ jP _ y_
theorem Nz(z:Int)(l:List Nat)(M:List Mem):(M.map (bump z l)).map Mem.e=M.map Mem.e:=by
 rw[List.map_map];rfl
theorem ZY(i:Nat)(M:List Mem):(M.filter λz=>!ke i z).map Mem.e=hV i (M.map Mem.e):=by
 unfold hV
 rw[List.filter_map]
 congr 1
 refine List.filter_congr λz aZ=>?_
 show(!ke i z)=!Nat.beq z.e.id i
 unfold ke
 congr 1
 cases GA:Nat.beq z.e.id i with
 |true=>exact decide_eq_true (Nat.eq_of_beq_eq_true GA)
 |false=>exact decide_eq_false λe=>by rw[e,Nat.beq_refl] at GA;cases GA
theorem NA(m:Nat){F:Nat->Prop}{h:J}{p:Nat}{s:c5}(w:hE F h p s)(hs:e_ s)(ae:pI s):∃g,Y (m+2) (.fn 22) [.ptr p 0] h=.ret (.aP []) g/\hE F g p (qD s)/\bT F h g:=by
 obtain⟨a3,bS,aG,a9,NB,gO,fv⟩:=w
 obtain⟨bB,b2,dq,im⟩:=gO.aN
 obtain⟨H,cm⟩:∃H,H=h.push (.cells [.ptr p 0] 23 .own 0 0):=⟨_,rfl⟩
 have dA:Ext h.n h H:=by rw[cm];exact Ext.push (Nat.le_refl _) _
 have lr:H.n=h.n+1:=by rw[cm];rfl
 obtain⟨G,iC⟩:∃G:Nat->Prop,G=λd=>F d\/d=h.n:=⟨_,rfl⟩
 have ZZ:f_ G H p a3 bS aG a9 s.cap s.given s.clock NB:=gO.move dA.n (λd ao _ _=>dA.get d ao) λd ao al=>by
  rw[iC] at al
  rcases al with al|al
  · exact .inl al
  · omega
 have NC:∀d,F d->G d:=λd ao=>by rw[iC];exact .inl ao
 have ND:G h.n:=by rw[iC];exact .inr rfl
 refine ZP (m+1) p h (R:=λx=>∃g,x=.ret (.aP []) g/\hE F g p (qD s)/\bT F h g) ?_
 rw[<-cm]
 refine a4.loop (by kernel_rfl) (λk st=>∃y Γ l M,st=⟨Γ,[],.none,y⟩/\cl [(1,.ptr h.n 0),(2,.fn 40 [] [.ptr h.n 0])] Γ/\l.length=k/\e_ {s with l:=l}/\pI {s with l:=l}/\f_ G y p a3 bS aG a9 s.cap s.given s.clock M/\wx l M/\jU s.cap l.length l=jU s.cap s.l.length s.l/\bT G H y) ?_ s.l.length _ (by
  have:=Nx hs.up λe he=>⟨(hs.aN e he).1,(hs.aN e he).2.1⟩
  have:=ae.kX
  omega) ⟨H,_,s.l,NB,rfl,⟨rfl,rfl,trivial⟩,rfl,hs,ae,ZZ,fv,rfl,bT.refl _ _⟩
 rintro k st ⟨y,Γ,l,M,rfl,cP,aq,ok,cf,jK,ud,o0,e9⟩
 have ue:∀{x},bT G y x->au x h.n 0=some (.ptr p 0):=λe=>by
  have aA:H.get h.n=some (.cells [.ptr p 0] 23 .own 0 0):=by rw[cm];exact fj rfl
  exact aU ((e.get _ (by have:=e9.n;omega) ND).trans ((e9.get _ (by omega) ND).trans aA)) rfl
 have Z0:M.length=l.length:=by rw[<-ud.e,List.length_map]
 have fin:∀x,bT G y x->f_ G x p a3 bS aG a9 s.cap s.given s.clock M->jU s.cap l.length l=l->∃g,av.ret (.aP []) x=.ret (.aP []) g/\hE F g p (qD s)/\bT F h g:=λx e Z1 aw=>by
  refine⟨x,rfl,⟨a3,bS,aG,a9,M,Z1.move (Nat.le_refl _) (λd _ _ _=>rfl) λd _ ao=>.inl (NC d ao),?_⟩,?_⟩
  · have:(qD s).l=l:=by show jU s.cap s.l.length s.l=l;rw[<-o0,aw]
    rw[this];exact ud
  · have aA:=(e9.trans e)
    exact⟨by have:=aA.n;omega,λd ao hf=>(aA.get d (by omega) (NC d hf)).trans (dA.get d ao)⟩
 have wb:bT G y (y.room 10):=bT.ext (Ext.room _ _ _)
 have zf:=jK.ext (Ext.room y.n y 10)
 refine a4.pre (ZQ (Y (m+1)) h.n a3 bS y ⟨p,ue wb,aU zf.st rfl,l.length,?_,p,ue wb,s.cap,aU zf.st rfl,λkj=>?_,λkj=>?_⟩) cP rfl rfl rfl
 · have hu:Tryz.prog.underlying 55=some (.map 32 59):=wi
   simp only[b9,hu,zf.aA,List.length_map,Z0]
 · have jT:=ZT m (s:={s with l:=l}) zf ud ok (ue wb) (by have:=e9.n;have:(y.room 10).n=y.n+10:=rfl;omega)
   obtain⟨aj,dV⟩:∃aj,aj=(y.room 10).room (1+32*M.length):=⟨_,rfl⟩
   rw[<-dV] at jT
   have zg:Ext y.n y aj:=by rw[dV];exact(Ext.room _ _ _).h3
   have aA:bT G y aj:=bT.ext zg
   have cK:=jK.ext zg
   cases tH:jB l l with
   |none=>
    have GB:Y (m+1) (.fn 40) [.ptr h.n 0] (y.room 10)=.ret (.int .u64 (Int.ofNat 0)) aj:=by rw[jT];simp only[tH];rfl
    refine⟨0,aj,GB,λ_=>.inr ⟨aj,_,rfl,rfl,trivial,fin aj aA cK ?_⟩,λh=>absurd rfl h⟩
    obtain⟨j,aL⟩:∃j,l.length=j+1:=⟨l.length-1,by omega⟩
    rw[aL,jU,if_pos kj,tH]
   |some e=>
    obtain⟨bt,bH,_⟩:=v5 tH
    obtain⟨x,aa,nN⟩:=List.mem_map.1 (ud.e▸bt:e∈M.map Mem.e)
    subst nN
    have ac0:=cK.ua x aa
    have GB:Y (m+1) (.fn 40) [.ptr h.n 0] (y.room 10)=.ret (.int .u64 (Int.ofNat x.e.id)) aj:=by rw[jT];simp only[tH];rfl
    have ff:∀z∈M,-1000000<=z.ao/\z.ao<=1000000:=λz aZ=>by
     rw[ud.ao z aZ]
     have:=Ny ok cf z.e.id
     have e:(Int.ofNat (eu z.e.id l))=((eu z.e.id l:Nat):Int):=rfl
     have this:eu z.e.id l<=620000:=this
     omega
    have h2:x.e.args.length<=1000:=by have:=cf.args x.e bt;omega
    obtain⟨ax,uI,cG,b0⟩:=Nr m (z:=Int.negSucc 0) (.inr rfl) cK (cK.et x aa) (cK.az x aa) ff h2 (cK.aN.2.2.2 x aa)
    have ay:=aA.trans b0
    have lx:=cG.ext (Ext.room ax.n ax 9)
    have gC:bT G y (ax.room 9):=ay.trans (bT.ext (Ext.room _ _ _))
    have po:bump (Int.negSucc 0) x.e.parts x∈M.map (bump (Int.negSucc 0) x.e.parts):=List.mem_map.2 ⟨x,aa,rfl⟩
    have Z2:=lx.et _ po
    have NF:(M.map (bump (Int.negSucc 0) x.e.parts)).map Mem.e=l:=by rw[Nz];exact ud.e
    have GC:∀z∈M.map (bump (Int.negSucc 0) x.e.parts),hn x.e.k x.e.nm (gi x.e.ns) (ez x.e.args) x.e.ret z=ke x.e.id z:=λz aZ=>ZX (s:={s with l:=l}) (x:=bump (Int.negSucc 0) x.e.parts x) ok cf NF po aZ
    have ze:(M.map (bump (Int.negSucc 0) x.e.parts)).Pairwise λa b=>¬(hn x.e.k x.e.nm (gi x.e.ns) (ez x.e.args) x.e.ret a=true/\hn x.e.k x.e.nm (gi x.e.ns) (ez x.e.args) x.e.ret b=true):=by
     refine(List.Pairwise.and_mem.1 lx.up).imp λ{a b} ⟨aS,ae,fg⟩ ⟨ba,a7⟩=>?_
     rw[GC a aS] at ba
     rw[GC b ae] at a7
     have ba:=of_decide_eq_true ba
     have a7:=of_decide_eq_true a7
     omega
    have GD:=Zi lx.ay ze po (ZW x)
    have Z3:(M.map (bump (Int.negSucc 0) x.e.parts)).filter (λz=>!hn x.e.k x.e.nm (gi x.e.ns) (ez x.e.args) x.e.ret z)=(M.map (bump (Int.negSucc 0) x.e.parts)).filter (λz=>!ke x.e.id z):=List.filter_congr λz aZ=>by rw[GC z aZ]
    rw[Z3] at GD
    obtain⟨aC,gw⟩:∃aC,aC=(ax.room 9).set bS (some (.map (((M.map (bump (Int.negSucc 0) x.e.parts)).filter (λz=>!ke x.e.id z)).map iW) a9)):=⟨_,rfl⟩
    rw[<-gw] at GD
    have nG:p≠bS:=λe=>by have:=lx.st;rw[e,lx.ay] at this;cases this
    have Z4:aC.get p=some (wo s.cap s.given s.clock a3 bS):=by rw[gw];exact dH nG lx.st
    have Z5:aC.get a3=some (.map ((M.map (bump (Int.negSucc 0) x.e.parts)).map hD) aG):=by rw[gw];exact dH lx.jD lx.aA
    have ES:=Ze Z5 lx.up po
    have p_:=lx.del (λz=>!ke x.e.id z)
    rw[<-gw] at p_
    have bx:bT G y aC:=by rw[gw];exact gC.trans (bT.set lx.lq.2.2)
    have ef:bT G y (aC.set a3 (some (.map (((M.map (bump (Int.negSucc 0) x.e.parts)).filter (λz=>!ke x.e.id z)).map hD) aG))):=bx.trans (bT.set lx.lq.2.1)
    obtain⟨ac1,B5⟩:=Nv ok.up bt 0
    refine⟨x.e.id,aj,GB,λh0=>by omega,λ_=>⟨p,ue aA,aU cK.st rfl,x.b,wk cK.aA cK.up aa false,p,ue aA,ax,uI,p,ue gC,aU lx.st rfl,x.e.k,x.e.nm,gi x.e.ns,ez x.e.args,x.e.ret,pb Z2 rfl,aC,GD,p,ue bx,aU Z4 rfl,_,ES,_,?_,_,_,hV x.e.id l,_,rfl,⟨rfl,rfl,trivial⟩,rfl,?_,cf.drop x.e.id,p_,⟨?_,?_⟩,?_,e9.trans ef⟩⟩
    · have B5:(hV x.e.id l).length+1=l.length:=B5
      show(hV x.e.id l).length<k
      omega
    · exact e_.drop (s:={s with l:=l}) ok (yT.1 bH).2
    · rw[<-NF]
      exact ZY _ _
    · intro z aZ
      obtain⟨v,aB,rfl⟩:=List.mem_map.1 (List.mem_filter.1 aZ).1
      have ao:=(Nv ok.up bt v.e.id).1
      have ai:=ud.ao v aB
      show v.ao+Int.negSucc 0*(x.e.parts.count v.e.id:Nat)=Int.ofNat (eu v.e.id (hV x.e.id l))
      rw[ai]
      have aA:(Int.ofNat (eu v.e.id l))=((eu v.e.id l:Nat):Int):=rfl
      have ay:(Int.ofNat (eu v.e.id (hV x.e.id l)))=((eu v.e.id (hV x.e.id l):Nat):Int):=rfl
      have bx:(Int.negSucc 0:Int)=-1:=rfl
      have ao:eu v.e.id l=x.e.parts.count v.e.id+eu v.e.id (hV x.e.id l):=ao
      rw[aA,ay,bx]
      omega
    · obtain⟨j,aL⟩:∃j,l.length=j+1:=⟨l.length-1,by omega⟩
      have B5:(hV x.e.id l).length+1=l.length:=B5
      rw[<-o0,aL,jU,if_pos kj,tH]
      simp only
      rw[show(hV x.e.id l).length=j by omega]
 · refine .inl ⟨_,_,rfl,rfl,trivial,fin _ wb zf ?_⟩
   cases aK:l.length with
   |zero=>rfl
   |succ j=>rw[jU,if_neg kj]
end Go.Proofs.dj
namespace Go.Proofs.dj
open Go aM Go.Proofs c_ Go.Proofs.cF
set_option maxRecDepth 100000
set_option maxHeartbeats 1000000
theorem Z6(k:Nat)(nm:a5)(ns:List a5)(az:List Nat)(r:Nat)(s:c5):(j9 k nm ns az r s).2.clock=s.clock+1/\(j9 k nm ns az r s).2.given<=s.given+1/\(j9 k nm ns az r s).2.cap=s.cap:=by
 unfold j9
 split<;>exact⟨rfl,by simp,rfl⟩
mutual
theorem B6:∀(t:aF) (s:c5),(c1 t s).2.clock=s.clock+sz t/\(c1 t s).2.given<=s.given+sz t/\(c1 t s).2.cap=s.cap
 |.mk k nm ns xs rt,s=>by
  obtain⟨cw,c2,dm⟩:=B7 xs s
  obtain⟨bt,bH,ej⟩:=NG rt (dc xs s).2
  obtain⟨d1,d2,d3⟩:=Z6 k nm ns (dc xs s).1 (h7 rt (dc xs s).2).1 (h7 rt (dc xs s).2).2
  rw[c1,sz]
  exact⟨by omega,by omega,by rw[d3,ej,dm]⟩
theorem B7:∀(l:List aF) (s:c5),(dc l s).2.clock=s.clock+cY l/\(dc l s).2.given<=s.given+cY l/\(dc l s).2.cap=s.cap
 |[],s=>by rw[dc,cY];exact⟨rfl,Nat.le_refl _,rfl⟩
 |t::l,s=>by
  obtain⟨cw,c2,dm⟩:=B6 t s
  obtain⟨bt,bH,ej⟩:=B7 l (c1 t s).2
  rw[dc,cY]
  exact⟨by show(dc l (c1 t s).2).2.clock=_;omega,by show(dc l (c1 t s).2).2.given<=_;omega,by show(dc l (c1 t s).2).2.cap=_;rw[ej,dm]⟩
theorem NG:∀(o:Option aF) (s:c5),(h7 o s).2.clock=s.clock+dx o/\(h7 o s).2.given<=s.given+dx o/\(h7 o s).2.cap=s.cap
 |none,s=>by rw[h7,dx];exact⟨rfl,Nat.le_refl _,rfl⟩
 |some t,s=>by rw[h7,dx];exact B6 t s
end
theorem B8:∀(l:List aF) (s:c5),(dc l s).1.length=l.length
 |[],s=>by rw[dc];rfl
 |t::l,s=>by rw[dc];simp[B8 l]
theorem NH(t:aF):∀(l:List aF) (s:c5),dc (l++[t]) s=((dc l s).1++[(c1 t (dc l s).2).1],(c1 t (dc l s).2).2)
 |[],s=>by simp[dc]
 |x::l,s=>by
  rw[List.cons_append,dc,NH t l]
  simp[dc]
theorem NI{p:Option a5}:∀{ns:List a5},jx p ns=true->jm ns
 |[],_,s,hs=>by cases hs
 |x::l,h,s,hs=>by
  rw[jx,Bool.and_eq_true,Bool.and_eq_true] at h
  rcases List.mem_cons.1 hs with rfl|hs
  · have hf:=h.1
    unfold hP at hf
    simp only[Bool.and_eq_true,decide_eq_true_eq] at hf
    refine⟨λe=>by rw[e] at hf;simp at hf,λc ag e=>?_⟩
    have:=List.all_eq_true.1 hf.2 c ag
    rw[e] at this
    exact absurd this (by decide)
  · exact NI h.2.2 s hs
theorem NJ{k:Nat}{nm:a5}{ns:List a5}{xs:List aF}{rt:Option aF}(h:dY (.mk k nm ns xs rt)=true):jm ns/\ns.length<=xs.length/\∀s∈ns,s.length<=24:=by
 rw[mM] at h
 simp only[Bool.and_eq_true] at h
 obtain⟨_,aO,aa,aq⟩:=h
 by_cases db:k=7
 · subst db
   have:ns.length=xs.length/\jx none ns=true:=by simpa[eL] using aq
   exact⟨NI this.2,by omega,EZ none ns this.2⟩
 · have h0:=FZ aO db
   have:ns=[]:=List.eq_nil_of_length_eq_zero h0
   subst this
   exact⟨λs hs=>(by cases hs),by simp,λs hs=>(by cases hs)⟩
theorem GF{k:Nat}{nm:a5}{ns:List a5}{xs:List aF}{u:aF}(h:dg (some (.mk k nm ns xs (some u)))=0):dg (some u)=0:=by
 obtain⟨ab,ad⟩:=kE.1 h
 rw[mM] at ad
 simp only[Bool.and_eq_true] at ad
 obtain⟨_,aO,aa,aq⟩:=ad
 have hq:k=8:=by
  unfold hQ at aO
  simp only[Bool.and_eq_true] at aO
  have:=aO.2
  simpa using this
 subst hq
 have hu:dY u=true:=by simpa[eL,il] using aq
 rw[mL,l0] at ab
 exact kE.2 ⟨by omega,hu⟩
theorem Z7{s:c5}{k:Nat}{nm:a5}{ns:List a5}{az:List Nat}{r:Nat}(ab:∀e∈s.l,e.args.length<=61/\jm e.ns)(ad:az.length<=61)(ar:jm ns):∀e∈(j9 k nm ns az r s).2.l,e.args.length<=61/\jm e.ns:=by
 unfold j9
 split
 · intro e he
   obtain⟨x,aa,rfl⟩:=List.mem_map.1 he
   have T:=FR
   have:=ab x aa
   rename_i q _
   rw[(T q.id (s.clock+1) x).args,(T q.id (s.clock+1) x).ns]
   exact this
 · intro e he
   rcases List.mem_append.1 he with he|he
   · exact ab e he
   · obtain rfl:=List.mem_singleton.1 he
     exact⟨ad,ar⟩
mutual
theorem GG:∀(t:aF) (s:c5),dg (some t)=0->(∀e∈s.l,e.args.length<=61/\jm e.ns)->∀e∈(c1 t s).2.l,e.args.length<=61/\jm e.ns
 |.mk k nm ns xs rt,s,ag,h=>by
  obtain⟨aG,a9⟩:=kE.1 ag
  have aa:=B9 xs s (λu hu=>tT ag hu) h
  have a2:=NK rt (dc xs s).2 (λu hu=>by subst hu;exact GF ag) aa
  rw[c1]
  rw[mL] at aG
  have:=nD xs
  exact Z7 a2 (by rw[B8];omega) (NJ a9).1
theorem B9:∀(l:List aF) (s:c5),(∀t∈l,dg (some t)=0)->(∀e∈s.l,e.args.length<=61/\jm e.ns)->∀e∈(dc l s).2.l,e.args.length<=61/\jm e.ns
 |[],s,_,h=>by rw[dc];exact h
 |t::l,s,ag,h=>by
  rw[dc]
  exact B9 l _ (λu hu=>ag u (List.mem_cons_of_mem _ hu)) (GG t s (ag t (List.mem_cons_self ..)) h)
theorem NK:∀(o:Option aF) (s:c5),(∀u,o=some u->dg (some u)=0)->(∀e∈s.l,e.args.length<=61/\jm e.ns)->∀e∈(h7 o s).2.l,e.args.length<=61/\jm e.ns
 |none,s,_,h=>by rw[h7];exact h
 |some t,s,ag,h=>by rw[h7];exact GG t s (ag t rfl) h
end
theorem NL{es:List dK}{k v:I}{c:Nat}:∀(j:Nat),(∀e∈es,e.born≠c)->sn (Int.ofNat c) (es++[⟨k,v,c⟩]) j=some (j+es.length,⟨k,v,c⟩):=by
 induction es with
 |nil=>intro j _;show(match a8 (Int.ofNat c) (Int.ofNat c) with|true=>some (j,_)|false=>_)=_;rw[mB rfl];rfl
 |cons e es a6=>
  intro j h
  have ab:=h e (List.mem_cons_self ..)
  show(match a8 (Int.ofNat e.born) (Int.ofNat c) with|true=>some (j,e)|false=>sn (Int.ofNat c) (es++[(⟨k,v,c⟩:dK)]) (j+1))=_
  rw[ji ab]
  simp only
  rw[a6 (j+1) λx aa=>h x (List.mem_cons_of_mem _ aa),List.length_cons]
  congr 2;omega
theorem NM{es:List dK}{e:dK}{v key:I}:pM v key es.length (es++[e])=es++[⟨key,v,e.born⟩]:=by
 induction es with
 |nil=>rfl
 |cons x es a6=>show x::pM v key es.length (es++[e])=_;rw[a6];rfl
theorem Z8{h:J}{m c:Nat}{M:List Mem}(hm:h.get m=some (.map (M.map iW) c)){k r id:Nat}{nm f p:a5}(aK:∀x∈M,hn k nm f p r x=false)(a2:∀x∈M,x.dC<c):∃g,oM Tryz.prog h 56 (.map m) (.agg [.int .i64 (Int.ofNat k),.str nm,.str f,.str p,.int .u64 (Int.ofNat r)])=some (.aP [.int .u64 (Int.ofNat 0),.int .i64 (Int.ofNat c)],g)/\g.n=h.n/\(∀d,d≠m->g.get d=h.get d)/\oN g (.map m) (.int .i64 (Int.ofNat c)) (.int .u64 (Int.ofNat id))=some (g.set m (some (.map (M.map iW++[⟨.agg [.int .i64 (Int.ofNat k),.str nm,.str f,.str p,.int .u64 (Int.ofNat r)],.int .u64 (Int.ofNat id),c⟩]) (c+1)))):=by
 have ab:=y8 (q:=hn k nm f p r) (l:=M) (j:=0) aK
 have aZ:d_ Tryz.prog 32=some (.int .u64 (Int.ofNat 0)):=by kernel_rfl
 refine⟨h.set m (some (.map (M.map iW++[⟨.agg [.int .i64 (Int.ofNat k),.str nm,.str f,.str p,.int .u64 (Int.ofNat r)],.int .u64 (Int.ofNat 0),c⟩]) (c+1))),?_,rfl,λd ao=>dH ao rfl,?_⟩
 · simp only[oM,BS,BU,hm,qH M 0 λy _=>BW h k r nm f p y,ab,Option.map,aZ]
 · have ae:=NL (es:=M.map iW) (k:=.agg [.int .i64 (Int.ofNat k),.str nm,.str f,.str p,.int .u64 (Int.ofNat r)]) (v:=.int .u64 (Int.ofNat 0)) (c:=c) 0 λe he=>by
     obtain⟨x,aa,rfl⟩:=List.mem_map.1 he
     have:=a2 x aa
     show x.dC≠c
     omega
   rw[Nat.zero_add] at ae
   have gs:∀(o:da),(h.set m (some o)).get m=some o:=λo=>gI rfl
   simp only[oN,gs,ae,NM]
theorem Z9{h:J}{m c:Nat}{M:List Mem}(hm:h.get m=some (.map (M.map hD) c)){id b:Nat}(aK:∀x∈M,x.e.id≠id)(a2:∀x∈M,x.dv<c):∃g,oM Tryz.prog h 55 (.map m) (.int .u64 (Int.ofNat id))=some (.aP [.bb,.int .i64 (Int.ofNat c)],g)/\g.n=h.n/\(∀d,d≠m->g.get d=h.get d)/\oN g (.map m) (.int .i64 (Int.ofNat c)) (.ptr b 0)=some (g.set m (some (.map (M.map hD++[⟨.int .u64 (Int.ofNat id),.ptr b 0,c⟩]) (c+1)))):=by
 have ab:=y8 (q:=ke id) (l:=M) (j:=0) λx aa=>decide_eq_false (aK x aa)
 have aZ:d_ Tryz.prog 59=some .bb:=by kernel_rfl
 refine⟨h.set m (some (.map (M.map hD++[⟨.int .u64 (Int.ofNat id),.bb,c⟩]) (c+1))),?_,rfl,λd ao=>dH ao rfl,?_⟩
 · simp only[oM,wi,BT,hm,qH M 0 λy _=>BV h id y,ab,Option.map,aZ]
 · have ae:=NL (es:=M.map hD) (k:=.int .u64 (Int.ofNat id)) (v:=.bb) (c:=c) 0 λe he=>by
     obtain⟨x,aa,rfl⟩:=List.mem_map.1 he
     have:=a2 x aa
     show x.dv≠c
     omega
   rw[Nat.zero_add] at ae
   have gs:∀(o:da),(h.set m (some o)).get m=some o:=λo=>gI rfl
   simp only[oN,gs,ae,NM]
theorem f_.add{F:Nat->Prop}{h g:J}{p a3 bS aG a9 cap given clock:Nat}{M:List Mem}(w:f_ F h p a3 bS aG a9 cap given clock M){n:Mem}(aK:g.n=h.n)(aq:∀d,d≠a3->d≠bS->g.get d=h.get d)(ab:g.get a3=some (.map ((M++[n]).map hD) (aG+1)))(ad:g.get bS=some (.map ((M++[n]).map iW) (a9+1)))(he:h.get n.b=some (B1 n.e n.ao n.bJ n.bd))(iz:pH 0 h n.bJ n.e.ns)(wy:t_ 0 h n.bd n.e.args)(ae:∀x∈M,x.b≠n.b)(ac2:n.dv=aG)(ac3:n.dC=a9)(iB:∀x∈M,x.e.id<n.e.id)(h0:0<n.e.id)(w9:n.b<h.n)(fJ:¬F n.b)(Z_:∀d k cp,n.bJ=.slice d 0 k cp->¬F d)(aaa:∀d k cp,n.bd=.slice d 0 k cp->¬F d):f_ F g p a3 bS (aG+1) (a9+1) cap given clock (M++[n]):=by
 have po:∀{b cs el},h.get b=some (.cells cs el .own 0 0)->b≠a3:=λae e=>by rw[e,w.aA] at ae;cases ae
 have qt:∀{b cs el},h.get b=some (.cells cs el .own 0 0)->b≠bS:=λae e=>by rw[e,w.ay] at ae;cases ae
 have own:∀{b cs el},h.get b=some (.cells cs el .own 0 0)->g.get b=some (.cells cs el .own 0 0):=λae=>(aq _ (po ae) (qt ae)).trans ae
 have row:∀{D:Type} {enc:D->List I} {wd el:Nat} {v:I} {ds:List D},cD enc wd el 0 h v ds->cD enc wd el 0 g v ds:=by
  intro D enc wd el v ds a2
  rcases a2 with a2|⟨r,r1,r2,ed,fq,l5⟩
  · exact .inl a2
  · exact .inr ⟨r,r1,r2,(aq r (λe=>by rw[e,w.aA] at ed;cases ed) (λe=>by rw[e,w.ay] at ed;cases ed)).trans ed,fq,by omega⟩
 have all:∀{Q:Mem->Prop},(∀x∈M,Q x)->Q n->∀x∈M++[n],Q x:=λa b x aa=>by
  rcases List.mem_append.1 aa with aa|aa
  · exact a x aa
  · rw[List.mem_singleton.1 aa];exact b
 have uc:∀{R:Mem->Mem->Prop},M.Pairwise R->(∀x∈M,R x n)->(M++[n]).Pairwise R:=λa b=>by
  rw[List.pairwise_append]
  exact⟨a,List.pairwise_singleton ..,λx aa y aW=>by rw[List.mem_singleton.1 aW];exact b x aa⟩
 obtain⟨bB,b2,dq,im⟩:=w.aN
 exact⟨own w.st,ab,ad,all (λx aa=>own (w.et x aa)) (own he),all (λx aa=>row (w.ns x aa)) (row iz),all (λx aa=>row (w.az x aa)) (row wy),uc w.bs ae,uc w.dv (λx aa=>by have:=(w.fD x aa).1;omega),all (λx aa=>by have:=w.fD x aa;omega) (by omega),uc w.up iB,all w.ua h0,w.jD,⟨by omega,by omega,by omega,all (λx aa=>by have:=im x aa;omega) (by omega)⟩,w.lq,all w.ne fJ,all w.wq Z_,all w.wu aaa⟩
theorem jA.NN{B w:Nat}{h g:J}{s:List UInt8}(ae:jA B w h s)(aK:h.n<=g.n)(aq:∀d,d<h.n->(d=w\/¬jj 5 (h.get d))->g.get d=h.get d):jA B w g s:=by
 obtain⟨a,v,ab,ad,ar,aJ,bO,cj⟩:=ae
 refine⟨a,v,(aq w (by omega) (.inl rfl)).trans ab,ad,?_,aJ,by omega,cj⟩
 rcases ar with ar|⟨c,rest,aA,ay,bx,ef⟩
 · exact .inl ar
 · exact .inr ⟨c,rest,aA,(aq c ef (.inr λNO=>NO _ _ _ ay)).trans ay,bx,by omega⟩
end Go.Proofs.dj
namespace Go.Proofs.dj
open Go aM Go.Proofs c_ Go.Proofs.cF
set_option maxRecDepth 100000
set_option maxHeartbeats 1000000
theorem aab(call:aI->List I->J->av)(p:Nat)(r:Nat)(h:J){Q:bn->ah->Prop}(H:Q .nrm (ah.mk [(0,.ptr p 0),(1,.ptr r 0)] [] .none h)):
  a4 Tryz.prog Tryz.f26 call [0] ⟨[(0,.ptr p 0),(1,.ptr r 0)],[],.none,h⟩ Q:=
 dI [] [0,1] [(0,.v (.ptr p 0)),(1,.v (.ptr r 0))] rfl (Eq.mp (by kernel_rfl) H)
theorem aac(call:aI->List I->J->av)(p:Nat)(r:Nat)(h:J){Q:bn->ah->Prop}(H:Q .nrm (ah.mk [(0,.ptr p 0),(1,.ptr r 0),(5,.fn 26 [.ptr p 0] [])] [] .none h)):
  a4 Tryz.prog Tryz.f26 call [1,0] ⟨[(0,.ptr p 0),(1,.ptr r 0)],[],.none,h⟩ Q:=
 dI [] [0,1,5] [(0,.v (.ptr p 0)),(1,.v (.ptr r 0))] rfl (Eq.mp (by kernel_rfl) H)
theorem aad(call:aI->List I->J->av)(p:Nat)(r:Nat)(h:J){Q:bn->ah->Prop}(H:∃v1:I,au h r (0+2)=some v1/\∃v2:I,∃aj:J,call (.fn 38) [v1] h=.ret v2 aj/\I.cQ v2=true/\I.cQ v2=true/\Q .nrm (ah.mk [(0,.ptr p 0),(1,.ptr r 0),(5,.fn 26 [.ptr p 0] []),(6,.ptr aj.n 0)] [] .none (J.push aj (.cells [.int .i64 (.ofNat 0),.str [],.str [],.str [],.int .u64 (.ofNat 0),v2,.a0,.int .i64 (.ofNat 0),.int .i64 (.ofNat 0),.int .u64 (.ofNat 0)] 65 .own 0 0)))):
  a4 Tryz.prog Tryz.f26 call [1,1,0] ⟨[(0,.ptr p 0),(1,.ptr r 0),(5,.fn 26 [.ptr p 0] [])],[],.none,h⟩ Q:=
 dI [(19,.bC .o)] [0,1,5,6] [(0,.v (.ptr p 0)),(1,.v (.ptr r 0)),(5,.v (.fn 26 [.ptr p 0] []))] rfl (Eq.mp (by kernel_rfl) H)
theorem aae(call:aI->List I->J->av)(p:Nat)(r:Nat)(e:Nat)(h:J){Q:bn->ah->Prop}(H:Q .nrm (ah.mk [(0,.ptr p 0),(1,.ptr r 0),(5,.fn 26 [.ptr p 0] []),(6,.ptr e 0),(7,.ptr h.n 0)] [] .none (J.push h (.cells [.bb,.a0] 92 .own 0 0)))):
  a4 Tryz.prog Tryz.f26 call [1,1,1,0] ⟨[(0,.ptr p 0),(1,.ptr r 0),(5,.fn 26 [.ptr p 0] []),(6,.ptr e 0)],[],.none,h⟩ Q:=
 dI [] [0,1,5,6,7] [(0,.v (.ptr p 0)),(1,.v (.ptr r 0)),(5,.v (.fn 26 [.ptr p 0] [])),(6,.v (.ptr e 0))] rfl (Eq.mp (by kernel_rfl) H)
theorem aaf(call:aI->List I->J->av)(p:Nat)(r:Nat)(e:Nat)(w:Nat)(h:J){Q:bn->ah->Prop}(H:∃v1:I,au h r (0+3)=some v1/\∃aD:Nat,b9 Tryz.prog h 50 v1=some (.int .i64 (.ofNat aD))/\a4 Tryz.prog Tryz.f26 call [1,1,1,1,0,1,0] (ah.mk [(0,.ptr p 0),(1,.ptr r 0),(5,.fn 26 [.ptr p 0] []),(6,.ptr e 0),(7,.ptr w 0),(25,v1),(26,.int .i64 (.ofNat aD)),(27,.int .i64 (.ofNat 0))] [] .none h) (λcd ct=>∃aj:J,∃bB:Env,cd=.exit 0/\ct=ah.mk bB [] .none aj/\cl [(0,.ptr p 0),(1,.ptr r 0),(5,.fn 26 [.ptr p 0] []),(6,.ptr e 0),(7,.ptr w 0)] bB/\Q .nrm (ah.mk [(0,.ptr p 0),(1,.ptr r 0),(5,.fn 26 [.ptr p 0] []),(6,.ptr e 0),(7,.ptr w 0)] [] .none aj))):
  a4 Tryz.prog Tryz.f26 call [1,1,1,1,0] ⟨[(0,.ptr p 0),(1,.ptr r 0),(5,.fn 26 [.ptr p 0] []),(6,.ptr e 0),(7,.ptr w 0)],[],.none,h⟩ Q:=
 dI [(25,.bC .o),(4000,.g2 [0,1,5,6,7,25,26,27] [(.exit 0,[(0,.is (.ptr p 0)),(1,.is (.ptr r 0)),(5,.is (.fn 26 [.ptr p 0] [])),(6,.is (.ptr e 0)),(7,.is (.ptr w 0))])])] [0,1,5,6,7] [(0,.v (.ptr p 0)),(1,.v (.ptr r 0)),(5,.v (.fn 26 [.ptr p 0] [])),(6,.v (.ptr e 0)),(7,.v (.ptr w 0))] rfl (Eq.mp (by kernel_rfl) H)
theorem aag(call:aI->List I->J->av)(p:Nat)(r:Nat)(e:Nat)(w:Nat)(b:Nat)(off:Nat)(N:Nat)(i:Nat)(cp:b3)(h:J){Q:bn->ah->Prop}(H:(i<N->i<N/\∃aD:Nat,au h b (off+i*1)=some (.ptr aD 0)/\∃bm:Nat,∃aj:J,call (.fn 26) [.ptr p 0,.ptr aD 0] h=.ret (.int .u64 (.ofNat bm)) aj/\∃v1:I,au aj e (0+6)=some v1/\∃v2:I,∃ax:J,dy Tryz.prog (J.push aj (.cells [.int .u64 (.ofNat bm)] 32 .own 0 0)) 44 (some 44) v1 (.slice aj.n 0 1 (.exact 1))=some (v2,ax)/\I.cQ v2=true/\∃aC:J,aM.storeCells ax e (0+6) [v2]=some aC/\∃s1:List UInt8,∃bK:J,call (.fn 45) [.int .u64 (.ofNat bm)] aC=.ret (.str s1) bK/\∃bG:Nat,∃c4:I,∃bW:J,call (.fn 44) [.ptr w 0,.str s1] bK=.ret (.aP [.int .i64 (.ofNat bG),c4]) bW/\i+1<9223372036854775808/\Q .nrm (ah.mk [(0,.ptr p 0),(1,.ptr r 0),(5,.fn 26 [.ptr p 0] []),(6,.ptr e 0),(7,.ptr w 0),(25,.slice b off N cp),(26,.int .i64 (.ofNat N)),(27,.int .i64 (.ofNat (i+1)))] [] .none bW))/\(¬i<N->Q (.exit 0) (ah.mk [(0,.ptr p 0),(1,.ptr r 0),(5,.fn 26 [.ptr p 0] []),(6,.ptr e 0),(7,.ptr w 0),(25,.slice b off N cp),(26,.int .i64 (.ofNat N)),(27,.int .i64 (.ofNat i))] [] .none h))):
  a4 Tryz.prog Tryz.f26 call [1,1,1,1,0,1,0,0] ⟨[(0,.ptr p 0),(1,.ptr r 0),(5,.fn 26 [.ptr p 0] []),(6,.ptr e 0),(7,.ptr w 0),(25,.slice b off N cp),(26,.int .i64 (.ofNat N)),(27,.int .i64 (.ofNat i))],[],.none,h⟩ Q:=
 dI [] [0,1,5,6,7,25,26,27] [(0,.v (.ptr p 0)),(1,.v (.ptr r 0)),(5,.v (.fn 26 [.ptr p 0] [])),(6,.v (.ptr e 0)),(7,.v (.ptr w 0)),(25,.v (.slice b off N cp)),(26,.v (.int .i64 (.ofNat N))),(27,.v (.int .i64 (.ofNat i)))] rfl (Eq.mp (by kernel_rfl) H)
theorem aah(call:aI->List I->J->av)(p:Nat)(r:Nat)(e:Nat)(w:Nat)(v:I)(h:J){Q:bn->ah->Prop}(H:¬0<0/\Q (.exit 0) (ah.mk [(0,.ptr p 0),(1,.ptr r 0),(5,.fn 26 [.ptr p 0] []),(6,.ptr e 0),(7,.ptr w 0)] [] .none h)):
  a4 Tryz.prog Tryz.f26 call [1,1,1,1,0,1,0,0] ⟨[(0,.ptr p 0),(1,.ptr r 0),(5,.fn 26 [.ptr p 0] []),(6,.ptr e 0),(7,.ptr w 0),(25,v),(26,.int .i64 (.ofNat 0)),(27,.int .i64 (.ofNat 0))],[],.none,h⟩ Q:=
 dI [(1028,.f)] [0,1,5,6,7] [(0,.v (.ptr p 0)),(1,.v (.ptr r 0)),(5,.v (.fn 26 [.ptr p 0] [])),(6,.v (.ptr e 0)),(7,.v (.ptr w 0)),(25,.o v),(26,.v (.int .i64 (.ofNat 0))),(27,.v (.int .i64 (.ofNat 0)))] rfl (Eq.mp (by kernel_rfl) H)
theorem aai(call:aI->List I->J->av)(p:Nat)(r:Nat)(e:Nat)(w:Nat)(h:J){Q:bn->ah->Prop}(H:∃aD:Nat,au (h.room 19) r (0+0)=some (.int .i64 (.ofNat aD))/\∃s1:List UInt8,au (h.room 19) r (0+1)=some (.str s1)/\∃v1:I,au (h.room 19) r (0+2)=some v1/\∃s2:List UInt8,∃aj:J,call (.fn 46) [v1,.str [32]] (h.room 19)=.ret (.str s2) aj/\∃bI:List UInt8,∃ax:J,call (.fn 47) [.ptr w 0] aj=.ret (.str bI) ax/\∃aC:J,aM.storeCells ax e (0+0) [.int .i64 (.ofNat aD),.str s1,.str s2,.str bI,.int .u64 (.ofNat 0)]=some aC/\au ax r (0+0)=some (.int .i64 (.ofNat aD))/\au aj r (0+0)=some (.int .i64 (.ofNat aD))/\au ax r (0+1)=some (.str s1)/\au aj r (0+1)=some (.str s1)/\I.sound v1=true/\Q .nrm (ah.mk [(0,.ptr p 0),(1,.ptr r 0),(5,.fn 26 [.ptr p 0] []),(6,.ptr e 0)] [] .none aC)):
  a4 Tryz.prog Tryz.f26 call [1,1,1,1,1,0] ⟨[(0,.ptr p 0),(1,.ptr r 0),(5,.fn 26 [.ptr p 0] []),(6,.ptr e 0),(7,.ptr w 0)],[],.none,h⟩ Q:=
 dI [] [0,1,5,6] [(0,.v (.ptr p 0)),(1,.v (.ptr r 0)),(5,.v (.fn 26 [.ptr p 0] [])),(6,.v (.ptr e 0)),(7,.v (.ptr w 0))] rfl (Eq.mp (by kernel_rfl) H)
theorem aaj(call:aI->List I->J->av)(p:Nat)(r:Nat)(e:Nat)(h:J){Q:bn->ah->Prop}(H:∃aD:Nat,au h r (0+4)=some (.ptr aD 0)/\∃bm:Nat,au h r (0+4)=some (.ptr bm 0)/\∃bG:Nat,∃aj:J,call (.fn 26) [.ptr p 0,.ptr bm 0] h=.ret (.int .u64 (.ofNat bG)) aj/\∃ax:J,aM.storeCells aj e (0+0+4) [.int .u64 (.ofNat bG)]=some ax/\Q .nrm (ah.mk [(0,.ptr p 0),(6,.ptr e 0)] [] .none ax)):
  a4 Tryz.prog Tryz.f26 call [1,1,1,1,1,1,0] ⟨[(0,.ptr p 0),(1,.ptr r 0),(5,.fn 26 [.ptr p 0] []),(6,.ptr e 0)],[],.none,h⟩ Q:=
 dI [(69,.bC .p)] [0,6] [(0,.v (.ptr p 0)),(1,.v (.ptr r 0)),(5,.v (.fn 26 [.ptr p 0] [])),(6,.v (.ptr e 0))] rfl (Eq.mp (by kernel_rfl) H)
theorem aak(call:aI->List I->J->av)(p:Nat)(r:Nat)(e:Nat)(h:J){Q:bn->ah->Prop}(H:au h r (0+4)=some .bb/\Q .nrm (ah.mk [(0,.ptr p 0),(6,.ptr e 0)] [] .none h)):
  a4 Tryz.prog Tryz.f26 call [1,1,1,1,1,1,0] ⟨[(0,.ptr p 0),(1,.ptr r 0),(5,.fn 26 [.ptr p 0] []),(6,.ptr e 0)],[],.none,h⟩ Q:=
 dI [(69,.bC (.is .bb))] [0,6] [(0,.v (.ptr p 0)),(1,.v (.ptr r 0)),(5,.v (.fn 26 [.ptr p 0] [])),(6,.v (.ptr e 0))] rfl (Eq.mp (by kernel_rfl) H)
theorem NP(call:aI->List I->J->av)(p:Nat)(e:Nat)(a3:Nat)(bS:Nat)(h:J){Q:bn->ah->Prop}(H:∃aD:Nat,au h p (0+2)=some (.int .u64 (.ofNat aD))/\aD+1<18446744073709551616/\∃aj:J,aM.storeCells h p (0+2) [.int .u64 (.ofNat (aD+1))]=some aj/\au (aj.room 14) p (0+4)=some (.map bS)/\∃bm:Nat,∃s1:List UInt8,∃s2:List UInt8,∃bI:List UInt8,∃bG:Nat,aM.loadCells (aj.room 14) e (0+0) 5=some [.int .i64 (.ofNat bm),.str s1,.str s2,.str bI,.int .u64 (.ofNat bG)]/\∃bV:Nat,∃bt:Bool,h9 Tryz.prog (aj.room 14) 56 (.map bS) (.agg [.int .i64 (.ofNat bm),.str s1,.str s2,.str bI,.int .u64 (.ofNat bG)]) true=some (.aP [.int .u64 (.ofNat bV),.bool bt])/\(bt=true->au (J.room (aj.room 14) 13) p (0+3)=some (.map a3)/\∃cc:Nat,h9 Tryz.prog (J.room (aj.room 14) 13) 55 (.map a3) (.int .u64 (.ofNat bV)) false=some (.ptr cc 0)/\∃cI:Nat,au (J.room (aj.room 14) 13) p (0+2)=some (.int .u64 (.ofNat cI))/\∃ax:J,aM.storeCells (J.room (aj.room 14) 13) cc (0+9) [.int .u64 (.ofNat cI)]=some ax/\Q .ret (ah.mk [(4,.int .u64 (.ofNat bV))] [] .none ax))/\(bt=false->∃dr:Nat,au (aj.room 14) p (0+1)=some (.int .u64 (.ofNat dr))/\dr+1<18446744073709551616/\∃aC:J,aM.storeCells (aj.room 14) p (0+1) [.int .u64 (.ofNat (dr+1))]=some aC/\∃en:Nat,au aC p (0+1)=some (.int .u64 (.ofNat en))/\au (aC.room 21) p (0+4)=some (.map bS)/\∃eH:Nat,∃bL:List UInt8,∃cb:List UInt8,∃cW:List UInt8,∃fX:Nat,aM.loadCells (aC.room 21) e (0+0) 5=some [.int .i64 (.ofNat eH),.str bL,.str cb,.str cW,.int .u64 (.ofNat fX)]/\au (aC.room 21) p (0+3)=some (.map a3)/\∃iH:Nat,∃jk:Nat,∃bK:J,oM Tryz.prog (aC.room 21) 56 (.map bS) (.agg [.int .i64 (.ofNat eH),.str bL,.str cb,.str cW,.int .u64 (.ofNat fX)])=some (.aP [.int .u64 (.ofNat iH),.int .i64 (.ofNat jk)],bK)/\∃bW:J,(oN bK (.map bS) (.int .i64 (.ofNat jk)) (.int .u64 (.ofNat en))=some bW/\I.aP []=.aP [])/\∃j8:Nat,∃dZ:J,oM Tryz.prog bW 55 (.map a3) (.int .u64 (.ofNat en))=some (.aP [.bb,.int .i64 (.ofNat j8)],dZ)/\∃eQ:J,(oN dZ (.map a3) (.int .i64 (.ofNat j8)) (.ptr e 0)=some eQ/\I.aP []=.aP [])/\∃fT:J,call (.fn 41) [.ptr p 0,.ptr e 0,.int .i64 (.ofNat 1)] eQ=.ret (.aP []) fT/\au (fT.room 13) p (0+3)=some (.map a3)/\∃px:Nat,h9 Tryz.prog (fT.room 13) 55 (.map a3) (.int .u64 (.ofNat en)) false=some (.ptr px 0)/\∃nF:Nat,au (fT.room 13) p (0+2)=some (.int .u64 (.ofNat nF))/\∃jz:J,aM.storeCells (fT.room 13) px (0+9) [.int .u64 (.ofNat nF)]=some jz/\Q .ret (ah.mk [(4,.int .u64 (.ofNat en))] [] .none jz))):
  a4 Tryz.prog Tryz.f26 call [1,1,1,1,1,1,1] ⟨[(0,.ptr p 0),(6,.ptr e 0)],[],.none,h⟩ Q:=
 dI [(92,.bC (.is (.map bS))),(97,.bC (.fG [.n .u64,.b])),(116,.bC (.is (.map bS))),(124,.bC (.is (.map a3))),(128,.bC (.fG [.n .u64,.n .i64])),(130,.bC (.fG [.is .bb,.n .i64])),(138,.bC (.is (.map a3))),(140,.bC .p)] [4] [(0,.v (.ptr p 0)),(6,.v (.ptr e 0))] rfl (Eq.mp (by kernel_rfl) H)
theorem aal(n b B:Nat)(h:J)(w:List UInt8)(ae:jA B b h w)(aw:w.length<=1000000000):∃an,Y (n+1) (.fn 47) [.ptr b 0] h=.ret (.str w) an/\Ext B h an/\∀d,d<h.n->jj 5 (h.get d)->an.get d=h.get d:=by
 obtain⟨a,v,g,aS,aB,kC,aK,qc⟩:=ae
 rcases aB with⟨rfl,rfl⟩|⟨c,rest,rfl,ag,ql,u7⟩
 · have iM:oI Tryz.prog (J.room h 12) 118 I.bb (I.int IntKind.i64 (Int.ofNat 0))=some (.str [],J.room h 12):=by kernel_rfl
   exact⟨_,eK (intr:=b1) (n:=n) (args:=[.ptr b 0]) Tryz.func47 (by kernel_rfl) rfl (by kernel_rfl) (LU (Y n) b h [] _ (aU (h:=h.room 12) g rfl) iM) (.inl rfl) (by kernel_rfl),Ext.room _ _ _,λd _ _=>rfl⟩
 · by_cases hw:w=[]
   · exact absurd (qc hw) (by simp)
   · have cV:w.length≠0:=by cases w<;>simp at hw⊢
     have eA:hY Tryz.prog Builtin.unsafeSliceData (Array.mk [27]) [I.slice c 0 w.length (b3.a1 1)] (J.room h 12)=iX.val (I.ptr c 0) (J.room h 12):=by
      simp only[hY]
      exact if_neg cV
     have iM:=JL (P:=Tryz.prog) (h:=h.room 12) (pT:=118) (u:=5) (c:=c) (e:=5) (w:=w) (rest:=rest) hw (by omega) (by kernel_rfl) (by kernel_rfl) (by kernel_rfl) ag
     exact⟨_,eK (intr:=b1) (n:=n) (args:=[.ptr b 0]) Tryz.func47 (by kernel_rfl) rfl (by kernel_rfl) (LS (Y n) b c w.length h w _ (aU (h:=h.room 12) g rfl) eA iM) (.inl rfl) (by kernel_rfl),
      (Ext.room B h 12).trans (Nat.le_refl _) (Ext.set (by omega) _),λd ao ak=>dH (λe=>by subst e;exact ak _ _ _ ag) rfl⟩
def Loc(F:Nat->Prop)(h:J)(e w:Nat)(bJ bd:I)(d:Nat):Prop:=d<h.n/\(F d\/d=e\/d=w\/(∃k cp,bJ=.slice d 0 k cp)\/(∃k cp,bd=.slice d 0 k cp)\/¬jj 5 (h.get d))
abbrev ly(bC:List I)(bJ bd:I):da:=.cells (bC++[bJ,bd,.int .i64 (Int.ofNat 0),.int .i64 (Int.ofNat 0),.int .u64 (Int.ofNat 0)]) 65 .own 0 0
abbrev mZ:List I:=[.int .i64 (Int.ofNat 0),.str [],.str [],.str [],.int .u64 (Int.ofNat 0)]
structure k4(F:Nat->Prop)(h0:J)(p e w:Nat)(bJ bd:I)(ns:List a5)(ids:List Nat)(bC:List I)(s:c5)(y:J):Prop where
 st:hE (Loc F y e w bJ bd) y p s
 e9:bT F h0 y
 et:y.get e=some (ly bC bJ bd)
 ns:pH h0.n y bJ ns
 az:t_ h0.n y bd ids
 df:h0.n<=e
 uf:e<w
 jK:w<y.n
def NQ(n:Nat)(t:aF):Prop:=∀(F:Nat->Prop) (h:J) (p:Nat) (v:I) (s:c5),hE F h p s->e_ s->(∀e∈s.l,e.args.length<=61/\jm e.ns)->s.clock+sz t<=10000->s.given+sz t<=10000->(∀b,F b->b<h.n)->fa F h t v->∃g,Y n (.fn 26) [.ptr p 0,v] h=.ret (.int .u64 (Int.ofNat (c1 t s).1)) g/\hE F g p (c1 t s).2/\bT F h g
theorem hE.move{F G:Nat->Prop}{h g:J}{p:Nat}{s:c5}(w:hE F h p s)(aK:h.n<=g.n)(aq:∀d,d<h.n->¬F d->jj 5 (h.get d)->g.get d=h.get d)(iC:∀d,d<h.n->G d->F d\/¬jj 5 (h.get d)):hE G g p s:=by
 obtain⟨a3,bS,aG,a9,M,cK,r⟩:=w
 exact⟨a3,bS,aG,a9,M,cK.move aK aq iC,r⟩
theorem aam(t:aF){s:c5}(hs:e_ s)(al:s.given+sz t<=10000):(c1 t s).1<18446744073709551616:=by
 obtain⟨ok,_,q,aT,ov⟩:=qF t hs
 have ab:=(ok.aN q aT).2.1
 have ad:=(B6 t s).2.1
 omega
theorem wz{h:J}{d:Nat}{cs bN:List I}{el o1 aN up:Nat}(ab:h.get d=some (.cells cs el .a1 aN up))(ad:h.get d=some (.cells bN o1 .own 0 0)):False:=by rw[ab] at ad;cases ad
theorem GH:∀l:List Nat,(ez l).length=8*l.length
 |[]=>rfl
 |a::l=>by
  show(iw a++ez l).length=_
  rw[List.length_append,tY,GH l,List.length_cons];omega
theorem aan(m:Nat){F:Nat->Prop}{h0:J}{p e w B:Nat}{bJ bd v:I}{ns:List a5}{ids:List Nat}{s:c5}{y:J}{t:aF}(fJ:∀b,F b->b<h0.n)(eG:k4 F h0 p e w bJ bd ns ids mZ s y)(ae:jA B w y (ez ids))(Fl:h0.n<=B)(ac4:e<B)(zh:NQ (m+3) t)(hs:e_ s)(ff:∀e∈s.l,e.args.length<=61/\jm e.ns)(aq:s.clock+sz t<=10000)(al:s.given+sz t<=10000)(aB:fa F h0 t v)(aw:ids.length<=1000):
  ∃aj,Y (m+3) (.fn 26) [.ptr p 0,v] y=.ret (.int .u64 (Int.ofNat (c1 t s).1)) aj/\au aj e (0+6)=some bd/\
  ∃jW ax,dy Tryz.prog (aj.push (.cells [tZ (c1 t s).1] 32 .own 0 0)) 44 (some 44) bd (.slice aj.n 0 1 (.exact 1))=some (jW,ax)/\jW.cQ=true/\
  ∃aC,aM.storeCells ax e (0+6) [jW]=some aC/\
  ∃bK,Y (m+3) (.fn 45) [.int .u64 (Int.ofNat (c1 t s).1)] aC=.ret (.str (iw (c1 t s).1)) bK/\
  ∃bW,Y (m+3) (.fn 44) [.ptr w 0,.str (iw (c1 t s).1)] bK=.ret (.aP [.int .i64 (Int.ofNat (iw (c1 t s).1).length),.eS]) bW/\k4 F h0 p e w bJ jW ns (ids++[(c1 t s).1]) mZ (c1 t s).2 bW/\jA B w bW (ez (ids++[(c1 t s).1])):=by
 obtain⟨st,e9,et,iz,wy,df,uf,jK⟩:=eG
 obtain⟨ac5,bv,NR,_,_,ac6,Fm,_⟩:=id ae
 have ac7:=e9.n
 have aao:fa (Loc F y e w bJ bd) y t v:=fa.ck (λb ae=>⟨⟨by have:=fJ b ae;omega,.inl ae⟩,e9.get b (fJ b ae) ae⟩) _ _ aB
 obtain⟨aj,aG,st1,bE⟩:=zh _ y p v s st hs ff aq al (λb ae=>ae.1) aao
 obtain⟨id,iB⟩:∃id,id=(c1 t s).1:=⟨_,rfl⟩
 have zi:=aam t hs al
 rw[<-iB] at aG zi⊢
 have aD:=bE.n
 have ge:aj.get e=some (ly mZ bJ bd):=(bE.get e (by omega) ⟨by omega,.inr (.inl rfl)⟩).trans et
 have ac8:aj.get w=y.get w:=bE.get w jK ⟨jK,.inr (.inr (.inl rfl))⟩
 obtain⟨H,cm⟩:∃H,H=aj.push (.cells [tZ id] 32 .own 0 0):=⟨_,rfl⟩
 have lr:H.n=aj.n+1:=by rw[cm];rfl
 have dA:Ext aj.n aj H:=by rw[cm];exact Ext.push (Nat.le_refl _) _
 have ug:∀d k cp,bd=.slice d 0 k cp->d<y.n/\h0.n<=d/\∃cs,y.get d=some (.cells cs 32 .a1 0 0):=by
  intro d k cp ao
  rcases wy with⟨rfl,_⟩|⟨q,rfl,_,b5,gr,gb⟩
  · cases ao
  · cases ao;exact⟨gb,gr,_,b5⟩
 have zj:∀d k cp,bJ=.slice d 0 k cp->d<y.n/\h0.n<=d/\∃cs,y.get d=some (.cells cs 9 .a1 0 0):=by
  intro d k cp ao
  rcases iz with⟨rfl,_⟩|⟨q,rfl,_,b5,gr,gb⟩
  · cases ao
  · cases ao;exact⟨gb,gr,_,b5⟩
 have aap:t_ h0.n H bd ids:=cD.ck wy (by omega) λq aT lz=>(dA.get q (by omega)).trans (bE.get q lz ⟨lz,.inr (.inr (.inr (.inr (.inl ⟨_,_,aT⟩))))⟩)
 obtain⟨ax,cw,c2,dm,e4,eX⟩:=Mp B0 aap (by omega) (d:=id) (src:=.slice aj.n 0 1 (.exact 1)) (by rw[cm];exact AV B0 aj 32 id) (by omega)
 have aaq:∀k cp,bd≠ .slice e 0 k cp:=λk cp ao=>by
  obtain⟨_,_,cs,ag⟩:=ug e k cp ao
  exact wz ag et
 have aar:∀k cp,bd≠ .slice w 0 k cp:=λk cp ao=>by
  obtain⟨_,_,cs,ag⟩:=ug w k cp ao
  exact wz ag NR
 have aas:ax.get e=some (ly mZ bJ bd):=((eX e (by omega) aaq).trans (dA.get e (by omega))).trans ge
 obtain⟨jW,zk⟩:∃jW,jW=I.slice H.n 0 (ids++[id]).length (.a1 1):=⟨_,rfl⟩
 rw[<-zk] at cw
 obtain⟨aC,gw⟩:∃aC,aC=ax.set e (some (ly mZ bJ jW)):=⟨_,rfl⟩
 have bG:aC.n=ax.n:=by rw[gw];rfl
 have bI:aM.storeCells ax e (0+6) [jW]=some aC:=by rw[gw,zk];exact gJ aas rfl rfl
 obtain⟨bK,gN,iE⟩:=Zw (m+2) id aC zi
 have bV:=iE.n
 have GI:∀d,d<aj.n->d≠e->(∀k cp,bd≠ .slice d 0 k cp)->bK.get d=aj.get d:=λd ao oF GJ=>by
  refine(iE.get d (by omega)).trans ?_
  rw[gw]
  exact(dH oF rfl).trans ((eX d (by omega) GJ).trans (dA.get d ao))
 have j6:jA B w bK (ez ids):=jA.NN ae (by omega) λd ao zl=>by
  have kk:Loc F y e w bJ bd d:=by
   rcases zl with rfl|ak
   · exact⟨ao,.inr (.inr (.inl rfl))⟩
   · exact⟨ao,.inr (.inr (.inr (.inr (.inr ak))))⟩
  refine(GI d (by omega) ?_ λk cp ag=>?_).trans (bE.get d ao kk)
  · rintro rfl
    rcases zl with h|h
    · omega
    · exact h (by rw[et];exact zd)
  · obtain⟨_,_,cs,fx⟩:=ug d k cp ag
    rcases zl with rfl|h
    · exact aar _ _ ag
    · exact h (by rw[fx];exact ub (by decide))
 have hr:=GH ids
 obtain⟨bW,nI,pj,hg⟩:=Bv m w B bK (ez ids) (iw id) j6 (by rw[hr,tY];omega)
 have cc:=hg.x.n
 have GK:∀d,d<aj.n->d≠e->d≠w->(∀k cp,bd≠ .slice d 0 k cp)->jj 5 (aj.get d)->bW.get d=aj.get d:=λd ao oF zl GJ ak=>by
  have aJ:=GI d ao oF GJ
  exact(hg.k d (by omega) zl (by rw[aJ];exact ak)).trans aJ
 have ga:bW.get e=some (ly mZ bJ jW):=by
  have aJ:bK.get e=some (ly mZ bJ jW):=(iE.get e (by omega)).trans (by rw[gw];exact gI rfl)
  exact(hg.k e (by omega) (by omega) (by rw[aJ];exact zd)).trans aJ
 have aat:t_ h0.n bW jW (ids++[id]):=by
  refine .inr ⟨H.n,zk,by simp,?_,by omega,by omega⟩
  have aJ:bK.get H.n=some (.cells (dN (λd=>[tZ d]) (ids++[id])) 32 .a1 0 0):=(iE.get _ (by omega)).trans (by rw[gw];exact(dH (by omega) rfl).trans c2)
  exact(hg.k _ (by omega) (by omega) (by rw[aJ];exact ub (by decide))).trans aJ
 have aau:pH h0.n bW bJ ns:=cD.ck iz (by omega) λq aT lz=>by
  obtain⟨_,_,cs,fx⟩:=zj q _ _ aT
  have ik:aj.get q=y.get q:=bE.get q lz ⟨lz,.inr (.inr (.inr (.inl ⟨_,_,aT⟩)))⟩
  refine(GK q (by omega) ?_ ?_ (λk cp ag=>?_) (by rw[ik,fx];exact ub (by decide))).trans ik
  · rintro rfl;exact wz fx et
  · rintro rfl;exact wz fx NR
  · obtain⟨_,_,bN,wA⟩:=ug q k cp ag
    rw[fx] at wA
    injection wA with wA;injection wA with _ wA
    exact absurd wA (by decide)
 have aO:ez (ids++[id])=ez ids++iw id:=by simp[ez]
 subst cm
 refine⟨aj,aG,aU ge rfl,jW,ax,cw,by rw[zk];rfl,aC,bI,bK,gN,bW,nI,⟨?_,?_,ga,aau,aat,df,uf,by omega⟩,by rw[aO];exact pj⟩
 · refine st1.move (by omega) (λd ao kZ ak=>?_) (λd ao kk=>?_)
   · refine GK d ao (λh=>?_) (λh=>?_) (λk cp ag=>?_) ak
     · subst h;exact kZ ⟨by omega,.inr (.inl rfl)⟩
     · subst h;exact kZ ⟨by omega,.inr (.inr (.inl rfl))⟩
     · exact kZ ⟨(ug d k cp ag).1,.inr (.inr (.inr (.inr (.inl ⟨_,_,ag⟩))))⟩
   · obtain⟨_,p9⟩:=kk
     rcases p9 with h|h|h|h|h|h
     · exact .inl ⟨by have:=fJ d h;omega,.inl h⟩
     · exact .inl ⟨by omega,.inr (.inl h)⟩
     · exact .inl ⟨by omega,.inr (.inr (.inl h))⟩
     · obtain⟨k,cp,h⟩:=h
       exact .inl ⟨(zj d k cp h).1,.inr (.inr (.inr (.inl ⟨_,_,h⟩)))⟩
     · obtain⟨k,cp,h⟩:=h
       rw[zk] at h
       cases h
       omega
     · by_cases kk:Loc F y e w bJ bd d
       · exact .inl kk
       · refine .inr λak=>h ?_
         rw[GK d ao (λh=>?_) (λh=>?_) (λk cp ag=>?_) ak]
         · exact ak
         · subst h;exact kk ⟨by omega,.inr (.inl rfl)⟩
         · subst h;exact kk ⟨by omega,.inr (.inr (.inl rfl))⟩
         · exact kk ⟨(ug d k cp ag).1,.inr (.inr (.inr (.inr (.inl ⟨_,_,ag⟩))))⟩
 · refine⟨by omega,λd ao hf=>?_⟩
   have aav:∀k cp,bd≠ .slice d 0 k cp:=λk cp ag=>by have:=(ug d k cp ag).2.1;omega
   exact(hg.x.get d (by omega) (by omega)).trans ((GI d (by omega) (by omega) aav).trans ((bE.get d (by omega) ⟨by omega,.inl hf⟩).trans (e9.get d ao hf)))
end Go.Proofs.dj
namespace Go.Proofs.dj
open Go aM Go.Proofs c_ Go.Proofs.cF
set_option maxRecDepth 100000
set_option maxHeartbeats 1000000
theorem NS(i:Nat):∀a b:List cu,eu i (a++b)=eu i a+eu i b
 |[],b=>by rw[List.nil_append,eu];omega
 |x::a,b=>by rw[List.cons_append,eu,NS i a b,eu];omega
theorem GL(i:Nat){f:cu->cu}(hf:∀e,(f e).parts=e.parts):∀l:List cu,eu i (l.map f)=eu i l
 |[]=>rfl
 |x::l=>by rw[List.map_cons,eu,hf,GL i hf l,eu]
theorem NT(c:Nat):wv λy=>{y with e:={y.e with used:=c}}:=⟨λ_=>rfl,λ_=>rfl,λ_=>rfl,λ_=>rfl,λ_=>rfl,λ_=>rfl,λ_=>rfl,λ_=>rfl,λ_=>rfl⟩
theorem NU(i c:Nat)(M:List Mem):(ma i (λy=>{y with e:={y.e with used:=c}}) M).map Mem.e=(M.map Mem.e).map (k1 i c):=by
 unfold ma
 rw[List.map_map,List.map_map]
 refine List.map_congr_left λy _=>?_
 show(if y.e.id=i then({y with e:={y.e with used:=c}}:Mem) else y).e=k1 i c y.e
 unfold k1
 split<;>rfl
theorem NV{i c:Nat}{M:List Mem}{y:Mem}(aW:y∈ma i (λy=>{y with e:={y.e with used:=c}}) M):∃z∈M,y.ao=z.ao/\y.e.id=z.e.id:=by
 obtain⟨z,aZ,rfl⟩:=List.mem_map.1 aW
 refine⟨z,aZ,?_⟩
 split<;>exact⟨rfl,rfl⟩
theorem aaw(m:Nat){F:Nat->Prop}{h0:J}{p e w k r:Nat}{nm:a5}{bJ bd:I}{ns:List a5}{ids:List Nat}{s:c5}{y:J}(fJ:∀b,F b->b<h0.n)(eG:k4 F h0 p e w bJ bd ns ids [.int .i64 (Int.ofNat k),.str nm,.str (gi ns),.str (ez ids),.int .u64 (Int.ofNat r)] s y)(hs:e_ s)(ff:∀e∈s.l,e.args.length<=61/\jm e.ns)(aax:s.clock+1<=10000)(aay:s.given+1<=10000)(aK:jm ns)(aw:ids.length<=61)(iB:∀i∈ids,i<18446744073709551616):a4 Tryz.prog Tryz.f26 (Y (m+3)) [1,1,1,1,1,1,1] ⟨[(0,.ptr p 0),(6,.ptr e 0)],[],.none,y⟩ (λcd st=>cd=.ret/\∃g,st=⟨[(4,.int .u64 (Int.ofNat (j9 k nm ns ids r s).1))],[],.none,g⟩/\hE F g p (j9 k nm ns ids r s).2/\bT F h0 g):=by
 obtain⟨st,e9,et,iz,wy,df,uf,jK⟩:=eG
 obtain⟨a3,bS,aG,a9,M,gO,fv⟩:=st
 have cf:pI s:=⟨λe he=>(ff e he).1,λe he=>(ff e he).2,by omega,by omega⟩
 have w:f_ F y p a3 bS aG a9 s.cap s.given s.clock M:=gO.move (Nat.le_refl _) (λd _ _ _=>rfl) λd ao hf=>.inl ⟨ao,.inl hf⟩
 have z0:p≠e:=λh=>by
  have:=w.st
  rw[h,et] at this
  injection this with this;injection this with _ this
  exact absurd this (by decide)
 have NW:¬F e:=λh=>by have:=fJ e h;omega
 have B_:∀x∈M,x.e∈s.l:=λx aa=>by rw[<-fv.e];exact List.mem_map.2 ⟨x,aa,rfl⟩
 have Ca:∀x∈M,hn k nm (gi ns) (ez ids) r x=x.e.is k nm ns ids r:=λx aa=>Ni (cf.nm _ (B_ x aa)) aK (Gz hs cf (B_ x aa)) iB
 obtain⟨aj,dV⟩:∃aj,aj=y.set p (some (wo s.cap s.given (s.clock+1) a3 bS)):=⟨_,rfl⟩
 have st1:aM.storeCells y p (0+2) [.int .u64 (Int.ofNat (s.clock+1))]=some aj:=by rw[dV];exact gJ w.st rfl rfl
 have cK:=w.head s.given (s.clock+1)
 rw[<-dV] at cK
 have aD:aj.n=y.n:=by rw[dV];rfl
 have bE:bT F y aj:=by rw[dV];exact bT.set w.lq.1
 have vF:aj.get e=y.get e:=by rw[dV];exact dH (λh=>z0 h.symm) rfl
 have sl:=cK.ext (Ext.room aj.n aj 14)
 have NX:(aj.room 14).get e=some (ly [.int .i64 (Int.ofNat k),.str nm,.str (gi ns),.str (ez ids),.int .u64 (Int.ofNat r)] bJ bd):=vF.trans et
 cases hf:s.l.find? (cu.is k nm ns ids r) with
 |some cH=>
  have aaz:=List.mem_of_find?_eq_some hf
  have eJ:cH.is k nm ns ids r=true:=List.find?_some hf
  obtain⟨x,aa,nN⟩:=List.mem_map.1 (fv.e▸aaz:cH∈M.map Mem.e)
  subst nN
  have aT:hn k nm (gi ns) (ez ids) r x=true:=(Ca x aa).trans eJ
  have ze:M.Pairwise λa b=>¬(hn k nm (gi ns) (ez ids) r a=true/\hn k nm (gi ns) (ez ids) r b=true):=by
   have aaA:M.Pairwise λa b=>b.e.is a.e.k a.e.nm a.e.ns a.e.args a.e.ret=false:=by
    have:=hs.apart
    rw[<-fv.e,List.pairwise_map] at this
    exact this
   refine(List.Pairwise.and_mem.1 aaA).imp λ{a b} ⟨aS,ae,fg⟩ ⟨ba,a7⟩=>?_
   rw[Ca a aS] at ba
   rw[Ca b ae] at a7
   obtain⟨cw,c2,dm,e4,eX⟩:=qE.1 ba
   obtain⟨bt,bH,ej,j6,pj⟩:=qE.1 a7
   rw[qE.2 ⟨bt.trans cw.symm,bH.trans c2.symm,ej.trans dm.symm,j6.trans e4.symm,pj.trans eX.symm⟩] at fg
   cases fg
  have er:=Zg sl.ay ze aa aT
  have wB:=sl.ext (Ext.room (aj.room 14).n (aj.room 14) 13)
  have o3:=wB.et x aa
  have hle:j9 k nm ns ids r s=(x.e.id,{s with clock:=s.clock+1,l:=s.l.map (k1 x.e.id (s.clock+1))}):=by unfold j9;rw[hf]
  rw[hle]
  have cG:=wB.fm aa (NT (s.clock+1))
  refine NP (Y (m+3)) p e a3 bS y ⟨s.clock,aU w.st rfl,by omega,aj,st1,aU sl.st rfl,k,nm,gi ns,ez ids,r,pb NX rfl,x.e.id,true,er,λ_=>⟨aU wB.st rfl,x.b,wk wB.aA wB.up aa false,s.clock+1,aU wB.st rfl,_,gJ o3 rfl rfl,rfl,_,rfl,⟨a3,bS,aG,a9,_,cG,⟨?_,?_⟩⟩,?_⟩,λh=>by cases h⟩
  · show _=s.l.map (k1 x.e.id (s.clock+1))
    rw[NU,fv.e]
  · intro z aZ
    obtain⟨v,aB,aA,ay⟩:=NV aZ
    show z.ao=Int.ofNat (eu z.e.id (s.l.map (k1 x.e.id (s.clock+1))))
    rw[aA,ay,fv.ao v aB,GL _ λq=>(FR x.e.id (s.clock+1) q).parts]
  · exact(e9.trans bE).trans (((bT.ext (Ext.room _ _ _)).trans (bT.ext (Ext.room _ _ _))).trans (bT.set (b:=x.b) (w.ne x aa)))
 |none=>
  have n7:=List.find?_eq_none.1 hf
  have nz:∀x∈M,hn k nm (gi ns) (ez ids) r x=false:=λx aa=>by
   rw[Ca x aa]
   simpa using n7 x.e (B_ x aa)
  have er:=Zh sl.ay nz
  have hle:j9 k nm ns ids r s=(s.given+1,{s with given:=s.given+1,clock:=s.clock+1,l:=s.l++[⟨s.given+1,k,nm,ns,ids,r,0,s.clock+1⟩]}):=by unfold j9;rw[hf]
  rw[hle]
  obtain⟨aC,gw⟩:∃aC,aC=(aj.room 14).set p (some (wo s.cap (s.given+1) (s.clock+1) a3 bS)):=⟨_,rfl⟩
  have FI:aM.storeCells (aj.room 14) p (0+1) [.int .u64 (Int.ofNat (s.given+1))]=some aC:=by rw[gw];exact gJ sl.st rfl rfl
  have iN:=sl.head (s.given+1) (s.clock+1)
  rw[<-gw] at iN
  have bG:aC.n=aj.n+14:=by rw[gw];rfl
  have ec:bT F y aC:=bE.trans ((bT.ext (Ext.room _ _ _)).trans (by rw[gw];exact bT.set w.lq.1))
  have aaB:aC.get e=y.get e:=by rw[gw];exact(dH (λh=>z0 h.symm) rfl).trans vF
  have wC:=iN.ext (Ext.room aC.n aC 21)
  obtain⟨R,ee⟩:∃R,R=aC.room 21:=⟨_,rfl⟩
  rw[<-ee] at wC
  have M4:R.n=aC.n+21:=by rw[ee];rfl
  have NY:R.get e=some (ly [.int .i64 (Int.ofNat k),.str nm,.str (gi ns),.str (ez ids),.int .u64 (Int.ofNat r)] bJ bd):=by rw[ee];exact aaB.trans et
  have NZ:∀x∈M,x.e.id<s.given+1:=λx aa=>by have:=(hs.aN _ (B_ x aa)).2.1;omega
  obtain⟨bK,d1,d2,d3,d4⟩:=Z8 (id:=s.given+1) wC.ay nz λx aa=>(wC.fD x aa).2
  obtain⟨bW,zm⟩:∃bW,bW=bK.set bS (some (.map (M.map iW++[⟨.agg [.int .i64 (Int.ofNat k),.str nm,.str (gi ns),.str (ez ids),.int .u64 (Int.ofNat r)],.int .u64 (Int.ofNat (s.given+1)),a9⟩]) (a9+1))):=⟨_,rfl⟩
  rw[<-zm] at d4
  have aaC:bW.get a3=some (.map (M.map hD) aG):=by rw[zm];exact(dH w.jD rfl).trans ((d3 a3 w.jD).trans wC.aA)
  obtain⟨dZ,f1,f2,f3,f4⟩:=Z9 (id:=s.given+1) (b:=e) aaC (λx aa=>by have:=NZ x aa;omega) λx aa=>(wC.fD x aa).1
  obtain⟨eQ,zn⟩:∃eQ,eQ=dZ.set a3 (some (.map (M.map hD++[⟨.int .u64 (Int.ofNat (s.given+1)),.ptr e 0,aG⟩]) (aG+1))):=⟨_,rfl⟩
  rw[<-zn] at f4
  have dr:eQ.n=R.n:=by
   rw[zn];show dZ.n=_
   rw[f2,zm];exact d2
  have N0:∀d,d≠a3->d≠bS->eQ.get d=R.get d:=λd ab ad=>by
   rw[zn]
   refine(dH ab rfl).trans ((f3 d ab).trans ?_)
   rw[zm]
   exact(dH ad rfl).trans (d3 d ad)
  have low:∀{D:Type} {enc:D->List I} {wd el:Nat} {v:I} {ds:List D},cD enc wd el h0.n y v ds->cD enc wd el 0 R v ds/\∀d k cp,v=.slice d 0 k cp->¬F d:=by
   intro D enc wd el v ds a2
   rcases a2 with⟨rfl,a2⟩|⟨q,rfl,a7,b5,gr,gb⟩
   · exact⟨.inl ⟨rfl,a2⟩,λd k cp h=>by cases h⟩
   · refine⟨.inr ⟨q,rfl,a7,?_,Nat.zero_le _,by omega⟩,λd k cp h hf=>by cases h;have:=fJ q hf;omega⟩
     have N1:q≠p:=λh=>by rw[h,w.st] at b5;injection b5 with b5;injection b5 with _ _ b5;cases b5
     rw[ee]
     show aC.get q=_
     rw[gw]
     refine(dH N1 rfl).trans ?_
     show aj.get q=_
     rw[dV]
     exact(dH N1 rfl).trans b5
  obtain⟨aaD,aaE⟩:=low iz
  obtain⟨aaF,aaG⟩:=low wy
  have x1:∀x∈M,x.b≠e:=λx aa h=>gO.ne x aa ⟨w.aN.2.2.2 x aa,.inr (.inl h)⟩
  obtain⟨n,ni⟩:∃n:Mem,n=⟨⟨s.given+1,k,nm,ns,ids,r,0,0⟩,e,aG,a9,0,bJ,bd⟩:=⟨_,rfl⟩
  have aaH:eQ.get a3=some (.map ((M++[n]).map hD) (aG+1)):=by rw[zn,List.map_append,ni];exact gI rfl
  have aaI:eQ.get bS=some (.map ((M++[n]).map iW) (a9+1)):=by
   rw[zn]
   refine(dH (λh=>w.jD h.symm) rfl).trans ((f3 bS λh=>w.jD h.symm).trans ?_)
   rw[zm,List.map_append,ni];exact gI rfl
  have Cb:f_ F eQ p a3 bS (aG+1) (a9+1) s.cap (s.given+1) (s.clock+1) (M++[n]):=by
   refine wC.add (n:=n) dr N0 aaH aaI ?_ ?_ ?_ ?_ ?_ ?_ ?_ ?_ ?_ ?_ ?_ ?_<;>subst ni
   · exact NY
   · exact aaD
   · exact aaF
   · exact x1
   · rfl
   · rfl
   · exact NZ
   · show 0<s.given+1;omega
   · show e<R.n;omega
   · exact NW
   · exact aaE
   · exact aaG
  have jt:n∈M++[n]:=by simp
  have aaJ:∀x∈M++[n],-1000000<=x.ao/\x.ao<=1000000:=λx aa=>by
   rcases List.mem_append.1 aa with aa|aa
   · rw[fv.ao x aa]
     have:=Ny hs cf x.e.id
     have e:(Int.ofNat (eu x.e.id s.l))=((eu x.e.id s.l:Nat):Int):=rfl
     omega
   · rw[List.mem_singleton.1 aa,ni]
     exact⟨(by show(-1000000:Int)<=0;decide),(by show(0:Int)<=1000000;decide)⟩
  have cV:=Cb.et n jt
  have aaK:=Cb.az n jt
  have kM:n.b=e:=by rw[ni]
  have aaL:n.e.args=ids:=by rw[ni]
  have aaM:n.e.parts=r::ids:=by rw[ni];rfl
  have N2:n.e.id=s.given+1:=by rw[ni]
  obtain⟨fT,uI,aaN,EY⟩:=Nr (m+2) (z:=1) (.inl rfl) Cb cV aaK aaJ (by rw[aaL];omega) (by have:=Cb.aN.2.2.2 n jt;exact this)
  rw[kM] at uI
  have wD:=aaN.ext (Ext.room fT.n fT 13)
  have GM:bump 1 n.e.parts n∈(M++[n]).map (bump 1 n.e.parts):=List.mem_map.2 ⟨n,jt,rfl⟩
  have N3:=wk wD.aA wD.up GM false
  have zi:(bump 1 n.e.parts n).e.id=s.given+1:=N2
  have GN:(bump 1 n.e.parts n).b=e:=kM
  rw[zi,GN] at N3
  have aaO:=wD.et _ GM
  have lx:=wD.fm GM (NT (s.clock+1))
  have aaP:bT F aC eQ:=⟨by rw[dr,M4];omega,λd ao hf=>(N0 d (λh=>w.lq.2.1 (h▸hf)) (λh=>w.lq.2.2 (h▸hf))).trans (by rw[ee];rfl)⟩
  rw[ee] at d1
  refine NP (Y (m+3)) p e a3 bS y ⟨s.clock,aU w.st rfl,by omega,aj,st1,aU sl.st rfl,k,nm,gi ns,ez ids,r,pb NX rfl,0,false,er,λh=>(by cases h),λ_=>⟨s.given,aU sl.st rfl,by omega,aC,FI,s.given+1,aU iN.st rfl,aU (h:=aC.room 21) iN.st rfl,k,nm,gi ns,ez ids,r,pb (ee▸NY) rfl,aU (h:=aC.room 21) iN.st rfl,0,a9,bK,d1,bW,⟨d4,rfl⟩,aG,dZ,f1,eQ,⟨f4,rfl⟩,fT,uI,aU wD.st rfl,e,N3,s.clock+1,aU wD.st rfl,_,gJ (GN▸aaO) rfl rfl,rfl,_,rfl,⟨a3,bS,aG+1,a9+1,_,GN▸lx,⟨?_,?_⟩⟩,?_⟩⟩
  · show _=s.l++[⟨s.given+1,k,nm,ns,ids,r,0,s.clock+1⟩]
    rw[NU,Nz,List.map_append,fv.e,List.map_append,zi]
    have aA:s.l.map (k1 (s.given+1) (s.clock+1))=s.l:=by
     have:∀q∈s.l,k1 (s.given+1) (s.clock+1) q=q:=λq aT=>by
      have:=(hs.aN q aT).2.1
      unfold k1
      rw[if_neg (by omega)]
     rw[List.map_congr_left this,List.map_id']
    rw[aA,ni]
    simp[k1]
  · intro z aZ
    obtain⟨v,aB,aA,ay⟩:=NV aZ
    obtain⟨u,hu,rfl⟩:=List.mem_map.1 aB
    show z.ao=Int.ofNat (eu z.e.id (s.l++[⟨s.given+1,k,nm,ns,ids,r,0,s.clock+1⟩]))
    rw[aA,ay,NS]
    have bx:eu (bump 1 n.e.parts u).e.id [⟨s.given+1,k,nm,ns,ids,r,0,s.clock+1⟩]=(r::ids).count u.e.id:=by
     rw[eu,eu];rfl
    rw[bx]
    show u.ao+1*((n.e.parts).count u.e.id:Nat)=Int.ofNat (eu u.e.id s.l+(r::ids).count u.e.id)
    rw[aaM]
    rcases List.mem_append.1 hu with hu|hu
    · rw[fv.ao u hu]
      show((eu u.e.id s.l:Nat):Int)+1*_=((eu u.e.id s.l+(r::ids).count u.e.id:Nat):Int)
      rw[Int.natCast_add,Int.one_mul]
    · rw[List.mem_singleton.1 hu,N2]
      have CH:eu (s.given+1) s.l=0:=BD.2 λq aT aO=>by
       have ab:=(hs.aN q aT).2.1
       rcases hs.part q aT _ aO with h|⟨h,_⟩<;>omega
      have n4:n.ao=0:=by rw[ni]
      rw[CH,n4,Nat.zero_add,Int.one_mul,Int.zero_add]
      rfl
  · exact(e9.trans (ec.trans aaP)).trans (EY.trans ((bT.ext (Ext.room _ _ _)).trans (bT.set (b:=e) NW)))
end Go.Proofs.dj
namespace Go.Proofs.dj
open Go aM Go.Proofs c_ Go.Proofs.cF
set_option maxRecDepth 100000
set_option maxHeartbeats 1000000
theorem k4.zj{F:Nat->Prop}{h0:J}{p e w:Nat}{bJ bd:I}{ns:List a5}{ids:List Nat}{bC:List I}{s:c5}{y:J}(eG:k4 F h0 p e w bJ bd ns ids bC s y):(∀d k cp,bJ=.slice d 0 k cp->d<y.n/\d≠e/\∃cs,y.get d=some (.cells cs 9 .a1 0 0))/\∀d k cp,bd=.slice d 0 k cp->d<y.n/\d≠e/\∃cs,y.get d=some (.cells cs 32 .a1 0 0):=by
 constructor
 · intro d k cp ao
   rcases eG.ns with⟨rfl,_⟩|⟨q,rfl,_,b5,gr,gb⟩
   · cases ao
   · cases ao;exact⟨gb,λh=>(by rw[h] at b5;exact wz b5 eG.et),_,b5⟩
 · intro d k cp ao
   rcases eG.az with⟨rfl,_⟩|⟨q,rfl,_,b5,gr,gb⟩
   · cases ao
   · cases ao;exact⟨gb,λh=>(by rw[h] at b5;exact wz b5 eG.et),_,b5⟩
theorem k4.next{F:Nat->Prop}{h0:J}{p e w:Nat}{bJ bd:I}{ns:List a5}{ids:List Nat}{bC zo:List I}{s:c5}{y g:J}(eG:k4 F h0 p e w bJ bd ns ids bC s y)(fJ:∀b,F b->b<h0.n)(aK:y.n<=g.n)(aq:∀d,d<y.n->d≠e->jj 5 (y.get d)->g.get d=y.get d)(aaQ:∀d,d<h0.n->g.get d=y.get d)(he:g.get e=some (ly zo bJ bd)):k4 F h0 p e w bJ bd ns ids zo s g:=by
 obtain⟨Cc,Cd⟩:=eG.zj
 have ab:=eG.e9.n
 have ad:=eG.df
 have ar:=eG.uf
 have aJ:=eG.jK
 refine⟨eG.st.move aK (λd ao kZ ak=>aq d ao (λh=>kZ ⟨ao,.inr (.inl h)⟩) ak) (λd ao kk=>?_),⟨by omega,λd ao hf=>(aaQ d ao).trans (eG.e9.get d ao hf)⟩,he,cD.ck eG.ns aK λq aT lz=>?_,cD.ck eG.az aK λq aT lz=>?_,ad,ar,by omega⟩
 · obtain⟨_,p9⟩:=kk
   rcases p9 with h|h|h|h|h|h
   · exact .inl ⟨ao,.inl h⟩
   · exact .inl ⟨ao,.inr (.inl h)⟩
   · exact .inl ⟨ao,.inr (.inr (.inl h))⟩
   · exact .inl ⟨ao,.inr (.inr (.inr (.inl h)))⟩
   · exact .inl ⟨ao,.inr (.inr (.inr (.inr (.inl h))))⟩
   · by_cases oF:d=e
     · exact .inl ⟨ao,.inr (.inl oF)⟩
     · exact .inr λak=>h (by rw[aq d ao oF ak];exact ak)
 · obtain⟨_,b0,cs,ec⟩:=Cc q _ _ aT
   exact aq q lz b0 (by rw[ec];exact ub (by decide))
 · obtain⟨_,b0,cs,ec⟩:=Cd q _ _ aT
   exact aq q lz b0 (by rw[ec];exact ub (by decide))
theorem k4.child{F:Nat->Prop}{h0:J}{p e w:Nat}{bJ bd:I}{ns:List a5}{ids:List Nat}{bC zo:List I}{s bg:c5}{y g:J}(eG:k4 F h0 p e w bJ bd ns ids bC s y)(fJ:∀b,F b->b<h0.n)(hs:hE (Loc F y e w bJ bd) g p bg)(aq:bT (Loc F y e w bJ bd) y g):k4 F h0 p e w bJ bd ns ids zo bg (g.set e (some (ly zo bJ bd))):=by
 obtain⟨Cc,Cd⟩:=eG.zj
 have ab:=eG.e9.n
 have ad:=eG.df
 have ar:=eG.uf
 have aJ:=eG.jK
 have bO:=aq.n
 refine⟨hs.move (Nat.le_refl _) (λd ao kZ ak=>dH (λh=>kZ ⟨by omega,.inr (.inl h)⟩) rfl) (λd ao kk=>?_),⟨by simp;omega,λd ao hf=>?_⟩,gI rfl,cD.ck eG.ns (by simp;omega) λq aT lz=>?_,cD.ck eG.az (by simp;omega) λq aT lz=>?_,ad,ar,by simp;omega⟩
 · obtain⟨_,p9⟩:=kk
   rcases p9 with h|h|h|h|h|h
   · exact .inl ⟨by have:=fJ d h;omega,.inl h⟩
   · exact .inl ⟨by omega,.inr (.inl h)⟩
   · exact .inl ⟨by omega,.inr (.inr (.inl h))⟩
   · obtain⟨k,cp,aT⟩:=h
     exact .inl ⟨(Cc d k cp aT).1,.inr (.inr (.inr (.inl ⟨_,_,aT⟩)))⟩
   · obtain⟨k,cp,aT⟩:=h
     exact .inl ⟨(Cd d k cp aT).1,.inr (.inr (.inr (.inr (.inl ⟨_,_,aT⟩))))⟩
   · by_cases oF:d=e
     · exact .inl ⟨by omega,.inr (.inl oF)⟩
     · exact .inr λak=>h (by rw[dH oF rfl];exact ak)
 · exact(dH (by omega) rfl).trans ((aq.get d (by omega) ⟨by omega,.inl hf⟩).trans (eG.e9.get d ao hf))
 · obtain⟨_,b0,_⟩:=Cc q _ _ aT
   exact(dH b0 rfl).trans (aq.get q lz ⟨lz,.inr (.inr (.inr (.inl ⟨_,_,aT⟩)))⟩)
 · obtain⟨_,b0,_⟩:=Cd q _ _ aT
   exact(dH b0 rfl).trans (aq.get q lz ⟨lz,.inr (.inr (.inr (.inr (.inl ⟨_,_,aT⟩))))⟩)
theorem aaR(l:List aF){i:Nat}(h:i<l.length):cY (l.take i)+sz l[i]<=cY l:=by
 have key:∀a b:List aF,cY (a++b)=cY a+cY b:=by
  intro a b
  induction a with
  |nil=>rw[cY,List.nil_append];omega
  |cons x a a6=>rw[List.cons_append,cY,a6,cY];omega
 have e:=key (l.take i) (l.drop i)
 rw[List.take_append_drop,List.drop_eq_getElem_cons h,cY] at e
 omega
theorem N4:∀{ns:List a5},(∀s∈ns,s.length<=24)->fA 1 ns<=25*ns.length
 |[],_=>by rw[fA];exact Nat.zero_le _
 |x::l,h=>by
  have ab:=h x (List.mem_cons_self ..)
  have ad:=N4 (ns:=l) λs hs=>h s (List.mem_cons_of_mem _ hs)
  rw[fA,List.length_cons];omega
theorem GO:∀(N:Nat) (t:aF),sz t<=N->dg (some t)=0->∀n,sz t+10<=n->NQ n t
 |0,t,h,_,_,_=>by have:=rS t;omega
 |N+1,.mk k nm ns xs rt,gG,ag,n,aK=>by
  intro F h p v s st hs ff aax aay fJ aB
  obtain⟨aG,a9⟩:=kE.1 ag
  obtain⟨jt,kZ,aaS⟩:=NJ a9
  have bw:=mL k nm ns xs rt
  have fs:=nD xs
  obtain⟨r,uh,Ce,cU,vs,bh,aN,up,rfl,GP,Cf,nz,q5,N5,xB⟩:=aB
  obtain⟨m,rfl⟩:∃m,n=m+5+1:=⟨n-6,by omega⟩
  have vV:=fJ r GP
  refine Eh (R:=λx=>∃g,x=.ret (.int .u64 (Int.ofNat (c1 (.mk k nm ns xs rt) s).1)) g/\hE F g p (c1 (.mk k nm ns xs rt) s).2/\bT F h g) (intr:=b1) (n:=m+5) (args:=[.ptr p 0,.ptr r 0]) Tryz.func26 (by kernel_rfl) (by kernel_rfl) (by kernel_rfl) (Q:=λcd st=>cd=.ret/\∃g,st=⟨[(4,.int .u64 (Int.ofNat (c1 (.mk k nm ns xs rt) s).1))],[],.none,g⟩/\hE F g p (c1 (.mk k nm ns xs rt) s).2/\bT F h g) ?_ ?_
  rotate_left
  · rintro e st ⟨rfl,g,rfl,ab,ad⟩
    exact .inl ⟨.inl rfl,rfl,.int .u64 (Int.ofNat (c1 (.mk k nm ns xs rt) s).1),by kernel_rfl,g,rfl,ab,ad⟩
  have aaT:∃v2 aj,Y (m+5) (.fn 38) [uh] h=.ret v2 aj/\pH h.n aj v2 ns/\Ext h.n h aj/\v2.cQ=true:=by
   have aaU:c7 h.n h uh (ns.map .str):=by
    rcases nz with⟨a,b⟩|⟨b,off,cp,cw,c2,dm,e4,eX,qo⟩
    · exact .inl ⟨a,b⟩
    · exact .inr ⟨b,off,cp,cw,fJ b c2,dm,e4,eX⟩
   rcases LI (m+4) (Nat.le_refl _) aaU (by rw[List.length_map];omega) (by simp[List.all_map,I.cQ]) with⟨_,e,c⟩|⟨ab,b,aj,c,bt,bH,ej,j6⟩
   · have df:ns=[]:=by simpa using e
     exact⟨.a0,h,c,.inl ⟨rfl,df⟩,Ext.refl _ _,rfl⟩
   · rw[List.length_map] at ab c
     refine⟨_,aj,c,.inr ⟨b,rfl,ab,?_,bt,bH⟩,j6,rfl⟩
     rw[k3];exact ej
  obtain⟨v2,aj,I5,aaV,zg,lE⟩:=aaT
  have aD:=zg.n
  obtain⟨ab,iL⟩:∃ab,ab=aj.push (ly mZ v2 .a0):=⟨_,rfl⟩
  obtain⟨ad,rq⟩:∃ad,ad=ab.push (.cells [.bb,.a0] 92 .own 0 0):=⟨_,rfl⟩
  have ac9:ab.n=aj.n+1:=by rw[iL];rfl
  have ac_:ad.n=ab.n+1:=by rw[rq];rfl
  have nJ:Ext aj.n aj ad:=by rw[rq];refine Ext.ks (by omega) ?_;rw[iL];exact Ext.push (Nat.le_refl _) _
  have zp:Ext h.n h ad:=zg.trans aD nJ
  have aaW:ad.get aj.n=some (ly mZ v2 .a0):=by rw[rq];refine mC (by omega) ?_;rw[iL];exact fj rfl
  have aaX:ad.get ab.n=some (.cells [.bb,.a0] 92 .own 0 0):=by rw[rq];exact fj rfl
  have N6:pH h.n ad v2 ns:=aaV.mono nJ (Nat.le_refl _)
  have N7:k4 F h p aj.n ab.n v2 .a0 ns [] mZ s ad:=by
   refine⟨st.move zp.n (λd ao _ _=>zp.get d ao) (λd ao kk=>?_),bT.ext zp,aaW,N6,.inl ⟨rfl,rfl⟩,aD,by omega,by omega⟩
   obtain⟨_,p9⟩:=kk
   rcases p9 with aT|aT|aT|⟨_,_,aT⟩|⟨_,_,aT⟩|aT
   · exact .inl aT
   · omega
   · omega
   · rcases N6 with⟨e,_⟩|⟨b,e,_,_,gr,_⟩
     · rw[e] at aT;cases aT
     · rw[e] at aT;cases aT;omega
   · cases aT
   · exact .inr (by rw[<-zp.get d ao];exact aT)
  have kG:jA ad.n ab.n ad (ez []):=⟨.bb,.a0,aaX,.inl rfl,.inl ⟨rfl,rfl⟩,by omega,Nat.le_refl _,λ_=>rfl⟩
  refine a4.seq (p:=[]) (by kernel_rfl) (aab _ p r h (a4.seq (p:=[1]) (by kernel_rfl) (aac _ p r h (a4.seq (p:=[1,1]) (by kernel_rfl) (aad _ p r h ⟨uh,aU Cf rfl,v2,aj,I5,lE,lE,a4.seq (p:=[1,1,1]) (by kernel_rfl) ?_⟩)))))
  have aA:aj.push (.cells [.int .i64 (Int.ofNat 0),.str [],.str [],.str [],.int .u64 (Int.ofNat 0),v2,.a0,.int .i64 (Int.ofNat 0),.int .i64 (Int.ofNat 0),.int .u64 (Int.ofNat 0)] 65 .own 0 0)=ab:=by rw[iL];rfl
  rw[aA]
  refine aae _ p r aj.n ab (a4.seq (p:=[1,1,1,1]) (by kernel_rfl) ?_)
  rw[<-rq]
  have zQ:vs.length=xs.length:=cT.len N5
  have aaY:∀g,b9 Tryz.prog g 50 Ce=some (.int .i64 (Int.ofNat vs.length)):=λg=>by
   rcases q5 with⟨rfl,rfl⟩|⟨b,off,cp,rfl,_⟩<;>rfl
  have rest:∀(y:J) (bd:I) (Γ:Env),k4 F h p aj.n ab.n v2 bd ns (dc xs s).1 mZ (dc xs s).2 y->jA ad.n ab.n y (ez (dc xs s).1)->a4 Tryz.prog Tryz.f26 (Y (m+5)) [1,1,1,1,1] ⟨[(0,.ptr p 0),(1,.ptr r 0),(5,.fn 26 [.ptr p 0] []),(6,.ptr aj.n 0),(7,.ptr ab.n 0)],[],.none,y⟩ (λcd st=>cd=.ret/\∃g,st=⟨[(4,.int .u64 (Int.ofNat (c1 (.mk k nm ns xs rt) s).1))],[],.none,g⟩/\hE F g p (c1 (.mk k nm ns xs rt) s).2/\bT F h g):=by
   intro y bd Γ eG ae
   have e9:=eG.e9
   have mW:=e9.n
   have ada:=eG.jK
   have adb:=eG.uf
   have aaZ:y.get r=h.get r:=e9.get r vV GP
   have ui:y.get r=some (.cells [.int .i64 (Int.ofNat k),.str nm,uh,Ce,cU] 80 bh aN up):=aaZ.trans Cf
   have aa0:kb F (y.room 19) uh (ns.map .str):=kb.ck (λb ae=>⟨ae,e9.get b (fJ b ae) ae⟩) nz
   obtain⟨Cg,aa1,N8⟩:=ZB (m+1) aa0 (λb ae=>by have:=fJ b ae;have:(y.room 19).n=y.n+19:=rfl;omega) (λs hs=>(jt s hs).1) (by omega) (by have:=N4 aaS;omega)
   have NO:(y.room 19).n=y.n+19:=rfl
   have ade:=N8.n
   have zq:∀d,d<y.n->Cg.get d=y.get d:=λd ao=>N8.get d (by omega)
   have aa2:jA ad.n ab.n Cg (ez (dc xs s).1):=jA.NN ae (by omega) λd ao _=>zq d ao
   have jR:=B8 xs s
   obtain⟨ax,cs,N9,aa3⟩:=aal (m+4) ab.n ad.n Cg _ aa2 (by rw[GH];omega)
   have adf:=N9.n
   have N_:∀d,d<y.n->jj 5 (y.get d)->ax.get d=y.get d:=λd ao ak=>by
    have aL:=zq d ao
    exact(aa3 d (by omega) (by rw[aL];exact ak)).trans aL
   have ge:ax.get aj.n=some (ly mZ v2 bd):=(N_ aj.n (by omega) (by rw[eG.et];exact zd)).trans eG.et
   have GQ:∀d,d<h.n->ax.get d=y.get d:=λd ao=>(N9.get d (by omega)).trans (zq d (by omega))
   obtain⟨aC,gw⟩:∃aC,aC=ax.set aj.n (some (ly [.int .i64 (Int.ofNat k),.str nm,.str (gi ns),.str (ez (dc xs s).1),.int .u64 (Int.ofNat 0)] v2 bd)):=⟨_,rfl⟩
   have qJ:k4 F h p aj.n ab.n v2 bd ns (dc xs s).1 [.int .i64 (Int.ofNat k),.str nm,.str (gi ns),.str (ez (dc xs s).1),.int .u64 (Int.ofNat 0)] (dc xs s).2 aC:=by
    refine eG.next fJ (by rw[gw];simp;omega) (λd ao oF ak=>?_) (λd ao=>?_) (by rw[gw];exact gI rfl)
    · rw[gw];exact(dH oF rfl).trans (N_ d ao ak)
    · rw[gw];exact(dH (by omega) rfl).trans (GQ d ao)
   refine a4.seq (p:=[1,1,1,1,1]) (by kernel_rfl) (aai _ p r aj.n ab.n y ⟨k,aU (h:=y.room 19) ui rfl,nm,aU (h:=y.room 19) ui rfl,uh,aU (h:=y.room 19) ui rfl,gi ns,Cg,aa1,ez (dc xs s).1,ax,cs,aC,by rw[gw];exact gJ ge rfl rfl,aU ((GQ r vV).trans ui) rfl,aU ((zq r (by omega)).trans ui) rfl,aU ((GQ r vV).trans ui) rfl,aU ((zq r (by omega)).trans ui) rfl,?_,?_⟩)
   · rcases nz with⟨rfl,_⟩|⟨b,off,cp,rfl,_⟩<;>rfl
   obtain⟨n5,_,aa4⟩:=BF xs hs
   obtain⟨ei,gf,_⟩:=B7 xs s
   have Ch:=B9 xs s (λu hu=>tT ag hu) ff
   have node3:aC.get r=some (.cells [.int .i64 (Int.ofNat k),.str nm,uh,Ce,cU] 80 bh aN up):=(qJ.e9.get r vV GP).trans Cf
   have aa5:∀i∈(dc xs s).1,i<18446744073709551616:=λi af=>by
    obtain⟨q,aT,ov⟩:=aa4 i af
    have:=(n5.aN q aT).2.1
    omega
   have y6:=NG rt (dc xs s).2
   have fin:∀{s2 r2 jN},k4 F h p aj.n ab.n v2 bd ns (dc xs s).1 [.int .i64 (Int.ofNat k),.str nm,.str (gi ns),.str (ez (dc xs s).1),.int .u64 (Int.ofNat r2)] s2 jN->(r2,s2)=h7 rt (dc xs s).2->a4 Tryz.prog Tryz.f26 (Y (m+5)) [1,1,1,1,1,1,1] ⟨[(0,.ptr p 0),(6,.ptr aj.n 0)],[],.none,jN⟩ (λcd st=>cd=.ret/\∃g,st=⟨[(4,.int .u64 (Int.ofNat (c1 (.mk k nm ns xs rt) s).1))],[],.none,g⟩/\hE F g p (c1 (.mk k nm ns xs rt) s).2/\bT F h g):=by
    intro s2 r2 jN aa6 Oa
    have aa7:(h7 rt (dc xs s).2).1=r2:=by rw[<-Oa]
    have Ob:(h7 rt (dc xs s).2).2=s2:=by rw[<-Oa]
    obtain⟨qa,_,_⟩:=Ma rt n5
    have Dn:=NK rt (dc xs s).2 (λu hu=>by subst hu;exact GF ag) Ch
    rw[Ob] at qa Dn y6
    have:=aaw (m+2) fJ aa6 qa Dn (by omega) (by omega) jt (by omega) aa5
    rw[c1,aa7,Ob]
    exact this
   refine a4.seq (p:=[1,1,1,1,1,1]) (by kernel_rfl) ?_
   cases rt with
   |none=>
    have e:cU=.bb:=xB
    subst e
    exact aak _ p r aj.n aC ⟨aU node3 rfl,fin qJ (by rw[h7])⟩
   |some u=>
    have hu:=GF ag
    rw[l0] at bw
    obtain⟨Ci,aa8⟩:=fa.ptr xB
    subst aa8
    have zh:=GO N u (by omega) hu (m+5) (by omega)
    have Cj:fa (Loc F aC aj.n ab.n v2 bd) aC u (.ptr Ci 0):=fa.ck (λb ae=>⟨⟨by have:=fJ b ae;have:=qJ.e9.n;omega,.inl ae⟩,qJ.e9.get b (fJ b ae) ae⟩) _ _ xB
    obtain⟨bK,gN,aa9,gP⟩:=zh _ aC p (.ptr Ci 0) _ qJ.st n5 Ch (by omega) (by omega) (λb ae=>ae.1) Cj
    have aa_:bK.get aj.n=some (ly [.int .i64 (Int.ofNat k),.str nm,.str (gi ns),.str (ez (dc xs s).1),.int .u64 (Int.ofNat 0)] v2 bd):=(gP.get _ (by have:=qJ.jK;omega) ⟨by have:=qJ.jK;omega,.inr (.inl rfl)⟩).trans qJ.et
    exact aaj _ p r aj.n aC ⟨Ci,aU node3 rfl,Ci,aU node3 rfl,(c1 u (dc xs s).2).1,bK,gN,_,gJ aa_ rfl rfl,fin (qJ.child fJ aa9 gP) (by rw[h7])⟩
  refine aaf _ p r aj.n ab.n ad ⟨Ce,aU ((zp.get r vV).trans Cf) rfl,vs.length,aaY ad,?_⟩
  rcases q5 with⟨rfl,rfl⟩|⟨b,off,cp,rfl,Oc,fU,wY,_⟩
  · have df:xs=[]:=List.eq_nil_of_length_eq_zero (by rw[<-zQ];rfl)
    subst df
    refine a4.loop (by kernel_rfl) (λk st=>∃Γ,st=⟨Γ,[],.none,ad⟩/\cl [(0,.ptr p 0),(1,.ptr r 0),(5,.fn 26 [.ptr p 0] []),(6,.ptr aj.n 0),(7,.ptr ab.n 0),(25,.a0),(26,.int .i64 (Int.ofNat 0)),(27,.int .i64 (Int.ofNat 0))] Γ) ?_ 0 _ (by omega) ⟨_,rfl,rfl,rfl,rfl,rfl,rfl,rfl,rfl,rfl,trivial⟩
    rintro ea st ⟨Γ,rfl,cP⟩
    refine a4.pre (aah _ p r aj.n ab.n .a0 ad ⟨by omega,ad,_,rfl,rfl,⟨rfl,rfl,rfl,rfl,rfl,trivial⟩,?_⟩) cP rfl rfl rfl
    exact rest ad .a0 [] (by rw[dc];exact N7) (by rw[dc];exact kG)
  · refine a4.loop (by kernel_rfl) (λk st=>∃i y bd Γ,st=⟨Γ,[],.none,y⟩/\cl [(0,.ptr p 0),(1,.ptr r 0),(5,.fn 26 [.ptr p 0] []),(6,.ptr aj.n 0),(7,.ptr ab.n 0),(25,.slice b off vs.length cp),(26,.int .i64 (Int.ofNat vs.length)),(27,.int .i64 (Int.ofNat i))] Γ/\vs.length-i=k/\i<=vs.length/\k4 F h p aj.n ab.n v2 bd ns (dc (xs.take i) s).1 mZ (dc (xs.take i) s).2 y/\jA ad.n ab.n y (ez (dc (xs.take i) s).1)) ?_ vs.length _ (by omega) ⟨0,ad,.a0,_,rfl,⟨rfl,rfl,rfl,rfl,rfl,rfl,rfl,rfl,trivial⟩,by omega,by omega,by rw[List.take_zero,dc];exact N7,by rw[List.take_zero,dc];exact kG⟩
    rintro ea st ⟨i,y,bd,Γ,rfl,cP,eU,af,eG,ae⟩
    refine a4.pre (aag _ p r aj.n ab.n b off _ i cp y ⟨λi1=>?_,λi1=>?_⟩) cP rfl rfl rfl
    · have i2:i<xs.length:=by omega
      have xe:=cT.get N5 i i1 i2
      obtain⟨ll,o5⟩:=fa.ptr xe
      have ci:=tT ag (show xs[i]∈(aF.mk k nm ns xs rt).xs from List.getElem_mem i2)
      have adg:=aaR xs i2
      have zh:=GO N xs[i] (by omega) ci (m+5) (by omega)
      obtain⟨n5,_,_⟩:=BF (xs.take i) hs
      obtain⟨ei,gf,_⟩:=B7 (xs.take i) s
      have Ch:=B9 (xs.take i) s (λu hu=>tT ag (List.mem_of_mem_take hu)) ff
      obtain⟨Gb,d1,d2,jW,y4,d3,d4,Gc,d5,Gd,d6,Od,d7,aba,hK⟩:=aan (m+2) fJ eG ae (by omega) (by have:=eG.uf;omega) zh n5 Ch (by omega) (by omega) xe (by rw[B8,List.length_take];omega)
      rw[o5] at d1
      have Oe:dc (xs.take (i+1)) s=((dc (xs.take i) s).1++[(c1 xs[i] (dc (xs.take i) s).2).1],(c1 xs[i] (dc (xs.take i) s).2).2):=by
       rw[List.take_succ_eq_append_getElem i2,NH]
      have C4:au y b (off+i*1)=some (.ptr ll 0):=by
       have e:=eG.e9.get b (fJ b Oc) Oc
       have ay:=fU i i1
       rw[o5] at ay
       rw[<-ay];exact BJ e
      exact⟨i1,ll,C4,_,Gb,d1,bd,d2,jW,y4,d3,d4,Gc,d5,_,Gd,d6,_,_,Od,d7,by omega,_,(by show _<ea;omega),i+1,Od,jW,_,rfl,⟨rfl,rfl,rfl,rfl,rfl,rfl,rfl,rfl,trivial⟩,rfl,by omega,by rw[Oe];exact aba,by rw[Oe];exact hK⟩
    · obtain rfl:i=vs.length:=by omega
      have e:xs.take vs.length=xs:=List.take_of_length_le (by omega)
      rw[e] at eG ae
      exact⟨y,_,rfl,rfl,⟨rfl,rfl,rfl,rfl,rfl,trivial⟩,rest y bd [] eG ae⟩
end Go.Proofs.dj
