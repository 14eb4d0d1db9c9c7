/-
  PROVED HERE: contracts of functions (Dk). No condition beside each statement's own.
-/
import Derived.Test.YtjkomfonmcmgdaaDoorDj
set_option linter.unusedVariables false
set_option linter.unusedSimpArgs false
set_option maxRecDepth 100000
set_option maxHeartbeats 1000000
namespace Go.Proofs.hJ
open Go a8 Go.Proofs gp Go.Proofs.hK
theorem UW(m p:Nat)(h:ab){R:a7->Prop}(H:a4 Tryd.prog Tryd.f20 (Y m) [1,1,0] (au.mk [(1,.ptr h.n 0),(2,.fn 30 [] [.ptr h.n 0])] [] .none (ab.push h (.cells [.ptr p 0] 24 .own 0 0))) (λca ck=>((∃al:ab,∃bW:Env,ca=.exit 0/\ck=au.mk bW [] .none al/\cd [] bW/\R (.ret (.aJ []) al))\/(∃aA:ab,∃cM:Env,ca=.ret/\ck=au.mk cM [] .none aA/\cd [] cM/\R (.ret (.aJ []) aA))))):
  R (Y (m+1) (.fn 20) [.ptr p 0] h):=
 dq (intr:=b5) [(4000,.hH [1,2] [(.exit 0,[]),(.ret,[])])] [(0,.v (.ptr p 0))] Tryd.func20 (by kernel_rfl) (by kernel_rfl) (by kernel_rfl) rfl (Eq.mp (by kernel_rfl) H)
theorem UX(call:bt)(c aR bD:Nat)(h:ab){Q:bk->au->Prop}(H:∃aM:Nat,aB (h.room 10) c 0=some (.ptr aM 0)/\aB (h.room 10) aM (0+3)=some (.map aR)/\∃bo:Nat,cr Tryd.prog (h.room 10) 52 (.map aR)=some (.int .i64 (.ofNat bo))/\∃bF:Nat,aB (h.room 10) c 0=some (.ptr bF 0)/\∃b4:Nat,aB (h.room 10) bF (0+0)=some (.int .i64 (.ofNat b4))/\(b4<bo->∃cy:Nat,∃al:ab,call (.fn 30) [.ptr c 0] (h.room 10)=.ret (.int .u64 (.ofNat cy)) al/\(cy=0->Q .ret (au.mk [(1,.ptr c 0),(2,.fn 30 [] [.ptr c 0])] [] .none al))/\(¬cy=0->∃cO:Nat,aB al c 0=some (.ptr cO 0)/\aB al cO (0+3)=some (.map aR)/\∃di:Nat,gv Tryd.prog al 52 (.map aR) (.int .u64 (.ofNat cy)) false=some (.ptr di 0)/\∃fu:Nat,aB al c 0=some (.ptr fu 0)/\∃aA:ab,call (.fn 29) [.ptr fu 0,.ptr di 0,.int .i64 (.negSucc 0)] al=.ret (.aJ []) aA/\∃gJ:Nat,aB (aA.room 9) c 0=some (.ptr gJ 0)/\aB (aA.room 9) gJ (0+4)=some (.map bD)/\∃fT:Nat,∃s1:List UInt8,∃s2:List UInt8,∃cq:List UInt8,∃ib:Nat,a8.loadCells (aA.room 9) di (0+0) 5=some [.int .i64 (.ofNat fT),.str s1,.str s2,.str cq,.int .u64 (.ofNat ib)]/\∃aU:ab,nu Tryd.prog (aA.room 9) 53 (.map bD) (.agg [.int .i64 (.ofNat fT),.str s1,.str s2,.str cq,.int .u64 (.ofNat ib)])=some (.aJ [],aU)/\∃iw:Nat,aB aU c 0=some (.ptr iw 0)/\aB aU iw (0+3)=some (.map aR)/\∃bB:ab,nu Tryd.prog aU 52 (.map aR) (.int .u64 (.ofNat cy))=some (.aJ [],bB)/\Q .nrm (au.mk [(1,.ptr c 0),(2,.fn 30 [] [.ptr c 0])] [] .none bB)))/\(¬b4<bo->Q (.exit 0) (au.mk [(1,.ptr c 0),(2,.fn 30 [] [.ptr c 0])] [] .none (h.room 10)))):
  a4 Tryd.prog Tryd.f20 call [1,1,0,0] ⟨[(1,.ptr c 0),(2,.fn 30 [] [.ptr c 0])],[],.none,h⟩ Q:=
 dZ [(9,.a9 (.is (.map aR))),(23,.a9 (.is (.map aR))),(32,.a9 (.is (.map bD))),(40,.a9 (.is (.map aR))),(25,.a9 .p)] [1,2] [(1,.v (.ptr c 0)),(2,.v (.fn 30 [] [.ptr c 0]))] rfl (Eq.mp (by kernel_rfl) H)
structure uE(l:List bI)(M:List Mem):Prop where
 e:M.map Mem.e=l
 ak:∀x∈M,x.ak=Int.ofNat (dE x.e.id l)
def lK(l:List bI)(x:Mem):dj:=⟨x.e.id,x.b,x.e.pins,dE x.e.id l,x.e.used,x.de⟩
theorem Kt{h:ab}{f:Mem->dj}:∀{M:List Mem},(∀x∈M,qp h (gM x)=some (f x))->sb h (M.map gM)=some (M.map f)
 |[],_=>rfl
 |x::M,J=>by
  rw[List.map_cons,sb,J x (List.mem_cons_self ..),Kt λy aO=>J y (List.mem_cons_of_mem _ aO)];rfl
theorem Af:∀{l:List Nat},l.Pairwise (· ≠ ·)->kS l=true
 |[],_=>rfl
 |a::l,h=>by
  rw[List.pairwise_cons] at h
  have:(l.any λx=>Nat.beq a x)=false:=List.any_eq_false.2 λx J=>by
   intro e
   exact h.1 x J (Nat.eq_of_beq_eq_true e)
  rw[kS,this]
  exact Af h.2
theorem Ag{l:List bI}{x:Mem}:(lK l x).loose=lI l x.e:=rfl
def Ah:Option bI->Nat
 |none=>0
 |some e=>e.id
theorem UY{s:b7}(hs:dG s){M:List Mem}(ai:uE s.l M):Dh (mh (M.map (lK s.l)))=Ah (ie s.l s.l):=by
 cases ae:ie s.l s.l with
 |none=>
  have aH:=w_.1 ae
  cases hm:mh (M.map (lK s.l)) with
  |none=>rfl
  |some d=>
   obtain⟨aa,ad,_⟩:=wG hm
   obtain⟨x,J,rfl⟩:=List.mem_map.1 aa
   have iM:x.e∈s.l:=by rw[<-ai.e];exact List.mem_map.2 ⟨x,J,rfl⟩
   rw[Ag,aH _ iM] at ad;cases ad
 |some e=>
  obtain⟨bn,cJ,dr⟩:=so ae
  obtain⟨y,aO,Ej⟩:=List.mem_map.1 (ai.e▸bn:e∈M.map Mem.e)
  cases hm:mh (M.map (lK s.l)) with
  |none=>
   have:=zt hm (lK s.l y) (List.mem_map.2 ⟨y,aO,rfl⟩)
   rw[Ag,Ej,cJ] at this;cases this
  |some d=>
   obtain⟨aa,ad,aq⟩:=wG hm
   obtain⟨x,J,rfl⟩:=List.mem_map.1 aa
   have iM:x.e∈s.l:=by rw[<-ai.e];exact List.mem_map.2 ⟨x,J,rfl⟩
   have bW:=aq (lK s.l y) (List.mem_map.2 ⟨y,aO,rfl⟩) (by rw[Ag,Ej];exact cJ)
   have cM:=dr x.e iM (by rw[<-Ag];exact ad)
   have UZ:x.e.used<=y.e.used:=bW
   rw[Ej] at UZ
   show x.e.id=e.id
   exact hs.one _ iM _ bn (by omega)
theorem U0(m:Nat){G:Nat->Prop}{h:ab}{p aR bD aT bp c:Nat}{s:b7}{M:List Mem}(w:e7 G h p aR bD aT bp s.cap s.given s.clock M)(ai:uE s.l M)(hs:dG s)(af:aB h c 0=some (.ptr p 0))(pL:c<h.n):Y (m+1) (.fn 30) [.ptr c 0] h=.ret (.int .u64 (Int.ofNat (Ah (ie s.l s.l)))) (h.room (1+32*M.length)):=by
 obtain⟨bW,cM,eW,jb⟩:=w.aY
 have U1:sb h (M.map gM)=some (M.map (lK s.l)):=Kt λx J=>by
  have he:=w.dz x J
  have ah:=ai.ak x J
  have wA:aB h x.b 7=some (.int .i64 (Int.ofNat x.e.pins)):=a_ he rfl
  have wB:aB h x.b 8=some (.int .i64 (Int.ofNat (dE x.e.id s.l))):=by rw[<-ah];exact a_ he rfl
  have wC:aB h x.b 9=some (.int .u64 (Int.ofNat x.e.used)):=a_ he rfl
  unfold qp gM
  simp only[wA,wB,wC];rfl
 have d1:kS ((M.map (lK s.l)).map dj.born)=true:=by
  rw[List.map_map]
  exact Af (List.pairwise_map.2 (w.de.imp λ{a b} eA=>eA))
 have d2:kS ((M.map (lK s.l)).map dj.id)=true:=by
  rw[List.map_map]
  exact Af (List.pairwise_map.2 (w.up.imp λ{a b} eA=>by show a.e.id≠b.e.id;omega))
 have d3:kS (((M.map (lK s.l)).filter dj.loose).map dj.used)=true:=by
  refine Af (List.pairwise_map.2 (List.Pairwise.filter _ (List.pairwise_map.2 ?_)))
  have xj:M.Pairwise λa b=>a.e∈s.l/\b.e∈s.l/\a.e.id<b.e.id:=by
   have iC:∀x∈M,x.e∈s.l:=λx J=>by rw[<-ai.e];exact List.mem_map.2 ⟨x,J,rfl⟩
   exact(List.Pairwise.and_mem.1 w.up).imp λ{a b} ⟨aw,ae,eA⟩=>⟨iC a aw,iC b ae,eA⟩
  refine xj.imp λ{a b} eA e=>?_
  have:=hs.one _ eA.1 _ eA.2.1 e
  omega
 have d4:((M.map (lK s.l)).all λd=>Nat.blt d.born aT&&Nat.blt 0 d.id)=true:=List.all_eq_true.2 λd ak=>by
  obtain⟨x,J,rfl⟩:=List.mem_map.1 ak
  rw[Bool.and_eq_true,Nat.blt_eq,Nat.blt_eq]
  exact⟨(w.iQ x J).1,w.sv x J⟩
 have d5:((M.map (lK s.l)).all λd=>Nat.blt d.b h.n)=true:=List.all_eq_true.2 λd ak=>by
  obtain⟨x,J,rfl⟩:=List.mem_map.1 ak
  rw[Nat.blt_eq];exact jb x J
 have bn:Nat.blt c h.n=true:=by rw[Nat.blt_eq];exact pL
 have cJ:Nat.blt p h.n=true:=by rw[Nat.blt_eq];exact bW
 have dr:Nat.blt aR h.n=true:=by rw[Nat.blt_eq];exact cM
 have bY:aB h p 3=some (.map aR):=a_ w.st rfl
 have e:tX 30 [.ptr c 0] h=some (.int .u64 (Int.ofNat (Ah (ie s.l s.l))),h.room (1+32*M.length)):=by
  have ae:Nat.beq 30 30=true:=rfl
  have cV:sc (M.map (lK s.l)) aT=true:=by unfold sc;rw[d1,d2,d3,d4];rfl
  unfold tX
  simp only[ae,af,bY,w.ax,U1,cV,bn,cJ,dr,d5,UY hs ai,List.length_map];rfl
 have cn:b5 30 [.ptr c 0] h=some (.int .u64 (Int.ofNat (Ah (ie s.l s.l))),h.room (1+32*M.length)):=e
 show et Tryd.prog b5 (m+1) _ _ _=_
 simp only[et,cn]
theorem U2{i:Nat}{l:List bI}{x:Nat}(h:∀e∈l,e.id≠x):eF x l=l:=by
 unfold eF
 refine List.filter_eq_self.2 λe he=>?_
 cases ae:Nat.beq e.id x with
 |false=>rfl
 |true=>exact absurd (Nat.eq_of_beq_eq_true ae) (h e he)
theorem drop_cons{e:bI}{l:List bI}(x:Nat):eF x (e::l)=if e.id=x then eF x l else e::eF x l:=by
 unfold eF
 rw[List.filter_cons]
 by_cases h:e.id=x
 · rw[if_pos h,h,Nat.beq_refl];rfl
 · rw[if_neg h]
   cases ae:Nat.beq e.id x with
   |false=>rfl
   |true=>exact absurd (Nat.eq_of_beq_eq_true ae) h
theorem Ku{l:List bI}(aL:l.Pairwise (λa b=>a.id<b.id)){x:bI}(J:x∈l)(i:Nat):dE i l=x.parts.count i+dE i (eF x.id l)/\(eF x.id l).length+1=l.length:=by
 induction l with
 |nil=>cases J
 |cons e l a3=>
  rw[List.pairwise_cons] at aL
  rw[drop_cons]
  rcases List.mem_cons.1 J with rfl|J
  · have:=U2 (i:=0) (l:=l) (x:=x.id) λe he=>by have:=aL.1 e he;omega
    rw[if_pos rfl,this]
    exact⟨by rw[dE],rfl⟩
  · have cF:¬e.id=x.id:=by have:=aL.1 x J;omega
    obtain⟨aa,ad⟩:=a3 aL.2 J
    rw[if_neg cF,dE,dE,List.length_cons,List.length_cons]
    exact⟨by omega,by omega⟩
theorem e7.del{G:Nat->Prop}{h:ab}{p aR bD aT bp cap given clock:Nat}{M:List Mem}(w:e7 G h p aR bD aT bp cap given clock M)(q:Mem->Bool):e7 G ((h.set bD (some (.map ((M.filter q).map hZ) bp))).set aR (some (.map ((M.filter q).map gM) aT))) p aR bD aT bp cap given clock (M.filter q):=by
 have sub:∀x∈M.filter q,x∈M:=λx J=>(List.mem_filter.1 J).1
 have uo:p≠aR:=λe=>by have:=w.st;rw[e,w.ax] at this;cases this
 have pb:p≠bD:=λe=>by have:=w.st;rw[e,w.av] at this;cases this
 have jS:∀x∈M,x.b≠aR:=λx J e=>by have:=w.dz x J;rw[e,w.ax] at this;cases this
 have o0:∀x∈M,x.b≠bD:=λx J e=>by have:=w.dz x J;rw[e,w.av] at this;cases this
 have row:∀{D:Type} {enc:D->List I} {wd el:Nat} {v:I} {ds:List D},cH enc wd el 0 h v ds->cH enc wd el 0 ((h.set bD (some (.map ((M.filter q).map hZ) bp))).set aR (some (.map ((M.filter q).map gM) aT))) v ds:=by
  intro D enc wd el v ds aQ
  rcases aQ with aQ|⟨r,r1,r2,dJ,gj,Kv⟩
  · exact .inl aQ
  · refine .inr ⟨r,r1,r2,c5 (λe=>?_) (c5 (λe=>?_) dJ),gj,by simpa using Kv⟩
    · rw[e,w.ax] at dJ;cases dJ
    · rw[e,w.av] at dJ;cases dJ
 exact⟨c5 uo (c5 pb w.st),ft rfl,c5 (λe=>w.nc e.symm) (ft rfl),λx J=>c5 (jS x (sub x J)) (c5 (o0 x (sub x J)) (w.dz x (sub x J))),λx J=>row (w.ns x (sub x J)),λx J=>row (w.az x (sub x J)),w.bs.filter _,w.de.filter _,λx J=>w.iQ x (sub x J),w.up.filter _,λx J=>w.sv x (sub x J),w.nc,⟨w.aY.1,w.aY.2.1,w.aY.2.2.1,λx J=>w.aY.2.2.2 x (sub x J)⟩,w.nd,λx J=>w.ne x (sub x J),λx J=>w.uA x (sub x J),λx J=>w.uB x (sub x J)⟩
structure od(s:b7):Prop where
 args:∀e∈s.l,e.args.length<=61
 nm:∀e∈s.l,ig e.ns
 bl:s.given<=10000
 sy:s.clock<=10000
theorem Kw{i:Nat}:∀{l:List bI},(∀e∈l,e.args.length<=61)->dE i l<=62*l.length
 |[],_=>by rw[dE];exact Nat.zero_le _
 |e::l,h=>by
  have aa:=Kw (i:=i) (l:=l) λx J=>h x (List.mem_cons_of_mem _ J)
  have ad:=h e (List.mem_cons_self ..)
  have aq:=List.count_le_length (a:=i) (l:=e.parts)
  have aC:e.parts.length=e.args.length+1:=rfl
  rw[dE,List.length_cons];omega
theorem Kx:∀{l:List bI} {g:Nat},l.Pairwise (λa b=>a.id<b.id)->(∀e∈l,0<e.id/\e.id<=g)->l.length<=g
 |[],_,_,_=>Nat.zero_le _
 |e::l,g,aL,aj=>by
  rw[List.pairwise_cons] at aL
  have key:∀(l:List bI) (a:Nat),l.Pairwise (λa b=>a.id<b.id)->(∀e∈l,a<e.id/\e.id<=g)->l.length+a<=g\/l=[]:=by
   intro l
   induction l with
   |nil=>intro _ _ _;exact .inr rfl
   |cons x l a3=>
    intro a aL aj
    rw[List.pairwise_cons] at aL
    have J:=aj x (List.mem_cons_self ..)
    rcases a3 x.id aL.2 (λe he=>⟨aL.1 e he,(aj e (List.mem_cons_of_mem _ he)).2⟩) with h|h
    · left;rw[List.length_cons];omega
    · left;rw[h];simp;omega
  have:=key (e::l) 0 (List.pairwise_cons.2 aL) aj
  rcases this with h|h
  · omega
  · cases h
theorem Ky{s:b7}(hs:dG s)(ae:od s)(i:Nat):dE i s.l<=620000:=by
 have aa:=Kw (i:=i) ae.args
 have ad:=Kx hs.up λe he=>⟨(hs.aY e he).1,(hs.aY e he).2.1⟩
 have:=ae.bl
 omega
def fU(F:Nat->Prop)(h:ab)(p:Nat)(s:b7):Prop:=∃aR bD aT bp M,e7 F h p aR bD aT bp s.cap s.given s.clock M/\uE s.l M
theorem U3(x:Mem):gr x.e.k x.e.nm (fe x.e.ns) (dI x.e.args) x.e.ret x=true:=by simp[gr]
theorem od.drop{s:b7}(h:od s)(i:Nat):od {s with l:=eF i s.l}:=⟨λe he=>h.args e (mo.1 he).1,λe he=>h.nm e (mo.1 he).1,h.bl,h.sy⟩
theorem Ek{s:b7}(hs:dG s)(ae:od s){e:bI}(he:e∈s.l):∀i∈e.args,i<18446744073709551616:=λi ag=>by
 have aa:=ae.bl
 have ad:=(hs.aY e he).2.1
 rcases hs.part e he i (List.mem_cons_of_mem _ ag) with h|⟨h,_⟩<;>omega
theorem U4{s:b7}(hs:dG s)(ae:od s){M:List Mem}(jV:M.map Mem.e=s.l){x y:Mem}(J:x∈M)(aO:y∈M):gr x.e.k x.e.nm (fe x.e.ns) (dI x.e.args) x.e.ret y=jd x.e.id y:=by
 have iM:x.e∈s.l:=by rw[<-jV];exact List.mem_map.2 ⟨x,J,rfl⟩
 have xe:y.e∈s.l:=by rw[<-jV];exact List.mem_map.2 ⟨y,aO,rfl⟩
 rw[Kg (ae.nm _ xe) (ae.nm _ iM) (Ek hs ae xe) (Ek hs ae iM)]
 unfold jd
 have key:∀(l:List bI),l.Pairwise (λa b=>b.is a.k a.nm a.ns a.args a.ret=false)->l.Pairwise (λa b=>a.id<b.id)->∀a∈l,∀b∈l,b.is a.k a.nm a.ns a.args a.ret=decide (b.id=a.id):=by
  intro l
  induction l with
  |nil=>intro _ _ a aw;cases aw
  |cons e l a3=>
   intro aa ad a aw b ae
   rw[List.pairwise_cons] at aa ad
   have self:∀e:bI,e.is e.k e.nm e.ns e.args e.ret=true:=λe=>pc.2 ⟨rfl,rfl,rfl,rfl,rfl⟩
   rcases List.mem_cons.1 aw with aw|aw<;>rcases List.mem_cons.1 ae with ae|ae
   · rw[aw,ae,self,decide_eq_true rfl]
   · rw[aw,aa.1 b ae,decide_eq_false];have:=ad.1 b ae;omega
   · rw[ae,JU,aa.1 a aw,decide_eq_false];have:=ad.1 a aw;omega
   · exact a3 aa.2 ad.2 a aw b ae
 exact key s.l hs.apart hs.up _ iM _ xe
theorem Kz(z:Int)(l:List Nat)(M:List Mem):(M.map (bump z l)).map Mem.e=M.map Mem.e:=by
 rw[List.map_map];rfl
theorem U5(i:Nat)(M:List Mem):(M.filter λz=>!jd i z).map Mem.e=eF i (M.map Mem.e):=by
 unfold eF
 rw[List.filter_map]
 congr 1
 refine List.filter_congr λz aP=>?_
 show(!jd i z)=!Nat.beq z.e.id i
 unfold jd
 congr 1
 cases El:Nat.beq z.e.id i with
 |true=>exact decide_eq_true (Nat.eq_of_beq_eq_true El)
 |false=>exact decide_eq_false λe=>by rw[e,Nat.beq_refl] at El;cases El
theorem KA(m:Nat){F:Nat->Prop}{h:ab}{p:Nat}{s:b7}(w:fU F h p s)(hs:dG s)(ae:od s):∃g,Y (m+2) (.fn 20) [.ptr p 0] h=.ret (.aJ []) g/\fU F g p (hd s)/\bA F h g:=by
 obtain⟨aR,bD,aT,bp,KB,fO,eM⟩:=w
 obtain⟨bW,cM,eW,jb⟩:=fO.aY
 obtain⟨H,cQ⟩:∃H,H=h.push (.cells [.ptr p 0] 24 .own 0 0):=⟨_,rfl⟩
 have dU:Ext h.n h H:=by rw[cQ];exact Ext.push (Nat.le_refl _) _
 have n6:H.n=h.n+1:=by rw[cQ];rfl
 obtain⟨G,lj⟩:∃G:Nat->Prop,G=λd=>F d\/d=h.n:=⟨_,rfl⟩
 have U6:e7 G H p aR bD aT bp s.cap s.given s.clock KB:=fO.move dU.n (λd ak _ _=>dU.get d ak) λd ak aj=>by
  rw[lj] at aj
  rcases aj with aj|aj
  · exact .inl aj
  · omega
 have KC:∀d,F d->G d:=λd ak=>by rw[lj];exact .inl ak
 have KD:G h.n:=by rw[lj];exact .inr rfl
 refine UW (m+1) p h (R:=λx=>∃g,x=.ret (.aJ []) g/\fU F g p (hd s)/\bA F h g) ?_
 rw[<-cQ]
 refine a4.loop (by kernel_rfl) (λk st=>∃y Γ l M,st=⟨Γ,[],.none,y⟩/\cd [(1,.ptr h.n 0),(2,.fn 30 [] [.ptr h.n 0])] Γ/\l.length=k/\dG {s with l:=l}/\od {s with l:=l}/\e7 G y p aR bD aT bp s.cap s.given s.clock M/\uE l M/\hM s.cap l.length l=hM s.cap s.l.length s.l/\bA G H y) ?_ s.l.length _ (by
  have:=Kx hs.up λe he=>⟨(hs.aY e he).1,(hs.aY e he).2.1⟩
  have:=ae.bl
  omega) ⟨H,_,s.l,KB,rfl,⟨rfl,rfl,trivial⟩,rfl,hs,ae,U6,eM,rfl,bA.refl _ _⟩
 rintro k st ⟨y,Γ,l,M,rfl,cR,an,ok,bV,iG,sA,nH,fM⟩
 have sB:∀{x},bA G y x->aB x h.n 0=some (.ptr p 0):=λe=>by
  have ax:H.get h.n=some (.cells [.ptr p 0] 24 .own 0 0):=by rw[cQ];exact fI rfl
  exact a_ ((e.get _ (by have:=fM.n;omega) KD).trans ((fM.get _ (by omega) KD).trans ax)) rfl
 have U7:M.length=l.length:=by rw[<-sA.e,List.length_map]
 have fin:∀x,bA G y x->e7 G x p aR bD aT bp s.cap s.given s.clock M->hM s.cap l.length l=l->∃g,a7.ret (.aJ []) x=.ret (.aJ []) g/\fU F g p (hd s)/\bA F h g:=λx e U8 ar=>by
  refine⟨x,rfl,⟨aR,bD,aT,bp,M,U8.move (Nat.le_refl _) (λd _ _ _=>rfl) λd _ ak=>.inl (KC d ak),?_⟩,?_⟩
  · have:(hd s).l=l:=by show hM s.cap s.l.length s.l=l;rw[<-nH,ar]
    rw[this];exact sA
  · have ax:=(fM.trans e)
    exact⟨by have:=ax.n;omega,λd ak hf=>(ax.get d (by omega) (KC d hf)).trans (dU.get d ak)⟩
 have Ai:bA G y (y.room 10):=bA.ext (Ext.room _ _ _)
 have xk:=iG.ext (Ext.room y.n y 10)
 refine a4.pre (UX (Y (m+1)) h.n aR bD y ⟨p,sB Ai,a_ xk.st rfl,l.length,?_,p,sB Ai,s.cap,a_ xk.st rfl,λhj=>?_,λhj=>?_⟩) cR rfl rfl rfl
 · have hu:Tryd.prog.underlying 52=some (.map 28 56):=xg
   simp only[cr,hu,xk.ax,List.length_map,U7]
 · have jU:=U0 m (s:={s with l:=l}) xk sA ok (sB Ai) (by have:=fM.n;have:(y.room 10).n=y.n+10:=rfl;omega)
   obtain⟨al,dP⟩:∃al,al=(y.room 10).room (1+32*M.length):=⟨_,rfl⟩
   rw[<-dP] at jU
   have xl:Ext y.n y al:=by rw[dP];exact(Ext.room _ _ _).ma
   have ax:bA G y al:=bA.ext xl
   have cz:=iG.ext xl
   cases sd:ie l l with
   |none=>
    have Em:Y (m+1) (.fn 30) [.ptr h.n 0] (y.room 10)=.ret (.int .u64 (Int.ofNat 0)) al:=by rw[jU];simp only[sd];rfl
    refine⟨0,al,Em,λ_=>.inr ⟨al,_,rfl,rfl,trivial,fin al ax cz ?_⟩,λh=>absurd rfl h⟩
    obtain⟨j,aF⟩:∃j,l.length=j+1:=⟨l.length-1,by omega⟩
    rw[aF,hM,if_pos hj,sd]
   |some e=>
    obtain⟨bn,cJ,_⟩:=so sd
    obtain⟨x,J,k1⟩:=List.mem_map.1 (sA.e▸bn:e∈M.map Mem.e)
    subst k1
    have Yy:=cz.sv x J
    have Em:Y (m+1) (.fn 30) [.ptr h.n 0] (y.room 10)=.ret (.int .u64 (Int.ofNat x.e.id)) al:=by rw[jU];simp only[sd];rfl
    have fa:∀z∈M,-1000000<=z.ak/\z.ak<=1000000:=λz aP=>by
     rw[sA.ak z aP]
     have:=Ky ok bV z.e.id
     have e:(Int.ofNat (dE z.e.id l))=((dE z.e.id l:Nat):Int):=rfl
     have this:dE z.e.id l<=620000:=this
     omega
    have gC:x.e.args.length<=1000:=by have:=bV.args x.e bn;omega
    obtain⟨aA,tb,cA,bR⟩:=Kp m (z:=Int.negSucc 0) (.inr rfl) cz (cz.dz x J) (cz.az x J) fa gC (cz.aY.2.2.2 x J)
    have av:=ax.trans bR
    have kr:=cA.ext (Ext.room aA.n aA 9)
    have jD:bA G y (aA.room 9):=av.trans (bA.ext (Ext.room _ _ _))
    have jS:bump (Int.negSucc 0) x.e.parts x∈M.map (bump (Int.negSucc 0) x.e.parts):=List.mem_map.2 ⟨x,J,rfl⟩
    have sC:=kr.dz _ jS
    have KE:(M.map (bump (Int.negSucc 0) x.e.parts)).map Mem.e=l:=by rw[Kz];exact sA.e
    have En:∀z∈M.map (bump (Int.negSucc 0) x.e.parts),gr x.e.k x.e.nm (fe x.e.ns) (dI x.e.args) x.e.ret z=jd x.e.id z:=λz aP=>U4 (s:={s with l:=l}) (x:=bump (Int.negSucc 0) x.e.parts x) ok bV KE jS aP
    have xj:(M.map (bump (Int.negSucc 0) x.e.parts)).Pairwise λa b=>¬(gr x.e.k x.e.nm (fe x.e.ns) (dI x.e.args) x.e.ret a=true/\gr x.e.k x.e.nm (fe x.e.ns) (dI x.e.args) x.e.ret b=true):=by
     refine(List.Pairwise.and_mem.1 kr.up).imp λ{a b} ⟨aw,ae,eA⟩ ⟨aV,ba⟩=>?_
     rw[En a aw] at aV
     rw[En b ae] at ba
     have aV:=of_decide_eq_true aV
     have ba:=of_decide_eq_true ba
     omega
    have Eo:=Ul kr.av xj jS (U3 x)
    have U9:(M.map (bump (Int.negSucc 0) x.e.parts)).filter (λz=>!gr x.e.k x.e.nm (fe x.e.ns) (dI x.e.args) x.e.ret z)=(M.map (bump (Int.negSucc 0) x.e.parts)).filter (λz=>!jd x.e.id z):=List.filter_congr λz aP=>by rw[En z aP]
    rw[U9] at Eo
    obtain⟨aU,fP⟩:∃aU,aU=(aA.room 9).set bD (some (.map (((M.map (bump (Int.negSucc 0) x.e.parts)).filter (λz=>!jd x.e.id z)).map hZ) bp)):=⟨_,rfl⟩
    rw[<-fP] at Eo
    have pb:p≠bD:=λe=>by have:=kr.st;rw[e,kr.av] at this;cases this
    have U_:aU.get p=some (uy s.cap s.given s.clock aR bD):=by rw[fP];exact c5 pb kr.st
    have Va:aU.get aR=some (.map ((M.map (bump (Int.negSucc 0) x.e.parts)).map gM) aT):=by rw[fP];exact c5 kr.nc kr.ax
    have Dj:=Uh Va kr.up jS
    have mN:=kr.del (λz=>!jd x.e.id z)
    rw[<-fP] at mN
    have bq:bA G y aU:=by rw[fP];exact jD.trans (bA.set kr.nd.2.2)
    have dD:bA G y (aU.set aR (some (.map (((M.map (bump (Int.negSucc 0) x.e.parts)).filter (λz=>!jd x.e.id z)).map gM) aT))):=bq.trans (bA.set kr.nd.2.1)
    obtain⟨Yz,Aj⟩:=Ku ok.up bn 0
    refine⟨x.e.id,al,Em,λh0=>by omega,λ_=>⟨p,sB ax,a_ cz.st rfl,x.b,sr cz.ax cz.up J false,p,sB ax,aA,tb,p,sB jD,a_ kr.st rfl,x.e.k,x.e.nm,fe x.e.ns,dI x.e.args,x.e.ret,oW sC rfl,aU,Eo,p,sB bq,a_ U_ rfl,_,Dj,_,?_,_,_,eF x.e.id l,_,rfl,⟨rfl,rfl,trivial⟩,rfl,?_,bV.drop x.e.id,mN,⟨?_,?_⟩,?_,fM.trans dD⟩⟩
    · have Aj:(eF x.e.id l).length+1=l.length:=Aj
      show(eF x.e.id l).length<k
      omega
    · exact dG.drop (s:={s with l:=l}) ok (sn.1 cJ).2
    · rw[<-KE]
      exact U5 _ _
    · intro z aP
      obtain⟨v,aD,rfl⟩:=List.mem_map.1 (List.mem_filter.1 aP).1
      have ak:=(Ku ok.up bn v.e.id).1
      have ah:=sA.ak v aD
      show v.ak+Int.negSucc 0*(x.e.parts.count v.e.id:Nat)=Int.ofNat (dE v.e.id (eF x.e.id l))
      rw[ah]
      have ax:(Int.ofNat (dE v.e.id l))=((dE v.e.id l:Nat):Int):=rfl
      have av:(Int.ofNat (dE v.e.id (eF x.e.id l)))=((dE v.e.id (eF x.e.id l):Nat):Int):=rfl
      have bq:(Int.negSucc 0:Int)=-1:=rfl
      have ak:dE v.e.id l=x.e.parts.count v.e.id+dE v.e.id (eF x.e.id l):=ak
      rw[ax,av,bq]
      omega
    · obtain⟨j,aF⟩:∃j,l.length=j+1:=⟨l.length-1,by omega⟩
      have Aj:(eF x.e.id l).length+1=l.length:=Aj
      rw[<-nH,aF,hM,if_pos hj,sd]
      simp only
      rw[show(eF x.e.id l).length=j by omega]
 · refine .inl ⟨_,_,rfl,rfl,trivial,fin _ Ai xk ?_⟩
   cases aH:l.length with
   |zero=>rfl
   |succ j=>rw[hM,if_neg hj]
theorem Vb(k:Nat)(nm:a5)(ns:List a5)(az:List Nat)(r:Nat)(s:b7):(ic k nm ns az r s).2.clock=s.clock+1/\(ic k nm ns az r s).2.given<=s.given+1/\(ic k nm ns az r s).2.cap=s.cap:=by
 unfold ic
 split<;>exact⟨rfl,by simp,rfl⟩
mutual
theorem Ak:∀(t:aZ) (s:b7),(cC t s).2.clock=s.clock+sz t/\(cC t s).2.given<=s.given+sz t/\(cC t s).2.cap=s.cap
 |.mk k nm ns xs rt,s=>by
  obtain⟨b8,cG,dw⟩:=Al xs s
  obtain⟨bn,cJ,dr⟩:=KF rt (cP xs s).2
  obtain⟨d1,d2,d3⟩:=Vb k nm ns (cP xs s).1 (hc rt (cP xs s).2).1 (hc rt (cP xs s).2).2
  rw[cC,sz]
  exact⟨by omega,by omega,by rw[d3,dr,dw]⟩
theorem Al:∀(l:List aZ) (s:b7),(cP l s).2.clock=s.clock+eo l/\(cP l s).2.given<=s.given+eo l/\(cP l s).2.cap=s.cap
 |[],s=>by rw[cP,eo];exact⟨rfl,Nat.le_refl _,rfl⟩
 |t::l,s=>by
  obtain⟨b8,cG,dw⟩:=Ak t s
  obtain⟨bn,cJ,dr⟩:=Al l (cC t s).2
  rw[cP,eo]
  exact⟨by show(cP l (cC t s).2).2.clock=_;omega,by show(cP l (cC t s).2).2.given<=_;omega,by show(cP l (cC t s).2).2.cap=_;rw[dr,dw]⟩
theorem KF:∀(o:Option aZ) (s:b7),(hc o s).2.clock=s.clock+ev o/\(hc o s).2.given<=s.given+ev o/\(hc o s).2.cap=s.cap
 |none,s=>by rw[hc,ev];exact⟨rfl,Nat.le_refl _,rfl⟩
 |some t,s=>by rw[hc,ev];exact Ak t s
end
theorem Am:∀(l:List aZ) (s:b7),(cP l s).1.length=l.length
 |[],s=>by rw[cP];rfl
 |t::l,s=>by rw[cP];simp[Am l]
theorem KG(t:aZ):∀(l:List aZ) (s:b7),cP (l++[t]) s=((cP l s).1++[(cC t (cP l s).2).1],(cC t (cP l s).2).2)
 |[],s=>by simp[cP]
 |x::l,s=>by
  rw[List.cons_append,cP,KG t l]
  simp[cP]
theorem KH{p:Option a5}:∀{ns:List a5},kW p ns=true->ig ns
 |[],_,s,hs=>by cases hs
 |x::l,h,s,hs=>by
  rw[kW,Bool.and_eq_true,Bool.and_eq_true] at h
  rcases List.mem_cons.1 hs with rfl|hs
  · have hf:=h.1
    unfold kU at hf
    simp only[Bool.and_eq_true,decide_eq_true_eq] at hf
    refine⟨λe=>by rw[e] at hf;simp at hf,λc af e=>?_⟩
    have:=List.all_eq_true.1 hf.2 c af
    rw[e] at this
    exact absurd this (by decide)
  · exact KH h.2.2 s hs
theorem KI{k:Nat}{nm:a5}{ns:List a5}{xs:List aZ}{rt:Option aZ}(h:fD (.mk k nm ns xs rt)=true):ig ns/\ns.length<=xs.length/\∀s∈ns,s.length<=24:=by
 rw[qw] at h
 simp only[Bool.and_eq_true] at h
 obtain⟨_,aL,J,an⟩:=h
 by_cases fm:k=7
 · subst fm
   have:ns.length=xs.length/\kW none ns=true:=by simpa[gH] using an
   exact⟨KH this.2,by omega,Dt none ns this.2⟩
 · have h0:=D9 aL fm
   have:ns=[]:=List.eq_nil_of_length_eq_zero h0
   subst this
   exact⟨λs hs=>(by cases hs),by simp,λs hs=>(by cases hs)⟩
theorem Ep{k:Nat}{nm:a5}{ns:List a5}{xs:List aZ}{u:aZ}(h:hY (some (.mk k nm ns xs (some u)))=0):hY (some u)=0:=by
 obtain⟨aa,ad⟩:=uw.1 h
 rw[qw] at ad
 simp only[Bool.and_eq_true] at ad
 obtain⟨_,aL,J,an⟩:=ad
 have q0:k=8:=by
  unfold o4 at aL
  simp only[Bool.and_eq_true] at aL
  have:=aL.2
  simpa using this
 subst q0
 have hu:fD u=true:=by simpa[gH,km] using an
 rw[o1,o2] at aa
 exact uw.2 ⟨by omega,hu⟩
theorem Vc{s:b7}{k:Nat}{nm:a5}{ns:List a5}{az:List Nat}{r:Nat}(aa:∀e∈s.l,e.args.length<=61/\ig e.ns)(ad:az.length<=61)(aq:ig ns):∀e∈(ic k nm ns az r s).2.l,e.args.length<=61/\ig e.ns:=by
 unfold ic
 split
 · intro e he
   obtain⟨x,J,rfl⟩:=List.mem_map.1 he
   have T:=D1
   have:=aa x J
   rename_i q _
   rw[(T q.id (s.clock+1) x).args,(T q.id (s.clock+1) x).ns]
   exact this
 · intro e he
   rcases List.mem_append.1 he with he|he
   · exact aa e he
   · obtain rfl:=List.mem_singleton.1 he
     exact⟨ad,aq⟩
mutual
theorem Er:∀(t:aZ) (s:b7),hY (some t)=0->(∀e∈s.l,e.args.length<=61/\ig e.ns)->∀e∈(cC t s).2.l,e.args.length<=61/\ig e.ns
 |.mk k nm ns xs rt,s,af,h=>by
  obtain⟨aT,bp⟩:=uw.1 af
  have J:=An xs s (λu hu=>zR af hu) h
  have aQ:=KJ rt (cP xs s).2 (λu hu=>by subst hu;exact Ep af) J
  rw[cC]
  rw[o1] at aT
  have:=qu xs
  exact Vc aQ (by rw[Am];omega) (KI bp).1
theorem An:∀(l:List aZ) (s:b7),(∀t∈l,hY (some t)=0)->(∀e∈s.l,e.args.length<=61/\ig e.ns)->∀e∈(cP l s).2.l,e.args.length<=61/\ig e.ns
 |[],s,_,h=>by rw[cP];exact h
 |t::l,s,af,h=>by
  rw[cP]
  exact An l _ (λu hu=>af u (List.mem_cons_of_mem _ hu)) (Er t s (af t (List.mem_cons_self ..)) h)
theorem KJ:∀(o:Option aZ) (s:b7),(∀u,o=some u->hY (some u)=0)->(∀e∈s.l,e.args.length<=61/\ig e.ns)->∀e∈(hc o s).2.l,e.args.length<=61/\ig e.ns
 |none,s,_,h=>by rw[hc];exact h
 |some t,s,af,h=>by rw[hc];exact Er t s (af t rfl) h
end
theorem KK{es:List db}{k v:I}{c:Nat}:∀(j:Nat),(∀e∈es,e.born≠c)->qQ (Int.ofNat c) (es++[⟨k,v,c⟩]) j=some (j+es.length,⟨k,v,c⟩):=by
 induction es with
 |nil=>intro j _;show(match cW (Int.ofNat c) (Int.ofNat c) with|true=>some (j,_)|false=>_)=_;rw[qc rfl];rfl
 |cons e es a3=>
  intro j h
  have aa:=h e (List.mem_cons_self ..)
  show(match cW (Int.ofNat e.born) (Int.ofNat c) with|true=>some (j,e)|false=>qQ (Int.ofNat c) (es++[(⟨k,v,c⟩:db)]) (j+1))=_
  rw[oV aa]
  simp only
  rw[a3 (j+1) λx J=>h x (List.mem_cons_of_mem _ J),List.length_cons]
  congr 2;omega
theorem KL{es:List db}{e:db}{v key:I}:oi v key es.length (es++[e])=es++[⟨key,v,e.born⟩]:=by
 induction es with
 |nil=>rfl
 |cons x es a3=>show x::oi v key es.length (es++[e])=_;rw[a3];rfl
theorem Vd{h:ab}{m c:Nat}{M:List Mem}(hm:h.get m=some (.map (M.map hZ) c)){k r id:Nat}{nm f p:a5}(aH:∀x∈M,gr k nm f p r x=false)(aQ:∀x∈M,x.c9<c):∃g,nr Tryd.prog h 53 (.map m) (.agg [.int .i64 (Int.ofNat k),.str nm,.str f,.str p,.int .u64 (Int.ofNat r)])=some (.aJ [.int .u64 (Int.ofNat 0),.int .i64 (Int.ofNat c)],g)/\g.n=h.n/\(∀d,d≠m->g.get d=h.get d)/\nt g (.map m) (.int .i64 (Int.ofNat c)) (.int .u64 (Int.ofNat id))=some (g.set m (some (.map (M.map hZ++[⟨.agg [.int .i64 (Int.ofNat k),.str nm,.str f,.str p,.int .u64 (Int.ofNat r)],.int .u64 (Int.ofNat id),c⟩]) (c+1)))):=by
 have aa:=xc (q:=gr k nm f p r) (l:=M) (j:=0) aH
 have aP:dt Tryd.prog 28=some (.int .u64 (Int.ofNat 0)):=by kernel_rfl
 refine⟨h.set m (some (.map (M.map hZ++[⟨.agg [.int .i64 (Int.ofNat k),.str nm,.str f,.str p,.int .u64 (Int.ofNat r)],.int .u64 (Int.ofNat 0),c⟩]) (c+1))),?_,rfl,λd ak=>c5 ak rfl,?_⟩
 · simp only[nr,z6,z8,hm,pe M 0 λy _=>z_ h k r nm f p y,aa,Option.map,aP]
 · have ae:=KK (es:=M.map hZ) (k:=.agg [.int .i64 (Int.ofNat k),.str nm,.str f,.str p,.int .u64 (Int.ofNat r)]) (v:=.int .u64 (Int.ofNat 0)) (c:=c) 0 λe he=>by
     obtain⟨x,J,rfl⟩:=List.mem_map.1 he
     have:=aQ x J
     show x.c9≠c
     omega
   rw[Nat.zero_add] at ae
   have gs:∀(o:cX),(h.set m (some o)).get m=some o:=λo=>ft rfl
   simp only[nt,gs,ae,KL]
theorem Ve{h:ab}{m c:Nat}{M:List Mem}(hm:h.get m=some (.map (M.map gM) c)){id b:Nat}(aH:∀x∈M,x.e.id≠id)(aQ:∀x∈M,x.de<c):∃g,nr Tryd.prog h 52 (.map m) (.int .u64 (Int.ofNat id))=some (.aJ [.br,.int .i64 (Int.ofNat c)],g)/\g.n=h.n/\(∀d,d≠m->g.get d=h.get d)/\nt g (.map m) (.int .i64 (Int.ofNat c)) (.ptr b 0)=some (g.set m (some (.map (M.map gM++[⟨.int .u64 (Int.ofNat id),.ptr b 0,c⟩]) (c+1)))):=by
 have aa:=xc (q:=jd id) (l:=M) (j:=0) λx J=>decide_eq_false (aH x J)
 have aP:dt Tryd.prog 56=some .br:=by kernel_rfl
 refine⟨h.set m (some (.map (M.map gM++[⟨.int .u64 (Int.ofNat id),.br,c⟩]) (c+1))),?_,rfl,λd ak=>c5 ak rfl,?_⟩
 · simp only[nr,xg,z7,hm,pe M 0 λy _=>z9 h id y,aa,Option.map,aP]
 · have ae:=KK (es:=M.map gM) (k:=.int .u64 (Int.ofNat id)) (v:=.br) (c:=c) 0 λe he=>by
     obtain⟨x,J,rfl⟩:=List.mem_map.1 he
     have:=aQ x J
     show x.de≠c
     omega
   rw[Nat.zero_add] at ae
   have gs:∀(o:cX),(h.set m (some o)).get m=some o:=λo=>ft rfl
   simp only[nt,gs,ae,KL]
theorem e7.add{F:Nat->Prop}{h g:ab}{p aR bD aT bp cap given clock:Nat}{M:List Mem}(w:e7 F h p aR bD aT bp cap given clock M){n:Mem}(aH:g.n=h.n)(an:∀d,d≠aR->d≠bD->g.get d=h.get d)(aa:g.get aR=some (.map ((M++[n]).map gM) (aT+1)))(ad:g.get bD=some (.map ((M++[n]).map hZ) (bp+1)))(he:h.get n.b=some (uz n.e n.ak n.bZ n.bf))(h5:na 0 h n.bZ n.e.ns)(uF:su 0 h n.bf n.e.args)(ae:∀x∈M,x.b≠n.b)(YA:n.de=aT)(YB:n.c9=bp)(gU:∀x∈M,x.e.id<n.e.id)(h0:0<n.e.id)(q4:n.b<h.n)(e6:¬F n.b)(Vf:∀d k cp,n.bZ=.slice d 0 k cp->¬F d)(Vg:∀d k cp,n.bf=.slice d 0 k cp->¬F d):e7 F g p aR bD (aT+1) (bp+1) cap given clock (M++[n]):=by
 have jS:∀{b cs el},h.get b=some (.cells cs el .own 0 0)->b≠aR:=λae e=>by rw[e,w.ax] at ae;cases ae
 have o0:∀{b cs el},h.get b=some (.cells cs el .own 0 0)->b≠bD:=λae e=>by rw[e,w.av] at ae;cases ae
 have own:∀{b cs el},h.get b=some (.cells cs el .own 0 0)->g.get b=some (.cells cs el .own 0 0):=λae=>(an _ (jS ae) (o0 ae)).trans ae
 have row:∀{D:Type} {enc:D->List I} {wd el:Nat} {v:I} {ds:List D},cH enc wd el 0 h v ds->cH enc wd el 0 g v ds:=by
  intro D enc wd el v ds aQ
  rcases aQ with aQ|⟨r,r1,r2,dJ,gj,Kv⟩
  · exact .inl aQ
  · exact .inr ⟨r,r1,r2,(an r (λe=>by rw[e,w.ax] at dJ;cases dJ) (λe=>by rw[e,w.av] at dJ;cases dJ)).trans dJ,gj,by omega⟩
 have all:∀{Q:Mem->Prop},(∀x∈M,Q x)->Q n->∀x∈M++[n],Q x:=λa b x J=>by
  rcases List.mem_append.1 J with J|J
  · exact a x J
  · rw[List.mem_singleton.1 J];exact b
 have sx:∀{R:Mem->Mem->Prop},M.Pairwise R->(∀x∈M,R x n)->(M++[n]).Pairwise R:=λa b=>by
  rw[List.pairwise_append]
  exact⟨a,List.pairwise_singleton ..,λx J y aO=>by rw[List.mem_singleton.1 aO];exact b x J⟩
 obtain⟨bW,cM,eW,jb⟩:=w.aY
 exact⟨own w.st,aa,ad,all (λx J=>own (w.dz x J)) (own he),all (λx J=>row (w.ns x J)) (row h5),all (λx J=>row (w.az x J)) (row uF),sx w.bs ae,sx w.de (λx J=>by have:=(w.iQ x J).1;omega),all (λx J=>by have:=w.iQ x J;omega) (by omega),sx w.up gU,all w.sv h0,w.nc,⟨by omega,by omega,by omega,all (λx J=>by have:=jb x J;omega) (by omega)⟩,w.nd,all w.ne e6,all w.uA Vf,all w.uB Vg⟩
theorem ix.KM{B w:Nat}{h g:ab}{s:List UInt8}(ae:ix B w h s)(aH:h.n<=g.n)(an:∀d,d<h.n->(d=w\/¬ia 5 (h.get d))->g.get d=h.get d):ix B w g s:=by
 obtain⟨a,v,aa,ad,aq,aC,bC,dd⟩:=ae
 refine⟨a,v,(an w (by omega) (.inl rfl)).trans aa,ad,?_,aC,by omega,dd⟩
 rcases aq with aq|⟨c,rest,ax,av,bq,dD⟩
 · exact .inl aq
 · exact .inr ⟨c,rest,ax,(an c dD (.inr λKN=>KN _ _ _ av)).trans av,bq,by omega⟩
theorem Vh(call:bt)(p r:Nat)(h:ab){Q:bk->au->Prop}(H:Q .nrm (au.mk [(0,.ptr p 0),(1,.ptr r 0)] [] .none h)):
  a4 Tryd.prog Tryd.f19 call [0] ⟨[(0,.ptr p 0),(1,.ptr r 0)],[],.none,h⟩ Q:=
 dZ [] [0,1] [(0,.v (.ptr p 0)),(1,.v (.ptr r 0))] rfl (Eq.mp (by kernel_rfl) H)
theorem Vi(call:bt)(p r:Nat)(h:ab){Q:bk->au->Prop}(H:Q .nrm (au.mk [(0,.ptr p 0),(1,.ptr r 0),(5,.fn 19 [.ptr p 0] [])] [] .none h)):
  a4 Tryd.prog Tryd.f19 call [1,0] ⟨[(0,.ptr p 0),(1,.ptr r 0)],[],.none,h⟩ Q:=
 dZ [] [0,1,5] [(0,.v (.ptr p 0)),(1,.v (.ptr r 0))] rfl (Eq.mp (by kernel_rfl) H)
theorem Vj(call:bt)(p r:Nat)(h:ab){Q:bk->au->Prop}(H:∃v1:I,aB h r (0+2)=some v1/\∃v2:I,∃al:ab,call (.fn 17) [v1] h=.ret v2 al/\I.cw v2=true/\I.cw v2=true/\Q .nrm (au.mk [(0,.ptr p 0),(1,.ptr r 0),(5,.fn 19 [.ptr p 0] []),(6,.ptr al.n 0)] [] .none (ab.push al (.cells [.int .i64 (.ofNat 0),.str [],.str [],.str [],.int .u64 (.ofNat 0),v2,.bd,.int .i64 (.ofNat 0),.int .i64 (.ofNat 0),.int .u64 (.ofNat 0)] 60 .own 0 0)))):
  a4 Tryd.prog Tryd.f19 call [1,1,0] ⟨[(0,.ptr p 0),(1,.ptr r 0),(5,.fn 19 [.ptr p 0] [])],[],.none,h⟩ Q:=
 dZ [(19,.a9 .o)] [0,1,5,6] [(0,.v (.ptr p 0)),(1,.v (.ptr r 0)),(5,.v (.fn 19 [.ptr p 0] []))] rfl (Eq.mp (by kernel_rfl) H)
theorem Vk(call:bt)(p r e:Nat)(h:ab){Q:bk->au->Prop}(H:Q .nrm (au.mk [(0,.ptr p 0),(1,.ptr r 0),(5,.fn 19 [.ptr p 0] []),(6,.ptr e 0),(7,.ptr h.n 0)] [] .none (ab.push h (.cells [.br,.bd] 70 .own 0 0)))):
  a4 Tryd.prog Tryd.f19 call [1,1,1,0] ⟨[(0,.ptr p 0),(1,.ptr r 0),(5,.fn 19 [.ptr p 0] []),(6,.ptr e 0)],[],.none,h⟩ Q:=
 dZ [] [0,1,5,6,7] [(0,.v (.ptr p 0)),(1,.v (.ptr r 0)),(5,.v (.fn 19 [.ptr p 0] [])),(6,.v (.ptr e 0))] rfl (Eq.mp (by kernel_rfl) H)
theorem Vl(call:bt)(p r e w:Nat)(h:ab){Q:bk->au->Prop}(H:∃v1:I,aB h r (0+3)=some v1/\∃aM:Nat,cr Tryd.prog h 41 v1=some (.int .i64 (.ofNat aM))/\a4 Tryd.prog Tryd.f19 call [1,1,1,1,0,1,0] (au.mk [(0,.ptr p 0),(1,.ptr r 0),(5,.fn 19 [.ptr p 0] []),(6,.ptr e 0),(7,.ptr w 0),(25,v1),(26,.int .i64 (.ofNat aM)),(27,.int .i64 (.ofNat 0))] [] .none h) (λca ck=>∃al:ab,∃bW:Env,ca=.exit 0/\ck=au.mk bW [] .none al/\cd [(0,.ptr p 0),(1,.ptr r 0),(5,.fn 19 [.ptr p 0] []),(6,.ptr e 0),(7,.ptr w 0)] bW/\Q .nrm (au.mk [(0,.ptr p 0),(1,.ptr r 0),(5,.fn 19 [.ptr p 0] []),(6,.ptr e 0),(7,.ptr w 0)] [] .none al))):
  a4 Tryd.prog Tryd.f19 call [1,1,1,1,0] ⟨[(0,.ptr p 0),(1,.ptr r 0),(5,.fn 19 [.ptr p 0] []),(6,.ptr e 0),(7,.ptr w 0)],[],.none,h⟩ Q:=
 dZ [(25,.a9 .o),(4000,.hH [0,1,5,6,7,25,26,27] [(.exit 0,[(0,.is (.ptr p 0)),(1,.is (.ptr r 0)),(5,.is (.fn 19 [.ptr p 0] [])),(6,.is (.ptr e 0)),(7,.is (.ptr w 0))])])] [0,1,5,6,7] [(0,.v (.ptr p 0)),(1,.v (.ptr r 0)),(5,.v (.fn 19 [.ptr p 0] [])),(6,.v (.ptr e 0)),(7,.v (.ptr w 0))] rfl (Eq.mp (by kernel_rfl) H)
theorem Vm(call:bt)(p r e w b off N i:Nat)(cp:c7)(h:ab){Q:bk->au->Prop}(H:(i<N->i<N/\∃aM:Nat,aB h b (off+i*1)=some (.ptr aM 0)/\∃bo:Nat,∃al:ab,call (.fn 19) [.ptr p 0,.ptr aM 0] h=.ret (.int .u64 (.ofNat bo)) al/\∃v1:I,aB al e (0+6)=some v1/\∃v2:I,∃aA:ab,eh Tryd.prog (ab.push al (.cells [.int .u64 (.ofNat bo)] 28 .own 0 0)) 46 (some 46) v1 (.slice al.n 0 1 (.exact 1))=some (v2,aA)/\I.cw v2=true/\∃aU:ab,a8.storeCells aA e (0+6) [v2]=some aU/\∃s1:List UInt8,∃bB:ab,call (.fn 26) [.int .u64 (.ofNat bo)] aU=.ret (.str s1) bB/\∃bF:Nat,∃eE:I,∃bO:ab,call (.fn 25) [.ptr w 0,.str s1] bB=.ret (.aJ [.int .i64 (.ofNat bF),eE]) bO/\i+1<9223372036854775808/\Q .nrm (au.mk [(0,.ptr p 0),(1,.ptr r 0),(5,.fn 19 [.ptr p 0] []),(6,.ptr e 0),(7,.ptr w 0),(25,.slice b off N cp),(26,.int .i64 (.ofNat N)),(27,.int .i64 (.ofNat (i+1)))] [] .none bO))/\(¬i<N->Q (.exit 0) (au.mk [(0,.ptr p 0),(1,.ptr r 0),(5,.fn 19 [.ptr p 0] []),(6,.ptr e 0),(7,.ptr w 0),(25,.slice b off N cp),(26,.int .i64 (.ofNat N)),(27,.int .i64 (.ofNat i))] [] .none h))):
  a4 Tryd.prog Tryd.f19 call [1,1,1,1,0,1,0,0] ⟨[(0,.ptr p 0),(1,.ptr r 0),(5,.fn 19 [.ptr p 0] []),(6,.ptr e 0),(7,.ptr w 0),(25,.slice b off N cp),(26,.int .i64 (.ofNat N)),(27,.int .i64 (.ofNat i))],[],.none,h⟩ Q:=
 dZ [] [0,1,5,6,7,25,26,27] [(0,.v (.ptr p 0)),(1,.v (.ptr r 0)),(5,.v (.fn 19 [.ptr p 0] [])),(6,.v (.ptr e 0)),(7,.v (.ptr w 0)),(25,.v (.slice b off N cp)),(26,.v (.int .i64 (.ofNat N))),(27,.v (.int .i64 (.ofNat i)))] rfl (Eq.mp (by kernel_rfl) H)
theorem Vn(call:bt)(p r e w:Nat)(v:I)(h:ab){Q:bk->au->Prop}(H:¬0<0/\Q (.exit 0) (au.mk [(0,.ptr p 0),(1,.ptr r 0),(5,.fn 19 [.ptr p 0] []),(6,.ptr e 0),(7,.ptr w 0)] [] .none h)):
  a4 Tryd.prog Tryd.f19 call [1,1,1,1,0,1,0,0] ⟨[(0,.ptr p 0),(1,.ptr r 0),(5,.fn 19 [.ptr p 0] []),(6,.ptr e 0),(7,.ptr w 0),(25,v),(26,.int .i64 (.ofNat 0)),(27,.int .i64 (.ofNat 0))],[],.none,h⟩ Q:=
 dZ [(1028,.f)] [0,1,5,6,7] [(0,.v (.ptr p 0)),(1,.v (.ptr r 0)),(5,.v (.fn 19 [.ptr p 0] [])),(6,.v (.ptr e 0)),(7,.v (.ptr w 0)),(25,.o v),(26,.v (.int .i64 (.ofNat 0))),(27,.v (.int .i64 (.ofNat 0)))] rfl (Eq.mp (by kernel_rfl) H)
theorem Vo(call:bt)(p r e w:Nat)(h:ab){Q:bk->au->Prop}(H:∃aM:Nat,aB (h.room 19) r (0+0)=some (.int .i64 (.ofNat aM))/\∃s1:List UInt8,aB (h.room 19) r (0+1)=some (.str s1)/\∃v1:I,aB (h.room 19) r (0+2)=some v1/\∃s2:List UInt8,∃al:ab,call (.fn 27) [v1,.str [32]] (h.room 19)=.ret (.str s2) al/\∃cq:List UInt8,∃aA:ab,call (.fn 28) [.ptr w 0] al=.ret (.str cq) aA/\∃aU:ab,a8.storeCells aA e (0+0) [.int .i64 (.ofNat aM),.str s1,.str s2,.str cq,.int .u64 (.ofNat 0)]=some aU/\aB aA r (0+0)=some (.int .i64 (.ofNat aM))/\aB al r (0+0)=some (.int .i64 (.ofNat aM))/\aB aA r (0+1)=some (.str s1)/\aB al r (0+1)=some (.str s1)/\I.sound v1=true/\Q .nrm (au.mk [(0,.ptr p 0),(1,.ptr r 0),(5,.fn 19 [.ptr p 0] []),(6,.ptr e 0)] [] .none aU)):
  a4 Tryd.prog Tryd.f19 call [1,1,1,1,1,0] ⟨[(0,.ptr p 0),(1,.ptr r 0),(5,.fn 19 [.ptr p 0] []),(6,.ptr e 0),(7,.ptr w 0)],[],.none,h⟩ Q:=
 dZ [] [0,1,5,6] [(0,.v (.ptr p 0)),(1,.v (.ptr r 0)),(5,.v (.fn 19 [.ptr p 0] [])),(6,.v (.ptr e 0)),(7,.v (.ptr w 0))] rfl (Eq.mp (by kernel_rfl) H)
theorem Vp(call:bt)(p r e:Nat)(h:ab){Q:bk->au->Prop}(H:∃aM:Nat,aB h r (0+4)=some (.ptr aM 0)/\∃bo:Nat,aB h r (0+4)=some (.ptr bo 0)/\∃bF:Nat,∃al:ab,call (.fn 19) [.ptr p 0,.ptr bo 0] h=.ret (.int .u64 (.ofNat bF)) al/\∃aA:ab,a8.storeCells al e (0+0+4) [.int .u64 (.ofNat bF)]=some aA/\Q .nrm (au.mk [(0,.ptr p 0),(6,.ptr e 0)] [] .none aA)):
  a4 Tryd.prog Tryd.f19 call [1,1,1,1,1,1,0] ⟨[(0,.ptr p 0),(1,.ptr r 0),(5,.fn 19 [.ptr p 0] []),(6,.ptr e 0)],[],.none,h⟩ Q:=
 dZ [(69,.a9 .p)] [0,6] [(0,.v (.ptr p 0)),(1,.v (.ptr r 0)),(5,.v (.fn 19 [.ptr p 0] [])),(6,.v (.ptr e 0))] rfl (Eq.mp (by kernel_rfl) H)
theorem Vq(call:bt)(p r e:Nat)(h:ab){Q:bk->au->Prop}(H:aB h r (0+4)=some .br/\Q .nrm (au.mk [(0,.ptr p 0),(6,.ptr e 0)] [] .none h)):
  a4 Tryd.prog Tryd.f19 call [1,1,1,1,1,1,0] ⟨[(0,.ptr p 0),(1,.ptr r 0),(5,.fn 19 [.ptr p 0] []),(6,.ptr e 0)],[],.none,h⟩ Q:=
 dZ [(69,.a9 (.is .br))] [0,6] [(0,.v (.ptr p 0)),(1,.v (.ptr r 0)),(5,.v (.fn 19 [.ptr p 0] [])),(6,.v (.ptr e 0))] rfl (Eq.mp (by kernel_rfl) H)
theorem KO(call:bt)(p e aR bD:Nat)(h:ab){Q:bk->au->Prop}(H:∃aM:Nat,aB h p (0+2)=some (.int .u64 (.ofNat aM))/\aM+1<18446744073709551616/\∃al:ab,a8.storeCells h p (0+2) [.int .u64 (.ofNat (aM+1))]=some al/\aB (al.room 14) p (0+4)=some (.map bD)/\∃bo:Nat,∃s1:List UInt8,∃s2:List UInt8,∃cq:List UInt8,∃bF:Nat,a8.loadCells (al.room 14) e (0+0) 5=some [.int .i64 (.ofNat bo),.str s1,.str s2,.str cq,.int .u64 (.ofNat bF)]/\∃b4:Nat,∃bn:Bool,gv Tryd.prog (al.room 14) 53 (.map bD) (.agg [.int .i64 (.ofNat bo),.str s1,.str s2,.str cq,.int .u64 (.ofNat bF)]) true=some (.aJ [.int .u64 (.ofNat b4),.bool bn])/\(bn=true->aB (ab.room (al.room 14) 13) p (0+3)=some (.map aR)/\∃cy:Nat,gv Tryd.prog (ab.room (al.room 14) 13) 52 (.map aR) (.int .u64 (.ofNat b4)) false=some (.ptr cy 0)/\∃cO:Nat,aB (ab.room (al.room 14) 13) p (0+2)=some (.int .u64 (.ofNat cO))/\∃aA:ab,a8.storeCells (ab.room (al.room 14) 13) cy (0+9) [.int .u64 (.ofNat cO)]=some aA/\Q .ret (au.mk [(4,.int .u64 (.ofNat b4))] [] .none aA))/\(bn=false->∃di:Nat,aB (al.room 14) p (0+1)=some (.int .u64 (.ofNat di))/\di+1<18446744073709551616/\∃aU:ab,a8.storeCells (al.room 14) p (0+1) [.int .u64 (.ofNat (di+1))]=some aU/\∃fu:Nat,aB aU p (0+1)=some (.int .u64 (.ofNat fu))/\aB (aU.room 21) p (0+4)=some (.map bD)/\∃gJ:Nat,∃b9:List UInt8,∃cg:List UInt8,∃cT:List UInt8,∃fT:Nat,a8.loadCells (aU.room 21) e (0+0) 5=some [.int .i64 (.ofNat gJ),.str b9,.str cg,.str cT,.int .u64 (.ofNat fT)]/\aB (aU.room 21) p (0+3)=some (.map aR)/\∃ib:Nat,∃iw:Nat,∃bB:ab,nr Tryd.prog (aU.room 21) 53 (.map bD) (.agg [.int .i64 (.ofNat gJ),.str b9,.str cg,.str cT,.int .u64 (.ofNat fT)])=some (.aJ [.int .u64 (.ofNat ib),.int .i64 (.ofNat iw)],bB)/\∃bO:ab,(nt bB (.map bD) (.int .i64 (.ofNat iw)) (.int .u64 (.ofNat fu))=some bO/\I.aJ []=.aJ [])/\∃o9:Nat,∃dK:ab,nr Tryd.prog bO 52 (.map aR) (.int .u64 (.ofNat fu))=some (.aJ [.br,.int .i64 (.ofNat o9)],dK)/\∃fq:ab,(nt dK (.map aR) (.int .i64 (.ofNat o9)) (.ptr e 0)=some fq/\I.aJ []=.aJ [])/\∃gT:ab,call (.fn 29) [.ptr p 0,.ptr e 0,.int .i64 (.ofNat 1)] fq=.ret (.aJ []) gT/\aB (gT.room 13) p (0+3)=some (.map aR)/\∃zH:Nat,gv Tryd.prog (gT.room 13) 52 (.map aR) (.int .u64 (.ofNat fu)) false=some (.ptr zH 0)/\∃zI:Nat,aB (gT.room 13) p (0+2)=some (.int .u64 (.ofNat zI))/\∃kY:ab,a8.storeCells (gT.room 13) zH (0+9) [.int .u64 (.ofNat zI)]=some kY/\Q .ret (au.mk [(4,.int .u64 (.ofNat fu))] [] .none kY))):
  a4 Tryd.prog Tryd.f19 call [1,1,1,1,1,1,1] ⟨[(0,.ptr p 0),(6,.ptr e 0)],[],.none,h⟩ Q:=
 dZ [(92,.a9 (.is (.map bD))),(97,.a9 (.g_ [.n .u64,.b])),(116,.a9 (.is (.map bD))),(124,.a9 (.is (.map aR))),(128,.a9 (.g_ [.n .u64,.n .i64])),(130,.a9 (.g_ [.is .br,.n .i64])),(138,.a9 (.is (.map aR))),(140,.a9 .p)] [4] [(0,.v (.ptr p 0)),(6,.v (.ptr e 0))] rfl (Eq.mp (by kernel_rfl) H)
theorem Vr(n b B:Nat)(h:ab)(w:List UInt8)(ae:ix B b h w)(ar:w.length<=1000000000):∃ao,Y (n+1) (.fn 28) [.ptr b 0] h=.ret (.str w) ao/\Ext B h ao/\∀d,d<h.n->ia 5 (h.get d)->ao.get d=h.get d:=by
 obtain⟨a,v,g,aw,aD,jy,aH,oK⟩:=ae
 rcases aD with⟨rfl,rfl⟩|⟨c,rest,rfl,af,tH,nP⟩
 · have iV:nk Tryd.prog (ab.room h 12) 95 I.br (I.int IntKind.i64 (Int.ofNat 0))=some (.str [],ab.room h 12):=by kernel_rfl
   exact⟨_,fH (intr:=b5) (n:=n) (args:=[.ptr b 0]) Tryd.func28 (by kernel_rfl) rfl (by kernel_rfl) (JA (Y n) b h [] _ (a_ (h:=h.room 12) g rfl) iV) (.inl rfl) (by kernel_rfl),Ext.room _ _ _,λd _ _=>rfl⟩
 · by_cases hw:w=[]
   · exact absurd (oK hw) (by simp)
   · have cF:w.length≠0:=by cases w<;>simp at hw⊢
     have dY:g5 Tryd.prog Builtin.unsafeSliceData (Array.mk [22]) [I.slice c 0 w.length (c7.aS 1)] (ab.room h 12)=fW.val (I.ptr c 0) (ab.room h 12):=by
      simp only[g5]
      exact if_neg cF
     have iV:=HQ (P:=Tryd.prog) (h:=h.room 12) (pT:=95) (u:=5) (c:=c) (e:=5) (w:=w) (rest:=rest) hw (by omega) (by kernel_rfl) (by kernel_rfl) (by kernel_rfl) af
     exact⟨_,fH (intr:=b5) (n:=n) (args:=[.ptr b 0]) Tryd.func28 (by kernel_rfl) rfl (by kernel_rfl) (Jz (Y n) b c w.length h w _ (a_ (h:=h.room 12) g rfl) dY iV) (.inl rfl) (by kernel_rfl),
      (Ext.room B h 12).trans (Nat.le_refl _) (Ext.set (by omega) _),λd ak ai=>c5 (λe=>by subst e;exact ai _ _ _ af) rfl⟩
def Loc(F:Nat->Prop)(h:ab)(e w:Nat)(bZ bf:I)(d:Nat):Prop:=d<h.n/\(F d\/d=e\/d=w\/(∃k cp,bZ=.slice d 0 k cp)\/(∃k cp,bf=.slice d 0 k cp)\/¬ia 5 (h.get d))
abbrev ks(a9:List I)(bZ bf:I):cX:=.cells (a9++[bZ,bf,.int .i64 (Int.ofNat 0),.int .i64 (Int.ofNat 0),.int .u64 (Int.ofNat 0)]) 60 .own 0 0
abbrev lL:List I:=[.int .i64 (Int.ofNat 0),.str [],.str [],.str [],.int .u64 (Int.ofNat 0)]
structure jW(F:Nat->Prop)(h0:ab)(p e w:Nat)(bZ bf:I)(ns:List a5)(ids:List Nat)(a9:List I)(s:b7)(y:ab):Prop where
 st:fU (Loc F y e w bZ bf) y p s
 fM:bA F h0 y
 dz:y.get e=some (ks a9 bZ bf)
 ns:na h0.n y bZ ns
 az:su h0.n y bf ids
 da:h0.n<=e
 sD:e<w
 iG:w<y.n
def KP(n:Nat)(t:aZ):Prop:=∀(F:Nat->Prop) (h:ab) (p:Nat) (v:I) (s:b7),fU F h p s->dG s->(∀e∈s.l,e.args.length<=61/\ig e.ns)->s.clock+sz t<=10000->s.given+sz t<=10000->(∀b,F b->b<h.n)->fL F h t v->∃g,Y n (.fn 19) [.ptr p 0,v] h=.ret (.int .u64 (Int.ofNat (cC t s).1)) g/\fU F g p (cC t s).2/\bA F h g
theorem fU.move{F G:Nat->Prop}{h g:ab}{p:Nat}{s:b7}(w:fU F h p s)(aH:h.n<=g.n)(an:∀d,d<h.n->¬F d->ia 5 (h.get d)->g.get d=h.get d)(lj:∀d,d<h.n->G d->F d\/¬ia 5 (h.get d)):fU G g p s:=by
 obtain⟨aR,bD,aT,bp,M,cz,r⟩:=w
 exact⟨aR,bD,aT,bp,M,cz.move aH an lj,r⟩
theorem Vs(t:aZ){s:b7}(hs:dG s)(aj:s.given+sz t<=10000):(cC t s).1<18446744073709551616:=by
 obtain⟨ok,_,q,aE,lF⟩:=pd t hs
 have aa:=(ok.aY q aE).2.1
 have ad:=(Ak t s).2.1
 omega
theorem uG{h:ab}{d:Nat}{cs bw:List I}{el q7 aY up:Nat}(aa:h.get d=some (.cells cs el .aS aY up))(ad:h.get d=some (.cells bw q7 .own 0 0)):False:=by rw[aa] at ad;cases ad
theorem Es:∀l:List Nat,(dI l).length=8*l.length
 |[]=>rfl
 |a::l=>by
  show(hx a++dI l).length=_
  rw[List.length_append,ss,Es l,List.length_cons];omega
theorem Vt(m:Nat){F:Nat->Prop}{h0:ab}{p e w B:Nat}{bZ bf v:I}{ns:List a5}{ids:List Nat}{s:b7}{y:ab}{t:aZ}(e6:∀b,F b->b<h0.n)(ch:jW F h0 p e w bZ bf ns ids lL s y)(ae:ix B w y (dI ids))(YC:h0.n<=B)(YD:e<B)(xm:KP (m+3) t)(hs:dG s)(fa:∀e∈s.l,e.args.length<=61/\ig e.ns)(an:s.clock+sz t<=10000)(aj:s.given+sz t<=10000)(aD:fL F h0 t v)(ar:ids.length<=1000):
  ∃al,Y (m+3) (.fn 19) [.ptr p 0,v] y=.ret (.int .u64 (Int.ofNat (cC t s).1)) al/\aB al e (0+6)=some bf/\
  ∃jX aA,eh Tryd.prog (al.push (.cells [hO (cC t s).1] 28 .own 0 0)) 46 (some 46) bf (.slice al.n 0 1 (.exact 1))=some (jX,aA)/\jX.cw=true/\
  ∃aU,a8.storeCells aA e (0+6) [jX]=some aU/\
  ∃bB,Y (m+3) (.fn 26) [.int .u64 (Int.ofNat (cC t s).1)] aU=.ret (.str (hx (cC t s).1)) bB/\
  ∃bO,Y (m+3) (.fn 25) [.ptr w 0,.str (hx (cC t s).1)] bB=.ret (.aJ [.int .i64 (Int.ofNat (hx (cC t s).1).length),.ea]) bO/\jW F h0 p e w bZ jX ns (ids++[(cC t s).1]) lL (cC t s).2 bO/\ix B w bO (dI (ids++[(cC t s).1])):=by
 obtain⟨st,fM,dz,h5,uF,da,sD,iG⟩:=ch
 obtain⟨YE,bv,KQ,_,_,YF,YG,_⟩:=id ae
 have YH:=fM.n
 have Vu:fL (Loc F y e w bZ bf) y t v:=fL.cL (λb ae=>⟨⟨by have:=e6 b ae;omega,.inl ae⟩,fM.get b (e6 b ae) ae⟩) _ _ aD
 obtain⟨al,aT,st1,bJ⟩:=xm _ y p v s st hs fa an aj (λb ae=>ae.1) Vu
 obtain⟨id,gU⟩:∃id,id=(cC t s).1:=⟨_,rfl⟩
 have xn:=Vs t hs aj
 rw[<-gU] at aT xn⊢
 have aM:=bJ.n
 have ge:al.get e=some (ks lL bZ bf):=(bJ.get e (by omega) ⟨by omega,.inr (.inl rfl)⟩).trans dz
 have YI:al.get w=y.get w:=bJ.get w iG ⟨iG,.inr (.inr (.inl rfl))⟩
 obtain⟨H,cQ⟩:∃H,H=al.push (.cells [hO id] 28 .own 0 0):=⟨_,rfl⟩
 have n6:H.n=al.n+1:=by rw[cQ];rfl
 have dU:Ext al.n al H:=by rw[cQ];exact Ext.push (Nat.le_refl _) _
 have sE:∀d k cp,bf=.slice d 0 k cp->d<y.n/\h0.n<=d/\∃cs,y.get d=some (.cells cs 28 .aS 0 0):=by
  intro d k cp ak
  rcases uF with⟨rfl,_⟩|⟨q,rfl,_,b1,gy,iU⟩
  · cases ak
  · cases ak;exact⟨iU,gy,_,b1⟩
 have xo:∀d k cp,bZ=.slice d 0 k cp->d<y.n/\h0.n<=d/\∃cs,y.get d=some (.cells cs 9 .aS 0 0):=by
  intro d k cp ak
  rcases h5 with⟨rfl,_⟩|⟨q,rfl,_,b1,gy,iU⟩
  · cases ak
  · cases ak;exact⟨iU,gy,_,b1⟩
 have Vv:su h0.n H bf ids:=cH.cL uF (by omega) λq aE ku=>(dU.get q (by omega)).trans (bJ.get q ku ⟨ku,.inr (.inr (.inr (.inr (.inl ⟨_,_,aE⟩))))⟩)
 obtain⟨aA,b8,cG,dw,gF,gf⟩:=z1 Ad Vv (by omega) (d:=id) (src:=.slice al.n 0 1 (.exact 1)) (by rw[cQ];exact wh Ad al 28 id) (by omega)
 have Vw:∀k cp,bf≠ .slice e 0 k cp:=λk cp ak=>by
  obtain⟨_,_,cs,af⟩:=sE e k cp ak
  exact uG af dz
 have Vx:∀k cp,bf≠ .slice w 0 k cp:=λk cp ak=>by
  obtain⟨_,_,cs,af⟩:=sE w k cp ak
  exact uG af KQ
 have Vy:aA.get e=some (ks lL bZ bf):=((gf e (by omega) Vw).trans (dU.get e (by omega))).trans ge
 obtain⟨jX,xp⟩:∃jX,jX=I.slice H.n 0 (ids++[id]).length (.aS 1):=⟨_,rfl⟩
 rw[<-xp] at b8
 obtain⟨aU,fP⟩:∃aU,aU=aA.set e (some (ks lL bZ jX)):=⟨_,rfl⟩
 have bF:aU.n=aA.n:=by rw[fP];rfl
 have cq:a8.storeCells aA e (0+6) [jX]=some aU:=by rw[fP,xp];exact gn Vy rfl rfl
 obtain⟨bB,gl,eO⟩:=Uz (m+2) id aU xn
 have b4:=eO.n
 have sF:∀d,d<al.n->d≠e->(∀k cp,bf≠ .slice d 0 k cp)->bB.get d=al.get d:=λd ak ng Et=>by
  refine(eO.get d (by omega)).trans ?_
  rw[fP]
  exact(c5 ng rfl).trans ((gf d (by omega) Et).trans (dU.get d ak))
 have gG:ix B w bB (dI ids):=ix.KM ae (by omega) λd ak xq=>by
  have iq:Loc F y e w bZ bf d:=by
   rcases xq with rfl|ai
   · exact⟨ak,.inr (.inr (.inl rfl))⟩
   · exact⟨ak,.inr (.inr (.inr (.inr (.inr ai))))⟩
  refine(sF d (by omega) ?_ λk cp af=>?_).trans (bJ.get d ak iq)
  · rintro rfl
    rcases xq with h|h
    · omega
    · exact h (by rw[dz];exact xi)
  · obtain⟨_,_,cs,g6⟩:=sE d k cp af
    rcases xq with rfl|h
    · exact Vx _ _ af
    · exact h (by rw[g6];exact sw (by decide))
 have jE:=Es ids
 obtain⟨bO,kq,qk,iF⟩:=zJ m w B bB (dI ids) (hx id) gG (by rw[jE,ss];omega)
 have cy:=iF.x.n
 have sG:∀d,d<al.n->d≠e->d≠w->(∀k cp,bf≠ .slice d 0 k cp)->ia 5 (al.get d)->bO.get d=al.get d:=λd ak ng xq Et ai=>by
  have aC:=sF d ak ng Et
  exact(iF.k d (by omega) xq (by rw[aC];exact ai)).trans aC
 have iR:bO.get e=some (ks lL bZ jX):=by
  have aC:bB.get e=some (ks lL bZ jX):=(eO.get e (by omega)).trans (by rw[fP];exact ft rfl)
  exact(iF.k e (by omega) (by omega) (by rw[aC];exact xi)).trans aC
 have Vz:su h0.n bO jX (ids++[id]):=by
  refine .inr ⟨H.n,xp,by simp,?_,by omega,by omega⟩
  have aC:bB.get H.n=some (.cells (dS (λd=>[hO d]) (ids++[id])) 28 .aS 0 0):=(eO.get _ (by omega)).trans (by rw[fP];exact(c5 (by omega) rfl).trans cG)
  exact(iF.k _ (by omega) (by omega) (by rw[aC];exact sw (by decide))).trans aC
 have VA:na h0.n bO bZ ns:=cH.cL h5 (by omega) λq aE ku=>by
  obtain⟨_,_,cs,g6⟩:=xo q _ _ aE
  have qt:al.get q=y.get q:=bJ.get q ku ⟨ku,.inr (.inr (.inr (.inl ⟨_,_,aE⟩)))⟩
  refine(sG q (by omega) ?_ ?_ (λk cp af=>?_) (by rw[qt,g6];exact sw (by decide))).trans qt
  · rintro rfl;exact uG g6 dz
  · rintro rfl;exact uG g6 KQ
  · obtain⟨_,_,bw,uH⟩:=sE q k cp af
    rw[g6] at uH
    injection uH with uH;injection uH with _ uH
    exact absurd uH (by decide)
 have aL:dI (ids++[id])=dI ids++hx id:=by simp[dI]
 subst cQ
 refine⟨al,aT,a_ ge rfl,jX,aA,b8,by rw[xp];rfl,aU,cq,bB,gl,bO,kq,⟨?_,?_,iR,VA,Vz,da,sD,by omega⟩,by rw[aL];exact qk⟩
 · refine st1.move (by omega) (λd ak kR ai=>?_) (λd ak iq=>?_)
   · refine sG d ak (λh=>?_) (λh=>?_) (λk cp af=>?_) ai
     · subst h;exact kR ⟨by omega,.inr (.inl rfl)⟩
     · subst h;exact kR ⟨by omega,.inr (.inr (.inl rfl))⟩
     · exact kR ⟨(sE d k cp af).1,.inr (.inr (.inr (.inr (.inl ⟨_,_,af⟩))))⟩
   · obtain⟨_,oG⟩:=iq
     rcases oG with h|h|h|h|h|h
     · exact .inl ⟨by have:=e6 d h;omega,.inl h⟩
     · exact .inl ⟨by omega,.inr (.inl h)⟩
     · exact .inl ⟨by omega,.inr (.inr (.inl h))⟩
     · obtain⟨k,cp,h⟩:=h
       exact .inl ⟨(xo d k cp h).1,.inr (.inr (.inr (.inl ⟨_,_,h⟩)))⟩
     · obtain⟨k,cp,h⟩:=h
       rw[xp] at h
       cases h
       omega
     · by_cases iq:Loc F y e w bZ bf d
       · exact .inl iq
       · refine .inr λai=>h ?_
         rw[sG d ak (λh=>?_) (λh=>?_) (λk cp af=>?_) ai]
         · exact ai
         · subst h;exact iq ⟨by omega,.inr (.inl rfl)⟩
         · subst h;exact iq ⟨by omega,.inr (.inr (.inl rfl))⟩
         · exact iq ⟨(sE d k cp af).1,.inr (.inr (.inr (.inr (.inl ⟨_,_,af⟩))))⟩
 · refine⟨by omega,λd ak hf=>?_⟩
   have VB:∀k cp,bf≠ .slice d 0 k cp:=λk cp af=>by have:=(sE d k cp af).2.1;omega
   exact(iF.x.get d (by omega) (by omega)).trans ((sF d (by omega) (by omega) VB).trans ((bJ.get d (by omega) ⟨by omega,.inl hf⟩).trans (fM.get d ak hf)))
theorem KR(i:Nat):∀a b:List bI,dE i (a++b)=dE i a+dE i b
 |[],b=>by rw[List.nil_append,dE];omega
 |x::a,b=>by rw[List.cons_append,dE,KR i a b,dE];omega
theorem Eu(i:Nat){f:bI->bI}(hf:∀e,(f e).parts=e.parts):∀l:List bI,dE i (l.map f)=dE i l
 |[]=>rfl
 |x::l=>by rw[List.map_cons,dE,hf,Eu i hf l,dE]
theorem KS(c:Nat):uC λy=>{y with e:={y.e with used:=c}}:=⟨λ_=>rfl,λ_=>rfl,λ_=>rfl,λ_=>rfl,λ_=>rfl,λ_=>rfl,λ_=>rfl,λ_=>rfl,λ_=>rfl⟩
theorem KT(i c:Nat)(M:List Mem):(k0 i (λy=>{y with e:={y.e with used:=c}}) M).map Mem.e=(M.map Mem.e).map (eL i c):=by
 unfold k0
 rw[List.map_map,List.map_map]
 refine List.map_congr_left λy _=>?_
 show(if y.e.id=i then({y with e:={y.e with used:=c}}:Mem) else y).e=eL i c y.e
 unfold eL
 split<;>rfl
theorem KU{i c:Nat}{M:List Mem}{y:Mem}(aO:y∈k0 i (λy=>{y with e:={y.e with used:=c}}) M):∃z∈M,y.ak=z.ak/\y.e.id=z.e.id:=by
 obtain⟨z,aP,rfl⟩:=List.mem_map.1 aO
 refine⟨z,aP,?_⟩
 split<;>exact⟨rfl,rfl⟩
theorem VC(m:Nat){F:Nat->Prop}{h0:ab}{p e w k r:Nat}{nm:a5}{bZ bf:I}{ns:List a5}{ids:List Nat}{s:b7}{y:ab}(e6:∀b,F b->b<h0.n)(ch:jW F h0 p e w bZ bf ns ids [.int .i64 (Int.ofNat k),.str nm,.str (fe ns),.str (dI ids),.int .u64 (Int.ofNat r)] s y)(hs:dG s)(fa:∀e∈s.l,e.args.length<=61/\ig e.ns)(VD:s.clock+1<=10000)(VE:s.given+1<=10000)(aH:ig ns)(ar:ids.length<=61)(gU:∀i∈ids,i<18446744073709551616):a4 Tryd.prog Tryd.f19 (Y (m+3)) [1,1,1,1,1,1,1] ⟨[(0,.ptr p 0),(6,.ptr e 0)],[],.none,y⟩ (λca st=>ca=.ret/\∃g,st=⟨[(4,.int .u64 (Int.ofNat (ic k nm ns ids r s).1))],[],.none,g⟩/\fU F g p (ic k nm ns ids r s).2/\bA F h0 g):=by
 obtain⟨st,fM,dz,h5,uF,da,sD,iG⟩:=ch
 obtain⟨aR,bD,aT,bp,M,fO,eM⟩:=st
 have bV:od s:=⟨λe he=>(fa e he).1,λe he=>(fa e he).2,by omega,by omega⟩
 have w:e7 F y p aR bD aT bp s.cap s.given s.clock M:=fO.move (Nat.le_refl _) (λd _ _ _=>rfl) λd ak hf=>.inl ⟨ak,.inl hf⟩
 have yb:p≠e:=λh=>by
  have:=w.st
  rw[h,dz] at this
  injection this with this;injection this with _ this
  exact absurd this (by decide)
 have KV:¬F e:=λh=>by have:=e6 e h;omega
 have Ao:∀x∈M,x.e∈s.l:=λx J=>by rw[<-eM.e];exact List.mem_map.2 ⟨x,J,rfl⟩
 have Ap:∀x∈M,gr k nm (fe ns) (dI ids) r x=x.e.is k nm ns ids r:=λx J=>Kg (bV.nm _ (Ao x J)) aH (Ek hs bV (Ao x J)) gU
 obtain⟨al,dP⟩:∃al,al=y.set p (some (uy s.cap s.given (s.clock+1) aR bD)):=⟨_,rfl⟩
 have st1:a8.storeCells y p (0+2) [.int .u64 (Int.ofNat (s.clock+1))]=some al:=by rw[dP];exact gn w.st rfl rfl
 have cz:=w.head s.given (s.clock+1)
 rw[<-dP] at cz
 have aM:al.n=y.n:=by rw[dP];rfl
 have bJ:bA F y al:=by rw[dP];exact bA.set w.nd.1
 have KW:al.get e=y.get e:=by rw[dP];exact c5 (λh=>yb h.symm) rfl
 have qM:=cz.ext (Ext.room al.n al 14)
 have KX:(al.room 14).get e=some (ks [.int .i64 (Int.ofNat k),.str nm,.str (fe ns),.str (dI ids),.int .u64 (Int.ofNat r)] bZ bf):=KW.trans dz
 cases hf:s.l.find? (bI.is k nm ns ids r) with
 |some cn=>
  have VF:=List.mem_of_find?_eq_some hf
  have ey:cn.is k nm ns ids r=true:=List.find?_some hf
  obtain⟨x,J,k1⟩:=List.mem_map.1 (eM.e▸VF:cn∈M.map Mem.e)
  subst k1
  have aE:gr k nm (fe ns) (dI ids) r x=true:=(Ap x J).trans ey
  have xj:M.Pairwise λa b=>¬(gr k nm (fe ns) (dI ids) r a=true/\gr k nm (fe ns) (dI ids) r b=true):=by
   have VG:M.Pairwise λa b=>b.e.is a.e.k a.e.nm a.e.ns a.e.args a.e.ret=false:=by
    have:=hs.apart
    rw[<-eM.e,List.pairwise_map] at this
    exact this
   refine(List.Pairwise.and_mem.1 VG).imp λ{a b} ⟨aw,ae,eA⟩ ⟨aV,ba⟩=>?_
   rw[Ap a aw] at aV
   rw[Ap b ae] at ba
   obtain⟨b8,cG,dw,gF,gf⟩:=pc.1 aV
   obtain⟨bn,cJ,dr,gG,qk⟩:=pc.1 ba
   rw[pc.2 ⟨bn.trans b8.symm,cJ.trans cG.symm,dr.trans dw.symm,gG.trans gF.symm,qk.trans gf.symm⟩] at eA
   cases eA
  have dp:=Uj qM.av xj J aE
  have uI:=qM.ext (Ext.room (al.room 14).n (al.room 14) 13)
  have nK:=uI.dz x J
  have hle:ic k nm ns ids r s=(x.e.id,{s with clock:=s.clock+1,l:=s.l.map (eL x.e.id (s.clock+1))}):=by unfold ic;rw[hf]
  rw[hle]
  have cA:=uI.eG J (KS (s.clock+1))
  refine KO (Y (m+3)) p e aR bD y ⟨s.clock,a_ w.st rfl,by omega,al,st1,a_ qM.st rfl,k,nm,fe ns,dI ids,r,oW KX rfl,x.e.id,true,dp,λ_=>⟨a_ uI.st rfl,x.b,sr uI.ax uI.up J false,s.clock+1,a_ uI.st rfl,_,gn nK rfl rfl,rfl,_,rfl,⟨aR,bD,aT,bp,_,cA,⟨?_,?_⟩⟩,?_⟩,λh=>by cases h⟩
  · show _=s.l.map (eL x.e.id (s.clock+1))
    rw[KT,eM.e]
  · intro z aP
    obtain⟨v,aD,ax,av⟩:=KU aP
    show z.ak=Int.ofNat (dE z.e.id (s.l.map (eL x.e.id (s.clock+1))))
    rw[ax,av,eM.ak v aD,Eu _ λq=>(D1 x.e.id (s.clock+1) q).parts]
  · exact(fM.trans bJ).trans (((bA.ext (Ext.room _ _ _)).trans (bA.ext (Ext.room _ _ _))).trans (bA.set (b:=x.b) (w.ne x J)))
 |none=>
  have mS:=List.find?_eq_none.1 hf
  have qm:∀x∈M,gr k nm (fe ns) (dI ids) r x=false:=λx J=>by
   rw[Ap x J]
   simpa using mS x.e (Ao x J)
  have dp:=Uk qM.av qm
  have hle:ic k nm ns ids r s=(s.given+1,{s with given:=s.given+1,clock:=s.clock+1,l:=s.l++[⟨s.given+1,k,nm,ns,ids,r,0,s.clock+1⟩]}):=by unfold ic;rw[hf]
  rw[hle]
  obtain⟨aU,fP⟩:∃aU,aU=(al.room 14).set p (some (uy s.cap (s.given+1) (s.clock+1) aR bD)):=⟨_,rfl⟩
  have DY:a8.storeCells (al.room 14) p (0+1) [.int .u64 (Int.ofNat (s.given+1))]=some aU:=by rw[fP];exact gn qM.st rfl rfl
  have jo:=qM.head (s.given+1) (s.clock+1)
  rw[<-fP] at jo
  have bF:aU.n=al.n+14:=by rw[fP];rfl
  have e_:bA F y aU:=bJ.trans ((bA.ext (Ext.room _ _ _)).trans (by rw[fP];exact bA.set w.nd.1))
  have VH:aU.get e=y.get e:=by rw[fP];exact(c5 (λh=>yb h.symm) rfl).trans KW
  have uJ:=jo.ext (Ext.room aU.n aU 21)
  obtain⟨R,g8⟩:∃R,R=aU.room 21:=⟨_,rfl⟩
  rw[<-g8] at uJ
  have KY:R.n=aU.n+21:=by rw[g8];rfl
  have KZ:R.get e=some (ks [.int .i64 (Int.ofNat k),.str nm,.str (fe ns),.str (dI ids),.int .u64 (Int.ofNat r)] bZ bf):=by rw[g8];exact VH.trans dz
  have K0:∀x∈M,x.e.id<s.given+1:=λx J=>by have:=(hs.aY _ (Ao x J)).2.1;omega
  obtain⟨bB,d1,d2,d3,d4⟩:=Vd (id:=s.given+1) uJ.av qm λx J=>(uJ.iQ x J).2
  obtain⟨bO,xr⟩:∃bO,bO=bB.set bD (some (.map (M.map hZ++[⟨.agg [.int .i64 (Int.ofNat k),.str nm,.str (fe ns),.str (dI ids),.int .u64 (Int.ofNat r)],.int .u64 (Int.ofNat (s.given+1)),bp⟩]) (bp+1))):=⟨_,rfl⟩
  rw[<-xr] at d4
  have VI:bO.get aR=some (.map (M.map gM) aT):=by rw[xr];exact(c5 w.nc rfl).trans ((d3 aR w.nc).trans uJ.ax)
  obtain⟨dK,f1,f2,f3,f4⟩:=Ve (id:=s.given+1) (b:=e) VI (λx J=>by have:=K0 x J;omega) λx J=>(uJ.iQ x J).1
  obtain⟨fq,xt⟩:∃fq,fq=dK.set aR (some (.map (M.map gM++[⟨.int .u64 (Int.ofNat (s.given+1)),.ptr e 0,aT⟩]) (aT+1))):=⟨_,rfl⟩
  rw[<-xt] at f4
  have di:fq.n=R.n:=by
   rw[xt];show dK.n=_
   rw[f2,xr];exact d2
  have K1:∀d,d≠aR->d≠bD->fq.get d=R.get d:=λd aa ad=>by
   rw[xt]
   refine(c5 aa rfl).trans ((f3 d aa).trans ?_)
   rw[xr]
   exact(c5 ad rfl).trans (d3 d ad)
  have low:∀{D:Type} {enc:D->List I} {wd el:Nat} {v:I} {ds:List D},cH enc wd el h0.n y v ds->cH enc wd el 0 R v ds/\∀d k cp,v=.slice d 0 k cp->¬F d:=by
   intro D enc wd el v ds aQ
   rcases aQ with⟨rfl,aQ⟩|⟨q,rfl,ba,b1,gy,iU⟩
   · exact⟨.inl ⟨rfl,aQ⟩,λd k cp h=>by cases h⟩
   · refine⟨.inr ⟨q,rfl,ba,?_,Nat.zero_le _,by omega⟩,λd k cp h hf=>by cases h;have:=e6 q hf;omega⟩
     have K2:q≠p:=λh=>by rw[h,w.st] at b1;injection b1 with b1;injection b1 with _ _ b1;cases b1
     rw[g8]
     show aU.get q=_
     rw[fP]
     refine(c5 K2 rfl).trans ?_
     show al.get q=_
     rw[dP]
     exact(c5 K2 rfl).trans b1
  obtain⟨VJ,VK⟩:=low h5
  obtain⟨VL,VM⟩:=low uF
  have we:∀x∈M,x.b≠e:=λx J h=>fO.ne x J ⟨w.aY.2.2.2 x J,.inr (.inl h)⟩
  obtain⟨n,l4⟩:∃n:Mem,n=⟨⟨s.given+1,k,nm,ns,ids,r,0,0⟩,e,aT,bp,0,bZ,bf⟩:=⟨_,rfl⟩
  have VN:fq.get aR=some (.map ((M++[n]).map gM) (aT+1)):=by rw[xt,List.map_append,l4];exact ft rfl
  have VO:fq.get bD=some (.map ((M++[n]).map hZ) (bp+1)):=by
   rw[xt]
   refine(c5 (λh=>w.nc h.symm) rfl).trans ((f3 bD λh=>w.nc h.symm).trans ?_)
   rw[xr,List.map_append,l4];exact ft rfl
  have Aq:e7 F fq p aR bD (aT+1) (bp+1) s.cap (s.given+1) (s.clock+1) (M++[n]):=by
   refine uJ.add (n:=n) di K1 VN VO ?_ ?_ ?_ ?_ ?_ ?_ ?_ ?_ ?_ ?_ ?_ ?_<;>subst l4
   · exact KZ
   · exact VJ
   · exact VL
   · exact we
   · rfl
   · rfl
   · exact K0
   · show 0<s.given+1;omega
   · show e<R.n;omega
   · exact KV
   · exact VK
   · exact VM
  have jl:n∈M++[n]:=by simp
  have VP:∀x∈M++[n],-1000000<=x.ak/\x.ak<=1000000:=λx J=>by
   rcases List.mem_append.1 J with J|J
   · rw[eM.ak x J]
     have:=Ky hs bV x.e.id
     have e:(Int.ofNat (dE x.e.id s.l))=((dE x.e.id s.l:Nat):Int):=rfl
     omega
   · rw[List.mem_singleton.1 J,l4]
     exact⟨(by show(-1000000:Int)<=0;decide),(by show(0:Int)<=1000000;decide)⟩
  have cF:=Aq.dz n jl
  have VQ:=Aq.az n jl
  have yf:n.b=e:=by rw[l4]
  have VR:n.e.args=ids:=by rw[l4]
  have VS:n.e.parts=r::ids:=by rw[l4];rfl
  have K3:n.e.id=s.given+1:=by rw[l4]
  obtain⟨gT,tb,VT,Ds⟩:=Kp (m+2) (z:=1) (.inl rfl) Aq cF VQ VP (by rw[VR];omega) (by have:=Aq.aY.2.2.2 n jl;exact this)
  rw[yf] at tb
  have uK:=VT.ext (Ext.room gT.n gT 13)
  have Ev:bump 1 n.e.parts n∈(M++[n]).map (bump 1 n.e.parts):=List.mem_map.2 ⟨n,jl,rfl⟩
  have K4:=sr uK.ax uK.up Ev false
  have xn:(bump 1 n.e.parts n).e.id=s.given+1:=K3
  have Ew:(bump 1 n.e.parts n).b=e:=yf
  rw[xn,Ew] at K4
  have VU:=uK.dz _ Ev
  have kr:=uK.eG Ev (KS (s.clock+1))
  have VV:bA F aU fq:=⟨by rw[di,KY];omega,λd ak hf=>(K1 d (λh=>w.nd.2.1 (h▸hf)) (λh=>w.nd.2.2 (h▸hf))).trans (by rw[g8];rfl)⟩
  rw[g8] at d1
  refine KO (Y (m+3)) p e aR bD y ⟨s.clock,a_ w.st rfl,by omega,al,st1,a_ qM.st rfl,k,nm,fe ns,dI ids,r,oW KX rfl,0,false,dp,λh=>(by cases h),λ_=>⟨s.given,a_ qM.st rfl,by omega,aU,DY,s.given+1,a_ jo.st rfl,a_ (h:=aU.room 21) jo.st rfl,k,nm,fe ns,dI ids,r,oW (g8▸KZ) rfl,a_ (h:=aU.room 21) jo.st rfl,0,bp,bB,d1,bO,⟨d4,rfl⟩,aT,dK,f1,fq,⟨f4,rfl⟩,gT,tb,a_ uK.st rfl,e,K4,s.clock+1,a_ uK.st rfl,_,gn (Ew▸VU) rfl rfl,rfl,_,rfl,⟨aR,bD,aT+1,bp+1,_,Ew▸kr,⟨?_,?_⟩⟩,?_⟩⟩
  · show _=s.l++[⟨s.given+1,k,nm,ns,ids,r,0,s.clock+1⟩]
    rw[KT,Kz,List.map_append,eM.e,List.map_append,xn]
    have ax:s.l.map (eL (s.given+1) (s.clock+1))=s.l:=by
     have:∀q∈s.l,eL (s.given+1) (s.clock+1) q=q:=λq aE=>by
      have:=(hs.aY q aE).2.1
      unfold eL
      rw[if_neg (by omega)]
     rw[List.map_congr_left this,List.map_id']
    rw[ax,l4]
    simp[eL]
  · intro z aP
    obtain⟨v,aD,ax,av⟩:=KU aP
    obtain⟨u,hu,rfl⟩:=List.mem_map.1 aD
    show z.ak=Int.ofNat (dE z.e.id (s.l++[⟨s.given+1,k,nm,ns,ids,r,0,s.clock+1⟩]))
    rw[ax,av,KR]
    have bq:dE (bump 1 n.e.parts u).e.id [⟨s.given+1,k,nm,ns,ids,r,0,s.clock+1⟩]=(r::ids).count u.e.id:=by
     rw[dE,dE];rfl
    rw[bq]
    show u.ak+1*((n.e.parts).count u.e.id:Nat)=Int.ofNat (dE u.e.id s.l+(r::ids).count u.e.id)
    rw[VS]
    rcases List.mem_append.1 hu with hu|hu
    · rw[eM.ak u hu]
      show((dE u.e.id s.l:Nat):Int)+1*_=((dE u.e.id s.l+(r::ids).count u.e.id:Nat):Int)
      rw[Int.natCast_add,Int.one_mul]
    · rw[List.mem_singleton.1 hu,K3]
      have A9:dE (s.given+1) s.l=0:=zS.2 λq aE aL=>by
       have aa:=(hs.aY q aE).2.1
       rcases hs.part q aE _ aL with h|⟨h,_⟩<;>omega
      have mO:n.ak=0:=by rw[l4]
      rw[A9,mO,Nat.zero_add,Int.one_mul,Int.zero_add]
      rfl
  · exact(fM.trans (e_.trans VV)).trans (Ds.trans ((bA.ext (Ext.room _ _ _)).trans (bA.set (b:=e) KV)))
theorem jW.xo{F:Nat->Prop}{h0:ab}{p e w:Nat}{bZ bf:I}{ns:List a5}{ids:List Nat}{a9:List I}{s:b7}{y:ab}(ch:jW F h0 p e w bZ bf ns ids a9 s y):(∀d k cp,bZ=.slice d 0 k cp->d<y.n/\d≠e/\∃cs,y.get d=some (.cells cs 9 .aS 0 0))/\∀d k cp,bf=.slice d 0 k cp->d<y.n/\d≠e/\∃cs,y.get d=some (.cells cs 28 .aS 0 0):=by
 constructor
 · intro d k cp ak
   rcases ch.ns with⟨rfl,_⟩|⟨q,rfl,_,b1,gy,iU⟩
   · cases ak
   · cases ak;exact⟨iU,λh=>(by rw[h] at b1;exact uG b1 ch.dz),_,b1⟩
 · intro d k cp ak
   rcases ch.az with⟨rfl,_⟩|⟨q,rfl,_,b1,gy,iU⟩
   · cases ak
   · cases ak;exact⟨iU,λh=>(by rw[h] at b1;exact uG b1 ch.dz),_,b1⟩
theorem jW.next{F:Nat->Prop}{h0:ab}{p e w:Nat}{bZ bf:I}{ns:List a5}{ids:List Nat}{a9 xu:List I}{s:b7}{y g:ab}(ch:jW F h0 p e w bZ bf ns ids a9 s y)(e6:∀b,F b->b<h0.n)(aH:y.n<=g.n)(an:∀d,d<y.n->d≠e->ia 5 (y.get d)->g.get d=y.get d)(VW:∀d,d<h0.n->g.get d=y.get d)(he:g.get e=some (ks xu bZ bf)):jW F h0 p e w bZ bf ns ids xu s g:=by
 obtain⟨Ar,As⟩:=ch.xo
 have aa:=ch.fM.n
 have ad:=ch.da
 have aq:=ch.sD
 have aC:=ch.iG
 refine⟨ch.st.move aH (λd ak kR ai=>an d ak (λh=>kR ⟨ak,.inr (.inl h)⟩) ai) (λd ak iq=>?_),⟨by omega,λd ak hf=>(VW d ak).trans (ch.fM.get d ak hf)⟩,he,cH.cL ch.ns aH λq aE ku=>?_,cH.cL ch.az aH λq aE ku=>?_,ad,aq,by omega⟩
 · obtain⟨_,oG⟩:=iq
   rcases oG with h|h|h|h|h|h
   · exact .inl ⟨ak,.inl h⟩
   · exact .inl ⟨ak,.inr (.inl h)⟩
   · exact .inl ⟨ak,.inr (.inr (.inl h))⟩
   · exact .inl ⟨ak,.inr (.inr (.inr (.inl h)))⟩
   · exact .inl ⟨ak,.inr (.inr (.inr (.inr (.inl h))))⟩
   · by_cases ng:d=e
     · exact .inl ⟨ak,.inr (.inl ng)⟩
     · exact .inr λai=>h (by rw[an d ak ng ai];exact ai)
 · obtain⟨_,bR,cs,e_⟩:=Ar q _ _ aE
   exact an q ku bR (by rw[e_];exact sw (by decide))
 · obtain⟨_,bR,cs,e_⟩:=As q _ _ aE
   exact an q ku bR (by rw[e_];exact sw (by decide))
theorem jW.child{F:Nat->Prop}{h0:ab}{p e w:Nat}{bZ bf:I}{ns:List a5}{ids:List Nat}{a9 xu:List I}{s a6:b7}{y g:ab}(ch:jW F h0 p e w bZ bf ns ids a9 s y)(e6:∀b,F b->b<h0.n)(hs:fU (Loc F y e w bZ bf) g p a6)(an:bA (Loc F y e w bZ bf) y g):jW F h0 p e w bZ bf ns ids xu a6 (g.set e (some (ks xu bZ bf))):=by
 obtain⟨Ar,As⟩:=ch.xo
 have aa:=ch.fM.n
 have ad:=ch.da
 have aq:=ch.sD
 have aC:=ch.iG
 have bC:=an.n
 refine⟨hs.move (Nat.le_refl _) (λd ak kR ai=>c5 (λh=>kR ⟨by omega,.inr (.inl h)⟩) rfl) (λd ak iq=>?_),⟨by simp;omega,λd ak hf=>?_⟩,ft rfl,cH.cL ch.ns (by simp;omega) λq aE ku=>?_,cH.cL ch.az (by simp;omega) λq aE ku=>?_,ad,aq,by simp;omega⟩
 · obtain⟨_,oG⟩:=iq
   rcases oG with h|h|h|h|h|h
   · exact .inl ⟨by have:=e6 d h;omega,.inl h⟩
   · exact .inl ⟨by omega,.inr (.inl h)⟩
   · exact .inl ⟨by omega,.inr (.inr (.inl h))⟩
   · obtain⟨k,cp,aE⟩:=h
     exact .inl ⟨(Ar d k cp aE).1,.inr (.inr (.inr (.inl ⟨_,_,aE⟩)))⟩
   · obtain⟨k,cp,aE⟩:=h
     exact .inl ⟨(As d k cp aE).1,.inr (.inr (.inr (.inr (.inl ⟨_,_,aE⟩))))⟩
   · by_cases ng:d=e
     · exact .inl ⟨by omega,.inr (.inl ng)⟩
     · exact .inr λai=>h (by rw[c5 ng rfl];exact ai)
 · exact(c5 (by omega) rfl).trans ((an.get d (by omega) ⟨by omega,.inl hf⟩).trans (ch.fM.get d ak hf))
 · obtain⟨_,bR,_⟩:=Ar q _ _ aE
   exact(c5 bR rfl).trans (an.get q ku ⟨ku,.inr (.inr (.inr (.inl ⟨_,_,aE⟩)))⟩)
 · obtain⟨_,bR,_⟩:=As q _ _ aE
   exact(c5 bR rfl).trans (an.get q ku ⟨ku,.inr (.inr (.inr (.inr (.inl ⟨_,_,aE⟩))))⟩)
theorem K5(l:List aZ){i:Nat}(h:i<l.length):eo (l.take i)+sz l[i]<=eo l:=by
 have key:∀a b:List aZ,eo (a++b)=eo a+eo b:=by
  intro a b
  induction a with
  |nil=>rw[eo,List.nil_append];omega
  |cons x a a3=>rw[List.cons_append,eo,a3,eo];omega
 have e:=key (l.take i) (l.drop i)
 rw[List.take_append_drop,List.drop_eq_getElem_cons h,eo] at e
 omega
theorem K6:∀{ns:List a5},(∀s∈ns,s.length<=24)->eP 1 ns<=25*ns.length
 |[],_=>by rw[eP];exact Nat.zero_le _
 |x::l,h=>by
  have aa:=h x (List.mem_cons_self ..)
  have ad:=K6 (ns:=l) λs hs=>h s (List.mem_cons_of_mem _ hs)
  rw[eP,List.length_cons];omega
theorem Ex:∀(N:Nat) (t:aZ),sz t<=N->hY (some t)=0->∀n,sz t+10<=n->KP n t
 |0,t,h,_,_,_=>by have:=ub t;omega
 |N+1,.mk k nm ns xs rt,hU,af,n,aH=>by
  intro F h p v s st hs fa VD VE e6 aD
  obtain⟨aT,bp⟩:=uw.1 af
  obtain⟨jl,kR,VX⟩:=KI bp
  have bh:=o1 k nm ns xs rt
  have kG:=qu xs
  obtain⟨r,sH,At,dL,vs,b2,aY,up,rfl,Ey,pg,qm,pJ,K7,vM⟩:=aD
  obtain⟨m,rfl⟩:∃m,n=m+5+1:=⟨n-6,by omega⟩
  have um:=e6 r Ey
  refine HW (R:=λx=>∃g,x=.ret (.int .u64 (Int.ofNat (cC (.mk k nm ns xs rt) s).1)) g/\fU F g p (cC (.mk k nm ns xs rt) s).2/\bA F h g) (intr:=b5) (n:=m+5) (args:=[.ptr p 0,.ptr r 0]) Tryd.func19 (by kernel_rfl) (by kernel_rfl) (by kernel_rfl) (Q:=λca st=>ca=.ret/\∃g,st=⟨[(4,.int .u64 (Int.ofNat (cC (.mk k nm ns xs rt) s).1))],[],.none,g⟩/\fU F g p (cC (.mk k nm ns xs rt) s).2/\bA F h g) ?_ ?_
  rotate_left
  · rintro e st ⟨rfl,g,rfl,aa,ad⟩
    exact .inl ⟨.inl rfl,rfl,.int .u64 (Int.ofNat (cC (.mk k nm ns xs rt) s).1),by kernel_rfl,g,rfl,aa,ad⟩
  have Ez:∃v2 al,Y (m+5) (.fn 17) [sH] h=.ret v2 al/\na h.n al v2 ns/\Ext h.n h al/\v2.cw=true:=by
   have EA:ep h.n h sH (ns.map .str):=by
    rcases qm with⟨a,b⟩|⟨b,off,cp,b8,cG,dw,gF,gf,m1⟩
    · exact .inl ⟨a,b⟩
    · exact .inr ⟨b,off,cp,b8,e6 b cG,dw,gF,gf⟩
   rcases DB (m+4) (Nat.le_refl _) EA (by rw[List.length_map];omega) (by simp[List.all_map,I.cw]) with⟨_,e,c⟩|⟨aa,b,al,c,bn,cJ,dr,gG⟩
   · have da:ns=[]:=by simpa using e
     exact⟨.bd,h,c,.inl ⟨rfl,da⟩,Ext.refl _ _,rfl⟩
   · rw[List.length_map] at aa c
     refine⟨_,al,c,.inr ⟨b,rfl,aa,?_,bn,cJ⟩,gG,rfl⟩
     rw[kZ];exact dr
  obtain⟨v2,al,yL,Au,xl,jj⟩:=Ez
  have aM:=xl.n
  obtain⟨aa,hR⟩:∃aa,aa=al.push (ks lL v2 .bd):=⟨_,rfl⟩
  obtain⟨ad,p3⟩:∃ad,ad=aa.push (.cells [.br,.bd] 70 .own 0 0):=⟨_,rfl⟩
  have YJ:aa.n=al.n+1:=by rw[hR];rfl
  have YK:ad.n=aa.n+1:=by rw[p3];rfl
  have w9:Ext al.n al ad:=by rw[p3];refine Ext.lq (by omega) ?_;rw[hR];exact Ext.push (Nat.le_refl _) _
  have xv:Ext h.n h ad:=xl.trans aM w9
  have VY:ad.get al.n=some (ks lL v2 .bd):=by rw[p3];refine lp (by omega) ?_;rw[hR];exact fI rfl
  have VZ:ad.get aa.n=some (.cells [.br,.bd] 70 .own 0 0):=by rw[p3];exact fI rfl
  have K8:na h.n ad v2 ns:=Au.mono w9 (Nat.le_refl _)
  have xw:jW F h p al.n aa.n v2 .bd ns [] lL s ad:=by
   refine⟨st.move xv.n (λd ak _ _=>xv.get d ak) (λd ak iq=>?_),bA.ext xv,VY,K8,.inl ⟨rfl,rfl⟩,aM,by omega,by omega⟩
   obtain⟨_,oG⟩:=iq
   rcases oG with aE|aE|aE|⟨_,_,aE⟩|⟨_,_,aE⟩|aE
   · exact .inl aE
   · omega
   · omega
   · rcases K8 with⟨e,_⟩|⟨b,e,_,_,gy,_⟩
     · rw[e] at aE;cases aE
     · rw[e] at aE;cases aE;omega
   · cases aE
   · exact .inr (by rw[<-xv.get d ak];exact aE)
  have oe:ix ad.n aa.n ad (dI []):=⟨.br,.bd,VZ,.inl rfl,.inl ⟨rfl,rfl⟩,by omega,Nat.le_refl _,λ_=>rfl⟩
  refine a4.seq (p:=[]) (by kernel_rfl) (Vh _ p r h (a4.seq (p:=[1]) (by kernel_rfl) (Vi _ p r h (a4.seq (p:=[1,1]) (by kernel_rfl) (Vj _ p r h ⟨sH,a_ pg rfl,v2,al,yL,jj,jj,a4.seq (p:=[1,1,1]) (by kernel_rfl) ?_⟩)))))
  have ax:al.push (.cells [.int .i64 (Int.ofNat 0),.str [],.str [],.str [],.int .u64 (Int.ofNat 0),v2,.bd,.int .i64 (Int.ofNat 0),.int .i64 (Int.ofNat 0),.int .u64 (Int.ofNat 0)] 60 .own 0 0)=aa:=by rw[hR];rfl
  rw[ax]
  refine Vk _ p r al.n aa (a4.seq (p:=[1,1,1,1]) (by kernel_rfl) ?_)
  rw[<-p3]
  have x2:vs.length=xs.length:=eQ.len K7
  have V0:∀g,cr Tryd.prog g 41 At=some (.int .i64 (Int.ofNat vs.length)):=λg=>by
   rcases pJ with⟨rfl,rfl⟩|⟨b,off,cp,rfl,_⟩<;>rfl
  have rest:∀(y:ab) (bf:I) (Γ:Env),jW F h p al.n aa.n v2 bf ns (cP xs s).1 lL (cP xs s).2 y->ix ad.n aa.n y (dI (cP xs s).1)->a4 Tryd.prog Tryd.f19 (Y (m+5)) [1,1,1,1,1] ⟨[(0,.ptr p 0),(1,.ptr r 0),(5,.fn 19 [.ptr p 0] []),(6,.ptr al.n 0),(7,.ptr aa.n 0)],[],.none,y⟩ (λca st=>ca=.ret/\∃g,st=⟨[(4,.int .u64 (Int.ofNat (cC (.mk k nm ns xs rt) s).1))],[],.none,g⟩/\fU F g p (cC (.mk k nm ns xs rt) s).2/\bA F h g):=by
   intro y bf Γ ch ae
   have fM:=ch.fM
   have uD:=fM.n
   have YL:=ch.iG
   have YM:=ch.sD
   have V1:y.get r=h.get r:=fM.get r um Ey
   have sI:y.get r=some (.cells [.int .i64 (Int.ofNat k),.str nm,sH,At,dL] 43 b2 aY up):=V1.trans pg
   have V2:oa F (y.room 19) sH (ns.map .str):=oa.cL (λb ae=>⟨ae,fM.get b (e6 b ae) ae⟩) qm
   obtain⟨Av,V3,K9⟩:=UG (m+1) V2 (λb ae=>by have:=e6 b ae;have:(y.room 19).n=y.n+19:=rfl;omega) (λs hs=>(jl s hs).1) (by omega) (by have:=K6 VX;omega)
   have KN:(y.room 19).n=y.n+19:=rfl
   have YN:=K9.n
   have xx:∀d,d<y.n->Av.get d=y.get d:=λd ak=>K9.get d (by omega)
   have V4:ix ad.n aa.n Av (dI (cP xs s).1):=ix.KM ae (by omega) λd ak _=>xx d ak
   have w2:=Am xs s
   obtain⟨aA,cs,K_,V5⟩:=Vr (m+4) aa.n ad.n Av _ V4 (by rw[Es];omega)
   have YO:=K_.n
   have uL:∀d,d<y.n->ia 5 (y.get d)->aA.get d=y.get d:=λd ak ai=>by
    have aF:=xx d ak
    exact(V5 d (by omega) (by rw[aF];exact ai)).trans aF
   have ge:aA.get al.n=some (ks lL v2 bf):=(uL al.n (by omega) (by rw[ch.dz];exact xi)).trans ch.dz
   have EB:∀d,d<h.n->aA.get d=y.get d:=λd ak=>(K_.get d (by omega)).trans (xx d (by omega))
   obtain⟨aU,fP⟩:∃aU,aU=aA.set al.n (some (ks [.int .i64 (Int.ofNat k),.str nm,.str (fe ns),.str (dI (cP xs s).1),.int .u64 (Int.ofNat 0)] v2 bf)):=⟨_,rfl⟩
   have ph:jW F h p al.n aa.n v2 bf ns (cP xs s).1 [.int .i64 (Int.ofNat k),.str nm,.str (fe ns),.str (dI (cP xs s).1),.int .u64 (Int.ofNat 0)] (cP xs s).2 aU:=by
    refine ch.next e6 (by rw[fP];simp;omega) (λd ak ng ai=>?_) (λd ak=>?_) (by rw[fP];exact ft rfl)
    · rw[fP];exact(c5 ng rfl).trans (uL d ak ai)
    · rw[fP];exact(c5 (by omega) rfl).trans (EB d ak)
   refine a4.seq (p:=[1,1,1,1,1]) (by kernel_rfl) (Vo _ p r al.n aa.n y ⟨k,a_ (h:=y.room 19) sI rfl,nm,a_ (h:=y.room 19) sI rfl,sH,a_ (h:=y.room 19) sI rfl,fe ns,Av,V3,dI (cP xs s).1,aA,cs,aU,by rw[fP];exact gn ge rfl rfl,a_ ((EB r um).trans sI) rfl,a_ ((xx r (by omega)).trans sI) rfl,a_ ((EB r um).trans sI) rfl,a_ ((xx r (by omega)).trans sI) rfl,?_,?_⟩)
   · rcases qm with⟨rfl,_⟩|⟨b,off,cp,rfl,_⟩<;>rfl
   obtain⟨ld,_,V6⟩:=zU xs hs
   obtain⟨dk,eB,_⟩:=Al xs s
   have Aw:=An xs s (λu hu=>zR af hu) fa
   have node3:aU.get r=some (.cells [.int .i64 (Int.ofNat k),.str nm,sH,At,dL] 43 b2 aY up):=(ph.fM.get r um Ey).trans pg
   have V7:∀i∈(cP xs s).1,i<18446744073709551616:=λi ag=>by
    obtain⟨q,aE,lF⟩:=V6 i ag
    have:=(ld.aY q aE).2.1
    omega
   have V8:=KF rt (cP xs s).2
   have fin:∀{s2 r2 iX},jW F h p al.n aa.n v2 bf ns (cP xs s).1 [.int .i64 (Int.ofNat k),.str nm,.str (fe ns),.str (dI (cP xs s).1),.int .u64 (Int.ofNat r2)] s2 iX->(r2,s2)=hc rt (cP xs s).2->a4 Tryd.prog Tryd.f19 (Y (m+5)) [1,1,1,1,1,1,1] ⟨[(0,.ptr p 0),(6,.ptr al.n 0)],[],.none,iX⟩ (λca st=>ca=.ret/\∃g,st=⟨[(4,.int .u64 (Int.ofNat (cC (.mk k nm ns xs rt) s).1))],[],.none,g⟩/\fU F g p (cC (.mk k nm ns xs rt) s).2/\bA F h g):=by
    intro s2 r2 iX xy La
    have V9:(hc rt (cP xs s).2).1=r2:=by rw[<-La]
    have Lb:(hc rt (cP xs s).2).2=s2:=by rw[<-La]
    obtain⟨oH,_,_⟩:=JW rt ld
    have BR:=KJ rt (cP xs s).2 (λu hu=>by subst hu;exact Ep af) Aw
    rw[Lb] at oH BR V8
    have:=VC (m+2) e6 xy oH BR (by omega) (by omega) jl (by omega) V7
    rw[cC,V9,Lb]
    exact this
   refine a4.seq (p:=[1,1,1,1,1,1]) (by kernel_rfl) ?_
   cases rt with
   |none=>
    have e:dL=.br:=vM
    subst e
    exact Vq _ p r al.n aU ⟨a_ node3 rfl,fin ph (by rw[hc])⟩
   |some u=>
    have hu:=Ep af
    rw[o2] at bh
    obtain⟨je,V_⟩:=fL.ptr vM
    subst V_
    have xm:=Ex N u (by omega) hu (m+5) (by omega)
    have Wa:fL (Loc F aU al.n aa.n v2 bf) aU u (.ptr je 0):=fL.cL (λb ae=>⟨⟨by have:=e6 b ae;have:=ph.fM.n;omega,.inl ae⟩,ph.fM.get b (e6 b ae) ae⟩) _ _ vM
    obtain⟨bB,gl,Wb,jK⟩:=xm _ aU p (.ptr je 0) _ ph.st ld Aw (by omega) (by omega) (λb ae=>ae.1) Wa
    have Wc:bB.get al.n=some (ks [.int .i64 (Int.ofNat k),.str nm,.str (fe ns),.str (dI (cP xs s).1),.int .u64 (Int.ofNat 0)] v2 bf):=(jK.get _ (by have:=ph.iG;omega) ⟨by have:=ph.iG;omega,.inr (.inl rfl)⟩).trans ph.dz
    exact Vp _ p r al.n aU ⟨je,a_ node3 rfl,je,a_ node3 rfl,(cC u (cP xs s).2).1,bB,gl,_,gn Wc rfl rfl,fin (ph.child e6 Wb jK) (by rw[hc])⟩
  refine Vl _ p r al.n aa.n ad ⟨At,a_ ((xv.get r um).trans pg) rfl,vs.length,V0 ad,?_⟩
  rcases pJ with⟨rfl,rfl⟩|⟨b,off,cp,rfl,Lc,ga,vc,_⟩
  · have da:xs=[]:=List.eq_nil_of_length_eq_zero (by rw[<-x2];rfl)
    subst da
    refine a4.loop (by kernel_rfl) (λk st=>∃Γ,st=⟨Γ,[],.none,ad⟩/\cd [(0,.ptr p 0),(1,.ptr r 0),(5,.fn 19 [.ptr p 0] []),(6,.ptr al.n 0),(7,.ptr aa.n 0),(25,.bd),(26,.int .i64 (Int.ofNat 0)),(27,.int .i64 (Int.ofNat 0))] Γ) ?_ 0 _ (by omega) ⟨_,rfl,rfl,rfl,rfl,rfl,rfl,rfl,rfl,rfl,trivial⟩
    rintro dA st ⟨Γ,rfl,cR⟩
    refine a4.pre (Vn _ p r al.n aa.n .bd ad ⟨by omega,ad,_,rfl,rfl,⟨rfl,rfl,rfl,rfl,rfl,trivial⟩,?_⟩) cR rfl rfl rfl
    exact rest ad .bd [] (by rw[cP];exact xw) (by rw[cP];exact oe)
  · refine a4.loop (by kernel_rfl) (λk st=>∃i y bf Γ,st=⟨Γ,[],.none,y⟩/\cd [(0,.ptr p 0),(1,.ptr r 0),(5,.fn 19 [.ptr p 0] []),(6,.ptr al.n 0),(7,.ptr aa.n 0),(25,.slice b off vs.length cp),(26,.int .i64 (Int.ofNat vs.length)),(27,.int .i64 (Int.ofNat i))] Γ/\vs.length-i=k/\i<=vs.length/\jW F h p al.n aa.n v2 bf ns (cP (xs.take i) s).1 lL (cP (xs.take i) s).2 y/\ix ad.n aa.n y (dI (cP (xs.take i) s).1)) ?_ vs.length _ (by omega) ⟨0,ad,.bd,_,rfl,⟨rfl,rfl,rfl,rfl,rfl,rfl,rfl,rfl,trivial⟩,by omega,by omega,by rw[List.take_zero,cP];exact xw,by rw[List.take_zero,cP];exact oe⟩
    rintro dA st ⟨i,y,bf,Γ,rfl,cR,ek,ag,ch,ae⟩
    refine a4.pre (Vm _ p r al.n aa.n b off _ i cp y ⟨λi1=>?_,λi1=>?_⟩) cR rfl rfl rfl
    · have i2:i<xs.length:=by omega
      have Bj:=eQ.get K7 i i1 i2
      obtain⟨kj,nM⟩:=fL.ptr Bj
      have ci:=zR af (show xs[i]∈(aZ.mk k nm ns xs rt).xs from List.getElem_mem i2)
      have Wd:=K5 xs i2
      have xm:=Ex N xs[i] (by omega) ci (m+5) (by omega)
      obtain⟨ld,_,_⟩:=zU (xs.take i) hs
      obtain⟨dk,eB,_⟩:=Al (xs.take i) s
      have Aw:=An (xs.take i) s (λu hu=>zR af (List.mem_of_mem_take hu)) fa
      obtain⟨We,d1,d2,jX,Wf,d3,d4,Wg,d5,Wh,d6,Ld,d7,Wi,g7⟩:=Vt (m+2) e6 ch ae (by omega) (by have:=ch.sD;omega) xm ld Aw (by omega) (by omega) Bj (by rw[Am,List.length_take];omega)
      rw[nM] at d1
      have Le:cP (xs.take (i+1)) s=((cP (xs.take i) s).1++[(cC xs[i] (cP (xs.take i) s).2).1],(cC xs[i] (cP (xs.take i) s).2).2):=by
       rw[List.take_succ_eq_append_getElem i2,KG]
      have Bw:aB y b (off+i*1)=some (.ptr kj 0):=by
       have e:=ch.fM.get b (e6 b Lc) Lc
       have av:=ga i i1
       rw[nM] at av
       rw[<-av];exact T6 e
      exact⟨i1,kj,Bw,_,We,d1,bf,d2,jX,Wf,d3,d4,Wg,d5,_,Wh,d6,_,_,Ld,d7,by omega,_,(by show _<dA;omega),i+1,Ld,jX,_,rfl,⟨rfl,rfl,rfl,rfl,rfl,rfl,rfl,rfl,trivial⟩,rfl,by omega,by rw[Le];exact Wi,by rw[Le];exact g7⟩
    · obtain rfl:i=vs.length:=by omega
      have e:xs.take vs.length=xs:=List.take_of_length_le (by omega)
      rw[e] at ch ae
      exact⟨y,_,rfl,rfl,⟨rfl,rfl,rfl,rfl,rfl,trivial⟩,rest y bf [] ch ae⟩
end Go.Proofs.hJ
