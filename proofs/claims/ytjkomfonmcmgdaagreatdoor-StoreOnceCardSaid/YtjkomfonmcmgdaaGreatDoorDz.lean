/-
  PROVED HERE: contracts of functions (Dz). No condition beside each statement's own.
-/
import Derived.Test.YtjkomfonmcmgdaaGreatDoorDy
import Derived.Test.YtjkomfonmcmgdaaGreatDoorDa
set_option linter.unusedVariables false
set_option linter.unusedSimpArgs false
set_option maxRecDepth 100000
set_option maxHeartbeats 1000000
namespace Go.Proofs.jj
open Go bt Go.Proofs hy Go.Proofs.jk
theorem aep(m p id a5:Nat)(h:J){R:a9->Prop}(H:∃br:Bool,∃ai:J,(Y m) (.fn 21) [.ptr p 0] h=.ret (.bool br) ai/\(br=true->R (.ret (.aO [.aZ,.bool false]) ai))/\(br=false->ar ai p (0+3)=some (.map a5)/\hO Tryz.prog ai 55 (.map a5) (.int .u64 (.ofNat id)) false=some .aZ/\R (.ret (.aO [.aZ,.bool false]) ai))):
  R (Y (m+1) (.fn 19) [.ptr p 0,.int .u64 (.ofNat id)] h):=
 dQ (intr:=b3) [(18,.bq (.is (.map a5))),(20,.bq (.is .aZ))] [(0,.v (.ptr p 0)),(1,.v (.int .u64 (.ofNat id)))] Tryz.func19 (by kernel_rfl) (by kernel_rfl) (by kernel_rfl) rfl (Eq.mp (by kernel_rfl) H)
theorem aeq(m p id a5:Nat)(h:J){R:a9->Prop}(H:∃br:Bool,∃ai:J,(Y m) (.fn 21) [.ptr p 0] h=.ret (.bool br) ai/\(br=true->R (.ret (.aO [.aZ,.bool false]) ai))/\(br=false->ar ai p (0+3)=some (.map a5)/\∃aE:Nat,hO Tryz.prog ai 55 (.map a5) (.int .u64 (.ofNat id)) false=some (.ptr aE 0)/\ar ai p (0+3)=some (.map a5)/\∃bf:Nat,hO Tryz.prog ai 55 (.map a5) (.int .u64 (.ofNat id)) false=some (.ptr bf 0)/\∃bH:Nat,ar (ai.room 18) bf (0+0+0)=some (.int .i64 (.ofNat bH))/\∃s1:List UInt8,ar (ai.room 18) bf (0+0+1)=some (.str s1)/\∃v1:I,ar (ai.room 18) bf (0+5)=some v1/\∃v2:I,∃au:J,(Y m) (.fn 38) [v1] (ai.room 18)=.ret v2 au/\I.cO v2=true/\I.cO v2=true/\ar (J.set au (ai.n+16) (some (.cells [.int .i64 (.ofNat bH),.str s1,v2,.aS,.aZ] 80 .own 0 0))) bf (0+0+0)=some (.int .i64 (.ofNat bH))/\ar (J.set au (ai.n+16) (some (.cells [.int .i64 (.ofNat bH),.str s1,v2,.aS,.aZ] 80 .own 0 0))) bf (0+0+1)=some (.str s1)/\I.sound v1=true/\I.sound v2=true/\∃cz:I,ar (J.set au (ai.n+16) (some (.cells [.int .i64 (.ofNat bH),.str s1,v2,.aS,.aZ] 80 .own 0 0))) bf (0+6)=some cz/\∃bU:Nat,cl Tryz.prog (J.set au (ai.n+16) (some (.cells [.int .i64 (.ofNat bH),.str s1,v2,.aS,.aZ] 80 .own 0 0))) 44 cz=some (.int .i64 (.ofNat bU))/\a4 Tryz.prog Tryz.f19 (Y m) [1,1,1,1,0,1,0] (ah.mk [(0,.ptr p 0),(6,.ptr bf 0),(7,.ptr (ai.n+16) 0),(49,cz),(50,.int .i64 (.ofNat bU)),(51,.int .i64 (.ofNat 0))] [] .none (J.set au (ai.n+16) (some (.cells [.int .i64 (.ofNat bH),.str s1,v2,.aS,.aZ] 80 .own 0 0)))) (λb9 cf=>∃b_:Nat,∃cv:Nat,∃ay:J,∃bw:Env,b9=.exit 0/\cf=ah.mk bw [] .none ay/\cd [(0,.ptr p 0),(6,.ptr b_ 0),(7,.ptr cv 0)] bw/\∃c4:Nat,ar ay b_ (0+0+4)=some (.int .u64 (.ofNat c4))/\∃v4:I,∃a3:Bool,∃bg:J,(Y m) (.fn 19) [.ptr p 0,.int .u64 (.ofNat c4)] ay=.ret (.aO [v4,.bool a3]) bg/\I.cO v4=true/\∃bF:J,bt.storeCells bg cv (0+4) [v4]=some bF/\R (.ret (.aO [.ptr cv 0,.bool true]) bF)))):
  R (Y (m+1) (.fn 19) [.ptr p 0,.int .u64 (.ofNat id)] h):=
 dQ (intr:=b3) [(1022,.f),(18,.bq (.is (.map a5))),(20,.bq .p),(26,.bq (.is (.map a5))),(28,.bq .p),(43,.bq .o),(49,.bq .o),(80,.bq (.fC [.o,.b])),(4000,.gO [0,6,7,49,50,51] [(.exit 0,[(0,.is (.ptr p 0)),(6,.p),(7,.p)])])] [(0,.v (.ptr p 0)),(1,.v (.int .u64 (.ofNat id)))] Tryz.func19 (by kernel_rfl) (by kernel_rfl) (by kernel_rfl) rfl (Eq.mp (by kernel_rfl) H)
theorem aer(call:aP)(p e t b off N i:Nat)(cp:bR)(h:J){Q:bu->ah->Prop}(H:(i<N->i<N/\∃aE:Nat,ar h b (off+i*1)=some (.int .u64 (.ofNat aE))/\∃bf:Nat,∃br:Bool,∃ai:J,call (.fn 19) [.ptr p 0,.int .u64 (.ofNat aE)] h=.ret (.aO [.ptr bf 0,.bool br]) ai/\∃v1:I,ar ai t (0+3)=some v1/\∃v2:I,∃au:J,db Tryz.prog (J.push ai (.cells [.ptr bf 0] 35 .own 0 0)) 50 (some 50) v1 (.slice ai.n 0 1 (.exact 1))=some (v2,au)/\I.cO v2=true/\∃ay:J,bt.storeCells au t (0+3) [v2]=some ay/\i+1<9223372036854775808/\Q .nrm (ah.mk [(0,.ptr p 0),(6,.ptr e 0),(7,.ptr t 0),(49,.slice b off N cp),(50,.int .i64 (.ofNat N)),(51,.int .i64 (.ofNat (i+1)))] [] .none ay))/\(¬i<N->Q (.exit 0) (ah.mk [(0,.ptr p 0),(6,.ptr e 0),(7,.ptr t 0),(49,.slice b off N cp),(50,.int .i64 (.ofNat N)),(51,.int .i64 (.ofNat i))] [] .none h))):
  a4 Tryz.prog Tryz.f19 call [1,1,1,1,0,1,0,0] ⟨[(0,.ptr p 0),(6,.ptr e 0),(7,.ptr t 0),(49,.slice b off N cp),(50,.int .i64 (.ofNat N)),(51,.int .i64 (.ofNat i))],[],.none,h⟩ Q:=
 dF [(58,.bq (.fC [.p,.b]))] [0,6,7,49,50,51] [(0,.v (.ptr p 0)),(6,.v (.ptr e 0)),(7,.v (.ptr t 0)),(49,.v (.slice b off N cp)),(50,.v (.int .i64 (.ofNat N))),(51,.v (.int .i64 (.ofNat i)))] rfl (Eq.mp (by kernel_rfl) H)
theorem aes(call:aP)(p e t:Nat)(v:I)(h:J){Q:bu->ah->Prop}(H:¬0<0/\Q (.exit 0) (ah.mk [(0,.ptr p 0),(6,.ptr e 0),(7,.ptr t 0)] [] .none h)):
  a4 Tryz.prog Tryz.f19 call [1,1,1,1,0,1,0,0] ⟨[(0,.ptr p 0),(6,.ptr e 0),(7,.ptr t 0),(49,v),(50,.int .i64 (.ofNat 0)),(51,.int .i64 (.ofNat 0))],[],.none,h⟩ Q:=
 dF [(1052,.f)] [0,6,7] [(0,.v (.ptr p 0)),(6,.v (.ptr e 0)),(7,.v (.ptr t 0)),(49,.o v),(50,.v (.int .i64 (.ofNat 0))),(51,.v (.int .i64 (.ofNat 0)))] rfl (Eq.mp (by kernel_rfl) H)
theorem aet(m:Nat){F:Nat->Prop}{h:J}{p i:Nat}{s:ct}(w:g8 F h p s)(aN:∀e∈s.l,e.id≠i):Y (m+2) (.fn 19) [.ptr p 0,.int .u64 (Int.ofNat i)] h=.ret (.aO [.aZ,.bool false]) h:=by
 obtain⟨a5,bX,aF,a6,M,w,r⟩:=w
 have g0:∀x∈M,x.e.id≠i:=λx ab=>aN x.e (by rw[<-r.e];exact List.mem_map.2 ⟨x,ab,rfl⟩)
 exact aep (m+1) p i a5 h (R:=λy=>y=.ret (.aO [.aZ,.bool false]) h) ⟨false,h,DQ m w,λh=>(by cases h),λ_=>⟨aT w.st rfl,H6 w.aA g0 false,rfl⟩⟩
def aeu(n:Nat)(t:aC):Prop:=∀(F:Nat->Prop) (h:J) (p i:Nat) (s:ct),g8 F h p s->dG s->dH s.l i t->∃r g,Y n (.fn 19) [.ptr p 0,.int .u64 (Int.ofNat i)] h=.ret (.aO [.ptr r 0,.bool true]) g/\Ext h.n h g/\dY (mn h.n g.n) g t (.ptr r 0)
theorem g8.ext{F:Nat->Prop}{h g:J}{p:Nat}{s:ct}(w:g8 F h p s)(e:Ext h.n h g):g8 F g p s:=w.move e.n (λd ao _ _=>e.get d ao) λd _ h=>.inl h
theorem Qp{l:List cc}:∀{h4:List Nat} {ck:List aC},fo l h4 ck->h4.length=ck.length/\∀i (aa:i<h4.length) (ad:i<ck.length),dH l h4[i] ck[i]
 |[],[],_=>⟨rfl,λi h=>by cases h⟩
 |[],_::_,h=>by simp[fo] at h
 |_::_,[],h=>by simp[fo] at h
 |j::h4,t::ck,h=>by
  rw[fo] at h
  obtain⟨ja,IE,e,aa,ad⟩:∃ja IE,j::h4=ja::IE/\dH l ja t/\fo l IE ck:=by
   first
    |exact⟨_,_,rfl,h.1,h.2⟩
    |(obtain⟨a,b,c,d,e⟩:=h;exact⟨a,b,c,d,e⟩)
  cases e
  obtain⟨bJ,bQ⟩:=Qp ad
  refine⟨by rw[List.length_cons,List.length_cons,bJ],λi av aG=>?_⟩
  cases i with
  |zero=>exact aa
  |succ i=>exact bQ i (by simpa using av) (by simpa using aG)
theorem IF:∀(N:Nat) (t:aC),sz t<=N->sz t<=60->iQ t<=1000->∀n,sz t+3<=n->aeu n t
 |0,t,h,_,_,_,_=>by have:=qp t;omega
 |N+1,.mk k nm ns xs rt,gW,pj,ia,n,aN=>by
  intro F h p i s st hs Qq
  have bA:=mc k nm ns xs rt
  have eD:=mW xs
  have aev:iQ (.mk k nm ns xs rt)=ns.length+pg xs+nK rt:=by rw[iQ]
  rw[dH] at Qq
  obtain⟨e,he,Da,aq,jc,aew,mC,gi⟩:=Qq
  subst aq;subst jc;subst aew
  obtain⟨ho,yG⟩:=Qp mC
  obtain⟨m,rfl⟩:∃m,n=m+3:=⟨n-3,by omega⟩
  have nt:=st
  obtain⟨a5,bX,aF,a6,M,w,r⟩:=st
  obtain⟨x,ab,m7⟩:=List.mem_map.1 (r.e▸he:e∈M.map Mem.e)
  subst m7
  have ej:=vj w.aA w.up ab false
  rw[Da] at ej
  have vr:=w.eF x ab
  have vU:=w.aI.2.2.2 x ab
  have Dl:(h.room 18).n=h.n+18:=rfl
  have rQ:Ext h.n h (h.room 18):=Ext.room _ _ _
  have DL:=w.ns x ab
  have Iu:∃v2 au,Y (m+2) (.fn 38) [x.bK] (h.room 18)=.ret v2 au/\mo (h.n+18) au v2 x.e.ns/\Ext (h.room 18).n (h.room 18) au/\v2.cO=true:=by
   have Iv:c6 (h.room 18).n (h.room 18) x.bK (x.e.ns.map .str):=by
    rcases DL with⟨a,b⟩|⟨q,b6,cU,c8,ek,en⟩
    · exact .inl ⟨a,by rw[b];rfl⟩
    · refine .inr ⟨q,0,.aR 1,by rw[b6,List.length_map],by omega,λj aK=>?_,by rw[List.length_map];exact cU,by simp⟩
      refine lB (h:=h.room 18) c8 ?_
      rw[jm,Nat.zero_add,Nat.mul_one,List.getElem?_eq_getElem aK]
   rcases G6 (m+1) (Nat.le_refl _) Iv (by rw[List.length_map];omega) (by simp[List.all_map,I.cO]) with⟨_,dc,c⟩|⟨aa,b,ai,c,br,a3,dm,gl⟩
   · have dc:x.e.ns=[]:=by simpa using dc
     exact⟨.aS,_,c,.inl ⟨rfl,dc⟩,Ext.refl _ _,rfl⟩
   · rw[List.length_map] at aa c
     refine⟨_,ai,c,.inr ⟨b,rfl,aa,?_,br,a3⟩,gl,rfl⟩
     rw[jm];exact dm
  obtain⟨v2,au,BW,Qr,qx,kS⟩:=Iu
  have bf:=qx.n
  obtain⟨H,cw⟩:∃H,H=au.set (h.n+16) (some (.cells [.int .i64 (Int.ofNat x.e.k),.str x.e.nm,v2,.aS,.aZ] 80 .own 0 0)):=⟨_,rfl⟩
  have lK:H.n=au.n:=by rw[cw];rfl
  have dz:Ext h.n h H:=by rw[cw];exact Ext.iB (by omega) (rQ.trans (by omega) qx)
  have Qs:mo (h.n+18) H v2 x.e.ns:=cu.Dc Qr (by omega) λd aa _=>by rw[cw];exact dB (by omega) rfl
  have q9:=w.az x ab
  have IG:H.get x.b=some (xF x.e x.ao x.bK x.a_):=(dz.get _ vU).trans vr
  have aex:cl Tryz.prog H 44 x.a_=some (.int .i64 (Int.ofNat x.e.args.length)):=cu.len (P:=Tryz.prog) (sT:=44) (by kernel_rfl) q9 H
  have aey:I.sound v2=true:=cu.sound Qr
  subst cw
  refine aeq (m+2) p i a5 h (R:=λy=>∃r g,y=.ret (.aO [.ptr r 0,.bool true]) g/\Ext h.n h g/\dY (mn h.n g.n) g (.mk x.e.k x.e.nm x.e.ns xs rt) (.ptr r 0)) ⟨false,h,DQ (m+1) w,λh=>(by cases h),λ_=>⟨aT w.st rfl,x.b,ej,aT w.st rfl,x.b,ej,x.e.k,aT (h:=h.room 18) vr rfl,x.e.nm,aT (h:=h.room 18) vr rfl,x.bK,aT (h:=h.room 18) vr rfl,v2,au,BW,kS,kS,aT IG rfl,aT IG rfl,cu.sound DL,aey,x.a_,aT IG rfl,x.e.args.length,aex,?_⟩⟩
  have rest:∀(y:J) (a_:I) (ps:List Nat) (Γ:Env),Ext h.n h y->h.n+18<=y.n->y.get (h.n+16)=some (.cells [.int .i64 (Int.ofNat x.e.k),.str x.e.nm,v2,a_,.aZ] 80 .own 0 0)->mo (h.n+18) y v2 x.e.ns->iW (h.n+18) y a_ ps->cT (λb=>h.n<=b/\b<y.n/\b≠h.n+16) y xs (ps.map g2)->cd [(0,.ptr p 0),(6,.ptr x.b 0),(7,.ptr (h.n+16) 0)] Γ->
    ∃b_ cv ay bw,bu.exit 0=.exit 0/\(⟨Γ,[],.none,y⟩:ah)=ah.mk bw [] .none ay/\cd [(0,.ptr p 0),(6,.ptr b_ 0),(7,.ptr cv 0)] bw/\∃c4,ar ay b_ (0+0+4)=some (.int .u64 (Int.ofNat c4))/\∃v4 a3 bg,Y (m+2) (.fn 19) [.ptr p 0,.int .u64 (Int.ofNat c4)] ay=.ret (.aO [v4,.bool a3]) bg/\I.cO v4=true/\∃bF,bt.storeCells bg cv (0+4) [v4]=some bF/\∃r g,a9.ret (.aO [.ptr cv 0,.bool true]) bF=.ret (.aO [.ptr r 0,.bool true]) g/\Ext h.n h g/\dY (mn h.n g.n) g (.mk x.e.k x.e.nm x.e.ns xs rt) (.ptr r 0):=by
   intro y a_ ps Γ aU lO rV kY eV AS cL
   have aez:y.get x.b=some (xF x.e x.ao x.bK x.a_):=(aU.get _ vU).trans vr
   have Qt:=nt.ext aU
   have ret:∃v4 a3 bg,Y (m+2) (.fn 19) [.ptr p 0,.int .u64 (Int.ofNat x.e.ret)] y=.ret (.aO [v4,.bool a3]) bg/\I.cO v4=true/\Ext y.n y bg/\qG (mn y.n bg.n) bg rt v4:=by
    cases rt with
    |none=>
     rw[hg] at gi
     have dc:x.e.ret=0:=gi
     rw[dc]
     exact⟨.aZ,false,y,aet m Qt (λe he h0=>by have:=(hs.aI e he).1;omega),rfl,Ext.refl _ _,rfl⟩
    |some u=>
     rw[hg] at gi
     rw[iP] at bA
     rw[show nK (some u)=iQ u by rw[nK]] at aev
     obtain⟨kO,bg,fO,e2,t4⟩:=IF N u (by omega) (by omega) (by omega) (m+2) (by omega) F y p _ s Qt hs gi
     exact⟨.ptr kO 0,true,bg,fO,rfl,e2,t4⟩
   obtain⟨v4,a3,bg,fO,Qu,e2,t4⟩:=ret
   have bU:=e2.n
   have node4:=(e2.get (h.n+16) (by omega)).trans rV
   have aeA:Ext h.n h bg:=aU.trans aU.n e2
   refine⟨x.b,h.n+16,y,Γ,rfl,rfl,cL,x.e.ret,aT aez rfl,v4,a3,bg,fO,Qu,bg.set (h.n+16) (some (.cells [.int .i64 (Int.ofNat x.e.k),.str x.e.nm,v2,a_,v4] 80 .own 0 0)),?_,h.n+16,_,rfl,Ext.iB (by omega) aeA,?_⟩
   · refine gN node4 rfl ?_
     simp[fS,Qu]
   · have low:∀d,d≠h.n+16->(bg.set (h.n+16) (some (.cells [.int .i64 (Int.ofNat x.e.k),.str x.e.nm,v2,a_,v4] 80 .own 0 0))).get d=bg.get d:=λd ao=>dB ao rfl
     have Qv:mo (h.n+18) (bg.set (h.n+16) (some (.cells [.int .i64 (Int.ofNat x.e.k),.str x.e.nm,v2,a_,v4] 80 .own 0 0))) v2 x.e.ns:=cu.Dc kY (by simp;omega) λd aa ad=>(low d (by omega)).trans (e2.get d ad)
     have Qw:iW (h.n+18) (bg.set (h.n+16) (some (.cells [.int .i64 (Int.ofNat x.e.k),.str x.e.nm,v2,a_,v4] 80 .own 0 0))) a_ ps:=cu.Dc eV (by simp;omega) λd aa ad=>(low d (by omega)).trans (e2.get d ad)
     refine⟨h.n+16,v2,a_,v4,ps.map g2,.own,0,0,rfl,⟨by omega,by simp;omega⟩,gk rfl,xw Qv (cu.jn Qv (by omega)),xw Qw (cu.jn Qw (by omega)),?_,?_⟩
     · exact cT.bO (λb ae=>⟨⟨ae.1,by simp;omega⟩,(low b ae.2.2).trans (e2.get b ae.2.1)⟩) _ _ AS
     · exact qG.bO (λb ae=>⟨⟨by have:=ae.1;omega,by simp;exact ae.2⟩,low b (by have:=ae.1;omega)⟩) _ _ t4
  rcases q9 with⟨xc,Qx⟩|⟨q,aJ,ba,a1,b7,fv⟩
  · have l1:xs=[]:=List.eq_nil_of_length_eq_zero (by rw[<-ho,Qx];rfl)
    rw[xc,Qx]
    refine a4.loop (by kernel_rfl) (λk st=>∃Γ,st=⟨Γ,[],.none,au.set (h.n+16) (some (.cells [.int .i64 (Int.ofNat x.e.k),.str x.e.nm,v2,.aS,.aZ] 80 .own 0 0))⟩/\cd [(0,.ptr p 0),(6,.ptr x.b 0),(7,.ptr (h.n+16) 0),(49,.aS),(50,.int .i64 (Int.ofNat 0)),(51,.int .i64 (Int.ofNat 0))] Γ) ?_ 0 _ (by omega) ⟨_,rfl,rfl,rfl,rfl,rfl,rfl,rfl,trivial⟩
    rintro dh b5 ⟨Γ,rfl,cL⟩
    refine a4.pre (aes _ p x.b (h.n+16) .aS _ ⟨by omega,?_⟩) cL rfl rfl rfl
    exact rest _ .aS [] _ dz (by simp;omega) (gk rfl) Qs (.inl ⟨rfl,rfl⟩) (by rw[l1];rfl) ⟨rfl,rfl,rfl,trivial⟩
  · rw[aJ]
    refine a4.loop (by kernel_rfl) (λk st=>∃j y a_ ps Γ,st=⟨Γ,[],.none,y⟩/\cd [(0,.ptr p 0),(6,.ptr x.b 0),(7,.ptr (h.n+16) 0),(49,.slice q 0 x.e.args.length (.aR 1)),(50,.int .i64 (Int.ofNat x.e.args.length)),(51,.int .i64 (Int.ofNat j))] Γ/\x.e.args.length-j=k/\j<=x.e.args.length/\Ext h.n h y/\h.n+18<=y.n/\y.get (h.n+16)=some (.cells [.int .i64 (Int.ofNat x.e.k),.str x.e.nm,v2,a_,.aZ] 80 .own 0 0)/\mo (h.n+18) y v2 x.e.ns/\iW (h.n+18) y a_ ps/\ps.length=j/\cT (λb=>h.n<=b/\b<y.n/\b≠h.n+16/\∀n cp,a_≠ .slice b 0 n cp) y (xs.take j) (ps.map g2)) ?_ x.e.args.length _ (by omega) ⟨0,_,.aS,[],_,rfl,⟨rfl,rfl,rfl,rfl,rfl,rfl,trivial⟩,by omega,by omega,dz,by simp;omega,gk rfl,Qs,.inl ⟨rfl,rfl⟩,rfl,rfl⟩
    rintro dh b5 ⟨j,y,a_,ps,Γ,rfl,cL,e0,aK,aU,lO,rV,kY,eV,hj,AS⟩
    refine a4.pre (aer _ p x.b (h.n+16) q 0 _ j (.aR 1) y ⟨λkF=>?_,λkF=>?_⟩) cL rfl rfl rfl
    · have mB:j<xs.length:=by omega
      have adY:=PW xs mB
      have agv:=zH (List.getElem_mem mB)
      have fB:ar y q (0+j*1)=some (rS x.e.args[j]):=by
       refine lB ((aU.get q fv).trans a1) ?_
       rw[jm,List.getElem?_map,Nat.zero_add,Nat.mul_one,List.getElem?_eq_getElem (by omega)];rfl
      obtain⟨kO,bg,fO,e2,t4⟩:=IF N xs[j] (by omega) (by omega) (by omega) (m+2) (by omega) F y p _ s (nt.ext aU) hs (yG j kF mB)
      have bU:=e2.n
      have node4:=(e2.get (h.n+16) (by omega)).trans rV
      obtain⟨K,de⟩:∃K,K=bg.push (.cells [.ptr kO 0] 35 .own 0 0):=⟨_,rfl⟩
      have abP:K.n=bg.n+1:=by rw[de];rfl
      have vi:Ext bg.n bg K:=by rw[de];exact Ext.push (Nat.le_refl _) _
      have aeB:iW (h.n+18) K a_ ps:=(eV.mono e2 (Nat.le_refl _)).mono vi (Nat.le_refl _)
      obtain⟨bF,b6,cU,c8,ek,en⟩:=Db lN aeB (by omega) (d:=kO) (src:=.slice bg.n 0 1 (.exact 1)) (by rw[de];exact uC lN bg 35 kO) (by omega)
      have IH:=cu.lt eV
      have aeC:∀n cp,a_≠ .slice (h.n+16) 0 n cp:=λn cp e=>by have:=(IH _ _ _ e).1;omega
      have node5:bF.get (h.n+16)=some (.cells [.int .i64 (Int.ofNat x.e.k),.str x.e.nm,v2,a_,.aZ] 80 .own 0 0):=(en _ (by omega) aeC).trans ((vi.get _ (by omega)).trans node4)
      have rU:∀d,d<bg.n->(∀n cp,a_≠ .slice d 0 n cp)->bF.get d=bg.get d:=λd ao cX=>(en d (by omega) cX).trans (vi.get d ao)
      subst de
      refine⟨kF,_,fB,kO,true,bg,fO,a_,aT node4 rfl,_,bF,b6,rfl,_,gN node5 rfl rfl,by omega,_,(by show _<dh;omega),j+1,_,_,ps++[kO],_,rfl,⟨rfl,rfl,rfl,rfl,rfl,rfl,trivial⟩,rfl,by omega,?_,by simp;omega,gk rfl,?_,?_,by simp[hj],?_⟩
      · refine Ext.iB (by omega) ⟨by omega,λd ao=>(rU d (by omega) λn cp e=>by have:=(IH _ _ _ e).1;omega).trans ((e2.get d (by have:=aU.n;omega)).trans (aU.get d ao))⟩
      · refine cu.bO kY (by simp;omega) λb ae tK=>?_
        have xQ:=cu.lt kY b _ _ ae
        refine(dB (by omega) rfl).trans ((rU b (by omega) λn cp e=>?_).trans (e2.get b tK))
        rcases kY with⟨aA,_⟩|⟨hT,aA,_,dm,_,_⟩
        · rw[aA] at ae;cases ae
        · rw[aA] at ae;cases ae
          rcases eV with⟨ax,_⟩|⟨agw,ax,_,gl,_,_⟩
          · rw[ax] at e;cases e
          · rw[ax] at e;cases e
            rw[dm] at gl
            injection gl with gl;injection gl with _ gl
            exact absurd gl (by decide)
      · exact .inr ⟨_,rfl,by simp,(dB (by omega) rfl).trans cU,by omega,by simp;omega⟩
      · rw[List.take_succ_eq_append_getElem mB,List.map_append]
        have old:∀b,h.n<=b->b<bg.n->b≠h.n+16->(∀n cp,a_≠ .slice b 0 n cp)->(h.n<=b/\b<(bF.set (h.n+16) (some (.cells [.int .i64 (Int.ofNat x.e.k),.str x.e.nm,v2,.slice (bg.push (.cells [.ptr kO 0] 35 .own 0 0)).n 0 (ps++[kO]).length (.aR 1),.aZ] 80 .own 0 0))).n/\b≠h.n+16/\∀n cp,I.slice (bg.push (.cells [.ptr kO 0] 35 .own 0 0)).n 0 (ps++[kO]).length (bR.aR 1)≠ .slice b 0 n cp)/\(bF.set (h.n+16) (some (.cells [.int .i64 (Int.ofNat x.e.k),.str x.e.nm,v2,.slice (bg.push (.cells [.ptr kO 0] 35 .own 0 0)).n 0 (ps++[kO]).length (.aR 1),.aZ] 80 .own 0 0))).get b=bg.get b:=λb aa ad av aG=>
         ⟨⟨aa,by simp;omega,av,λn cp e=>by cases e;omega⟩,(dB av rfl).trans (rU b ad aG)⟩
        refine cT.app (cT.cons (dY.bO (λb ae=>old b (by have:=ae.1;omega) ae.2 (by have:=ae.1;omega) λn cp e=>by have:=(IH _ _ _ e).2;have:=ae.1;omega) _ _ t4) cT.nil) (cT.bO (λb ae=>?_) _ _ AS)
        obtain⟨br,a3,dm,gl⟩:=ae
        obtain⟨dA,dK⟩:=old b br (by omega) dm gl
        exact⟨dA,dK.trans (e2.get b a3)⟩
    · obtain rfl:j=x.e.args.length:=by omega
      rw[List.take_of_length_le (by omega)] at AS
      exact rest y a_ ps _ aU lO rV kY eV (cT.bO (λb ae=>⟨⟨ae.1,ae.2.1,ae.2.2.1⟩,rfl⟩) _ _ AS) ⟨rfl,rfl,rfl,trivial⟩
theorem Qy(a b:a7):dd a b=true<->a=b:=by rw[n_];simp
theorem Qz:∀a b:List a7,hY a b=true<->a=b
 |[],[]=>by simp[hY]
 |[],_::_=>by simp[hY]
 |_::_,[]=>by simp[hY]
 |x::a,y::b=>by rw[hY,Bool.and_eq_true,Qy,Qz a b];simp
mutual
theorem II:∀t u:aC,u2 t u=true<->t=u
 |.mk k nm ns xs rt,.mk dh qo rD oG pf=>by
  rw[u2,Bool.and_eq_true,Bool.and_eq_true,Bool.and_eq_true,Bool.and_eq_true,Qy,Qz,QA xs oG,aeD rt pf,Nat.beq_eq]
  simp
theorem QA:∀t u:List aC,ih t u=true<->t=u
 |[],[]=>by simp[ih]
 |[],_::_=>by simp[ih]
 |_::_,[]=>by simp[ih]
 |x::a,y::b=>by rw[ih,Bool.and_eq_true,II x y,QA a b];simp
theorem aeD:∀t u:Option aC,iO t u=true<->t=u
 |none,none=>by simp[iO]
 |none,some _=>by simp[iO]
 |some _,none=>by simp[iO]
 |some x,some y=>by rw[iO,II x y];simp
end
theorem QB{t u:aC}(bc:sz t<=60)(hu:sz u<=60):w5 (some t) (some u)=true<->t=u:=by
 unfold w5
 rw[iP,iP,decide_eq_true bc,decide_eq_true hu,Bool.true_and,Bool.true_and,iO,II]
theorem lh.qs{s:ct}{a b:List Nat}(bM:lh s a)(h:∀i,b.count i=a.count i):lh s b:=by
 refine⟨λe he=>by rw[h];exact bM.n1 e he,λi af=>bM.has i ?_⟩
 have:=List.count_pos_iff.2 af
 rw[h] at this
 exact List.count_pos_iff.1 this
theorem aeE{D:Type}(f:D->Nat){l:List D}{k:Nat}(aq:k<l.length)(i:Nat):((l.take k++l.drop (k+1)).map f).count i=((l.map f).erase (f l[k])).count i:=by
 have e:l=l.take k++(l[k]::l.drop (k+1)):=by rw[<-List.drop_eq_getElem_cons aq,List.take_append_drop]
 rw[List.count_erase]
 conv=>rhs;arg 1;rw[e]
 rw[List.map_append,List.map_append,List.map_cons,List.count_append,List.count_append,List.count_cons]
 by_cases h:f l[k]=i
 · simp[h]
 · simp[h]
theorem aeF{s:ct}{i:Nat}{ids:List Nat}(hs:dG s)(bM:lh s ids)(af:i∈ids){j:Nat}{t:aC}(aK:j∈ids.erase i)(h:dH s.l j t):dH (iw i s).2.l j t:=by
 obtain⟨x,ab⟩:=Qo (bM.has i af)
 obtain⟨bC,cS⟩:=C_ ab
 have aQ:x.pins≠0:=by
  rw[bM.n1 x bC,cS]
  exact Nat.ne_of_gt (List.count_pos_iff.2 af)
 have e:iw i s=(0,nU {s with l:=s.l.map (ke i)}):=by
  unfold iw
  rw[ab]
  simp only[if_neg aQ]
 rw[e]
 refine dH.room (s:={s with l:=s.l.map (ke i)}) _ _ (hs.map (rO i)) ?_ (dH.map hs (rO i) h)
 obtain⟨y,aU,QC⟩:=bM.has j (List.mem_of_mem_erase aK)
 refine⟨_,List.mem_map.2 ⟨y,aU,rfl⟩,((rO i).id y).trans QC,?_⟩
 rw[Qn,bM.n1 y aU,QC]
 have:=List.count_pos_iff.2 aK
 rw[List.count_erase] at this
 by_cases h:j=i
 · rw[if_pos h];subst h;simp at this;omega
 · rw[if_neg h];rw[if_neg (by simp;exactλe=>h e.symm)] at this;omega
theorem aeG(m:Nat)(v w:I)(z:Int)(h:J){R:a9->Prop}(H:∃br:Bool,∃ai:J,(Y m) (.fn 15) [] h=.ret (.bool br) ai/\br=true/\∃aE:Nat,∃au:J,(Y m) (.fn 7) [.int .i64 z] ai=.ret (.ptr aE 0) au/\a4 Tryz.prog Tryz.f6 (Y m) [1,1,1,1,1,0,1,0] (ah.mk [(0,v),(1,w),(7,.ptr aE 0),(8,.aS),(9,.aS),(10,.int .i64 (.ofNat 0))] [] .none au) (λb9 cf=>∃ay:J,∃bw:Env,b9=.exit 0/\cf=ah.mk bw [] .none ay/\cd [] bw/\R (.ret (.bool true) ay))):
  R (Y (m+1) (.fn 6) [v,w,.int .i64 z] h):=
 dQ (intr:=b3) [(1020,.f),(4000,.gO [0,1,7,8,9,10] [(.exit 0,[])])] [(0,.o v),(1,.o w),(2,.v (.int .i64 z))] Tryz.func6 (by kernel_rfl) (by kernel_rfl) (by kernel_rfl) rfl (Eq.mp (by kernel_rfl) H)
theorem aeH(call:aP)(b off N j8 ro kP p i:Nat)(cp lR:bR)(fc fe:I)(h:J){Q:bu->ah->Prop}(H:(i<N->(i<30->i<N/\∃v1:I,ar h b (off+i*1)=some v1/\∃aE:Nat,∃ai:J,call (.fn 12) [v1] h=.ret (.ptr aE 0) ai/\∃bf:Nat,∃bH:Nat,∃au:J,call (.fn 11) [.ptr p 0,.ptr aE 0] ai=.ret (.aO [.int .u64 (.ofNat bf),.int .i64 (.ofNat bH)]) au/\bH=0/\¬bf=0/\∃bU:Nat,∃b_:Nat,∃ay:J,db Tryz.prog (J.push au (.cells [.ptr aE 0] 35 .own 0 0)) 50 (some 50) fc (.slice au.n 0 1 (.exact 1))=some (.slice bU 0 b_ (.aR 1),ay)/\∃cv:Nat,∃c4:Nat,∃bg:J,db Tryz.prog (J.push ay (.cells [.int .u64 (.ofNat bf)] 32 .own 0 0)) 44 (some 44) fe (.slice ay.n 0 1 (.exact 1))=some (.slice cv 0 c4 (.aR 1),bg)/\(i<kP->i<kP/\∃eo:Nat,ar bg j8 (ro+i*1)=some (.int .u8 (.ofNat eo))/\∃eG:Nat,arith .rem .u8 (.ofNat eo) (.ofNat 3)=some (.int .u8 (.ofNat eG))/\(eG=0->i<kP/\∃fK:Nat,ar bg j8 (ro+i*1)=some (.int .u8 (.ofNat fK))/\∃im:Nat,iZ Tryz.prog 5 3 (.int .u8 (.ofNat fK)) bg=jr.val (.int .i64 (.ofNat im)) bg/\∃gQ:Nat,arith .rem .i64 (.ofNat im) (.ofNat c4)=some (.int .i64 (.ofNat gQ))/\gQ<c4/\∃jV:Nat,ar bg cv (0+gQ*1)=some (.int .u64 (.ofNat jV))/\∃nN:Nat,∃bF:J,call (.fn 9) [.ptr p 0,.int .u64 (.ofNat jV)] bg=.ret (.int .i64 (.ofNat nN)) bF/\nN=0/\∃v2:I,c1 Tryz.prog (bF.room 10) 50 (.slice bU 0 b_ (.aR 1)) none (some (.int .i64 (.ofNat gQ))) (some (.int .i64 (.ofNat gQ)))=some v2/\gQ+1<9223372036854775808/\∃cz:I,c1 Tryz.prog (bF.room 10) 50 (.slice bU 0 b_ (.aR 1)) (some (.int .i64 (.ofNat (gQ+1)))) none none=some cz/\∃mg:Nat,∃QD:Nat,∃QE:Nat,∃aF:bR,∃dk:J,db Tryz.prog (bF.room 10) 50 (some 50) v2 cz=some (.slice mg QD QE aF,dk)/\I.sound v2=true/\I.sound cz=true/\∃v4:I,c1 Tryz.prog (dk.room 10) 44 (.slice cv 0 c4 (.aR 1)) none (some (.int .i64 (.ofNat gQ))) (some (.int .i64 (.ofNat gQ)))=some v4/\gQ+1<9223372036854775808/\∃er:I,c1 Tryz.prog (dk.room 10) 44 (.slice cv 0 c4 (.aR 1)) (some (.int .i64 (.ofNat (gQ+1)))) none none=some er/\∃QF:Nat,∃QG:Nat,∃QH:Nat,∃a6:bR,∃dX:J,db Tryz.prog (dk.room 10) 44 (some 44) v4 er=some (.slice QF QG QH a6,dX)/\I.sound v4=true/\I.sound er=true/\a4 Tryz.prog Tryz.f6 call [1,1,1,1,1,0,1,0,0,1,0,0,1,1,1,1,1,1,1,0] (ah.mk [(0,.slice b off N cp),(1,.slice j8 ro kP lR),(7,.ptr p 0),(8,.slice mg QD QE aF),(9,.slice QF QG QH a6),(10,.int .i64 (.ofNat i)),(15,.int .i64 (.ofNat 0))] [] .none dX) (λb9 cf=>∃v6:I,∃hM:I,∃fJ:J,∃bw:Env,b9=.exit 2/\cf=ah.mk bw [] .none fJ/\cd [(0,.slice b off N cp),(1,.slice j8 ro kP lR),(7,.ptr p 0),(8,v6),(9,hM),(10,.int .i64 (.ofNat i))] bw/\i+1<9223372036854775808/\Q .nrm (ah.mk [(0,.slice b off N cp),(1,.slice j8 ro kP lR),(7,.ptr p 0),(8,v6),(9,hM),(10,.int .i64 (.ofNat (i+1)))] [] .none fJ)))/\(¬eG=0->a4 Tryz.prog Tryz.f6 call [1,1,1,1,1,0,1,0,0,1,0,0,1,1,1,1,1,1,1,0] (ah.mk [(0,.slice b off N cp),(1,.slice j8 ro kP lR),(7,.ptr p 0),(8,.slice bU 0 b_ (.aR 1)),(9,.slice cv 0 c4 (.aR 1)),(10,.int .i64 (.ofNat i)),(15,.int .i64 (.ofNat 0))] [] .none bg) (λb9 cf=>∃gA:I,∃m3:I,∃ir:J,∃bV:Env,b9=.exit 2/\cf=ah.mk bV [] .none ir/\cd [(0,.slice b off N cp),(1,.slice j8 ro kP lR),(7,.ptr p 0),(8,gA),(9,m3),(10,.int .i64 (.ofNat i))] bV/\i+1<9223372036854775808/\Q .nrm (ah.mk [(0,.slice b off N cp),(1,.slice j8 ro kP lR),(7,.ptr p 0),(8,gA),(9,m3),(10,.int .i64 (.ofNat (i+1)))] [] .none ir))))/\(¬i<kP->a4 Tryz.prog Tryz.f6 call [1,1,1,1,1,0,1,0,0,1,0,0,1,1,1,1,1,1,1,0] (ah.mk [(0,.slice b off N cp),(1,.slice j8 ro kP lR),(7,.ptr p 0),(8,.slice bU 0 b_ (.aR 1)),(9,.slice cv 0 c4 (.aR 1)),(10,.int .i64 (.ofNat i)),(15,.int .i64 (.ofNat 0))] [] .none bg) (λb9 cf=>∃v10:I,∃v11:I,∃la:J,∃c5:Env,b9=.exit 2/\cf=ah.mk c5 [] .none la/\cd [(0,.slice b off N cp),(1,.slice j8 ro kP lR),(7,.ptr p 0),(8,v10),(9,v11),(10,.int .i64 (.ofNat i))] c5/\i+1<9223372036854775808/\Q .nrm (ah.mk [(0,.slice b off N cp),(1,.slice j8 ro kP lR),(7,.ptr p 0),(8,v10),(9,v11),(10,.int .i64 (.ofNat (i+1)))] [] .none la))))/\(¬i<30->Q (.exit 0) (ah.mk [(0,.slice b off N cp),(1,.slice j8 ro kP lR),(7,.ptr p 0),(8,fc),(9,fe),(10,.int .i64 (.ofNat i))] [] .none h)))/\(¬i<N->Q (.exit 0) (ah.mk [(0,.slice b off N cp),(1,.slice j8 ro kP lR),(7,.ptr p 0),(8,fc),(9,fe),(10,.int .i64 (.ofNat i))] [] .none h))):
  a4 Tryz.prog Tryz.f6 call [1,1,1,1,1,0,1,0,0] ⟨[(0,.slice b off N cp),(1,.slice j8 ro kP lR),(7,.ptr p 0),(8,fc),(9,fe),(10,.int .i64 (.ofNat i))],[],.none,h⟩ Q:=
 dF [(1047,.f),(1049,.f),(36,.bq .o),(53,.bq (.wB (.aR 1))),(57,.bq (.wB (.aR 1))),(74,.bq (.n .i64)),(77,.bq (.n .i64)),(1084,.f),(88,.bq .o),(92,.bq .o),(93,.bq .fx),(97,.bq .o),(101,.bq .o),(102,.bq .fx),(4002,.gO [0,1,7,8,9,10,15] [(.exit 2,[(0,.is (.slice b off N cp)),(1,.is (.slice j8 ro kP lR)),(7,.is (.ptr p 0)),(8,.o),(9,.o),(10,.is (.int .i64 (.ofNat i)))])])] [0,1,7,8,9,10] [(0,.v (.slice b off N cp)),(1,.v (.slice j8 ro kP lR)),(7,.v (.ptr p 0)),(8,.o fc),(9,.o fe),(10,.v (.int .i64 (.ofNat i)))] rfl (Eq.mp (by kernel_rfl) H)
theorem aeI(call:aP)(b off N p i:Nat)(cp:bR)(fc fe:I)(h:J){Q:bu->ah->Prop}(H:(i<N->(i<30->i<N/\∃v1:I,ar h b (off+i*1)=some v1/\∃aE:Nat,∃ai:J,call (.fn 12) [v1] h=.ret (.ptr aE 0) ai/\∃bf:Nat,∃bH:Nat,∃au:J,call (.fn 11) [.ptr p 0,.ptr aE 0] ai=.ret (.aO [.int .u64 (.ofNat bf),.int .i64 (.ofNat bH)]) au/\bH=0/\¬bf=0/\∃bU:Nat,∃b_:Nat,∃ay:J,db Tryz.prog (J.push au (.cells [.ptr aE 0] 35 .own 0 0)) 50 (some 50) fc (.slice au.n 0 1 (.exact 1))=some (.slice bU 0 b_ (.aR 1),ay)/\∃cv:Nat,∃c4:Nat,∃bg:J,db Tryz.prog (J.push ay (.cells [.int .u64 (.ofNat bf)] 32 .own 0 0)) 44 (some 44) fe (.slice ay.n 0 1 (.exact 1))=some (.slice cv 0 c4 (.aR 1),bg)/\¬i<0/\a4 Tryz.prog Tryz.f6 call [1,1,1,1,1,0,1,0,0,1,0,0,1,1,1,1,1,1,1,0] (ah.mk [(0,.slice b off N cp),(1,.aS),(7,.ptr p 0),(8,.slice bU 0 b_ (.aR 1)),(9,.slice cv 0 c4 (.aR 1)),(10,.int .i64 (.ofNat i)),(15,.int .i64 (.ofNat 0))] [] .none bg) (λb9 cf=>∃v2:I,∃cz:I,∃bF:J,∃bw:Env,b9=.exit 2/\cf=ah.mk bw [] .none bF/\cd [(0,.slice b off N cp),(1,.aS),(7,.ptr p 0),(8,v2),(9,cz),(10,.int .i64 (.ofNat i))] bw/\i+1<9223372036854775808/\Q .nrm (ah.mk [(0,.slice b off N cp),(1,.aS),(7,.ptr p 0),(8,v2),(9,cz),(10,.int .i64 (.ofNat (i+1)))] [] .none bF)))/\(¬i<30->Q (.exit 0) (ah.mk [(0,.slice b off N cp),(1,.aS),(7,.ptr p 0),(8,fc),(9,fe),(10,.int .i64 (.ofNat i))] [] .none h)))/\(¬i<N->Q (.exit 0) (ah.mk [(0,.slice b off N cp),(1,.aS),(7,.ptr p 0),(8,fc),(9,fe),(10,.int .i64 (.ofNat i))] [] .none h))):
  a4 Tryz.prog Tryz.f6 call [1,1,1,1,1,0,1,0,0] ⟨[(0,.slice b off N cp),(1,.aS),(7,.ptr p 0),(8,fc),(9,fe),(10,.int .i64 (.ofNat i))],[],.none,h⟩ Q:=
 dF [(1047,.f),(1049,.f),(36,.bq .o),(53,.bq (.wB (.aR 1))),(57,.bq (.wB (.aR 1))),(74,.bq (.n .i64)),(77,.bq (.n .i64)),(1084,.f),(88,.bq .o),(92,.bq .o),(93,.bq .fx),(97,.bq .o),(101,.bq .o),(102,.bq .fx),(1063,.f),(4002,.gO [0,1,7,8,9,10,15] [(.exit 2,[(0,.is (.slice b off N cp)),(1,.is .aS),(7,.is (.ptr p 0)),(8,.o),(9,.o),(10,.is (.int .i64 (.ofNat i)))])])] [0,1,7,8,9,10] [(0,.v (.slice b off N cp)),(1,.v .aS),(7,.v (.ptr p 0)),(8,.o fc),(9,.o fe),(10,.v (.int .i64 (.ofNat i)))] rfl (Eq.mp (by kernel_rfl) H)
theorem aeJ(call:aP)(p i:Nat)(v w fc fe:I)(h:J){Q:bu->ah->Prop}(H:∃aE:Nat,cl Tryz.prog h 43 v=some (.int .i64 (.ofNat aE))/\¬i<aE/\Q (.exit 0) (ah.mk [(0,v),(1,w),(7,.ptr p 0),(8,fc),(9,fe),(10,.int .i64 (.ofNat i))] [] .none h)):
  a4 Tryz.prog Tryz.f6 call [1,1,1,1,1,0,1,0,0] ⟨[(0,v),(1,w),(7,.ptr p 0),(8,fc),(9,fe),(10,.int .i64 (.ofNat i))],[],.none,h⟩ Q:=
 dF [(1028,.f)] [0,1,7,8,9,10] [(0,.o v),(1,.o w),(7,.v (.ptr p 0)),(8,.o fc),(9,.o fe),(10,.v (.int .i64 (.ofNat i)))] rfl (Eq.mp (by kernel_rfl) H)
theorem aeK(call:aP)(p g3 fQ N i a:Nat)(tc kg:bR)(v w:I)(h:J){Q:bu->ah->Prop}(H:(a<N->a<N/\∃aE:Nat,ar h fQ (0+a*1)=some (.int .u64 (.ofNat aE))/\∃bf:Nat,∃ai:J,call (.fn 19) [.ptr p 0,.int .u64 (.ofNat aE)] h=.ret (.aO [.ptr bf 0,.bool true]) ai/\a<N/\∃bH:Nat,ar ai g3 (0+a*1)=some (.ptr bH 0)/\∃au:J,call (.fn 20) [.ptr bf 0,.ptr bH 0] ai=.ret (.bool true) au/\a4 Tryz.prog Tryz.f6 call [1,1,1,1,1,0,1,0,0,1,0,0,1,1,1,1,1,1,1,0,0,1,0,0,1,1,1,0] (ah.mk [(0,v),(1,w),(7,.ptr p 0),(8,.slice g3 0 N tc),(9,.slice fQ 0 N kg),(10,.int .i64 (.ofNat i)),(15,.int .i64 (.ofNat a)),(18,.int .i64 (.ofNat 0))] [] .none au) (λb9 cf=>∃ay:J,∃bw:Env,b9=.exit 4/\cf=ah.mk bw [] .none ay/\cd [(0,v),(1,w),(7,.ptr p 0),(8,.slice g3 0 N tc),(9,.slice fQ 0 N kg),(10,.int .i64 (.ofNat i)),(15,.int .i64 (.ofNat a))] bw/\a+1<9223372036854775808/\Q .nrm (ah.mk [(0,v),(1,w),(7,.ptr p 0),(8,.slice g3 0 N tc),(9,.slice fQ 0 N kg),(10,.int .i64 (.ofNat i)),(15,.int .i64 (.ofNat (a+1)))] [] .none ay)))/\(¬a<N->Q (.exit 2) (ah.mk [(0,v),(1,w),(7,.ptr p 0),(8,.slice g3 0 N tc),(9,.slice fQ 0 N kg),(10,.int .i64 (.ofNat i)),(15,.int .i64 (.ofNat a))] [] .none h))):
  a4 Tryz.prog Tryz.f6 call [1,1,1,1,1,0,1,0,0,1,0,0,1,1,1,1,1,1,1,0,0] ⟨[(0,v),(1,w),(7,.ptr p 0),(8,.slice g3 0 N tc),(9,.slice fQ 0 N kg),(10,.int .i64 (.ofNat i)),(15,.int .i64 (.ofNat a))],[],.none,h⟩ Q:=
 dF [(115,.bq (.fC [.p,.is (.bool true)])),(1121,.f),(125,.bq .p),(126,.bq (.is (.bool true))),(1128,.f),(4004,.gO [0,1,7,8,9,10,15,18] [(.exit 4,[(0,.io v),(1,.io w),(7,.is (.ptr p 0)),(8,.is (.slice g3 0 N tc)),(9,.is (.slice fQ 0 N kg)),(10,.is (.int .i64 (.ofNat i))),(15,.is (.int .i64 (.ofNat a)))])])] [0,1,7,8,9,10,15] [(0,.o v),(1,.o w),(7,.v (.ptr p 0)),(8,.v (.slice g3 0 N tc)),(9,.v (.slice fQ 0 N kg)),(10,.v (.int .i64 (.ofNat i))),(15,.v (.int .i64 (.ofNat a)))] rfl (Eq.mp (by kernel_rfl) H)
theorem aeL(call:aP)(p g3 fQ N i a c:Nat)(tc kg:bR)(v w:I)(h:J){Q:bu->ah->Prop}(H:(c<a->a<N/\∃aE:Nat,ar (h.room 19) fQ (0+a*1)=some (.int .u64 (.ofNat aE))/\c<N/\∃bf:Nat,ar (h.room 19) fQ (0+c*1)=some (.int .u64 (.ofNat bf))/\a<N/\∃bH:Nat,ar (h.room 19) g3 (0+a*1)=some (.ptr bH 0)/\c<N/\∃bU:Nat,ar (h.room 19) g3 (0+c*1)=some (.ptr bU 0)/\∃br:Bool,∃ai:J,call (.fn 20) [.ptr bH 0,.ptr bU 0] (h.room 19)=.ret (.bool br) ai/\ar ai fQ (0+a*1)=some (.int .u64 (.ofNat aE))/\ar ai fQ (0+c*1)=some (.int .u64 (.ofNat bf))/\eS (a8 (.ofNat aE) (.ofNat bf)) br=true/\c+1<9223372036854775808/\Q .nrm (ah.mk [(0,v),(1,w),(7,.ptr p 0),(8,.slice g3 0 N tc),(9,.slice fQ 0 N kg),(10,.int .i64 (.ofNat i)),(15,.int .i64 (.ofNat a)),(18,.int .i64 (.ofNat (c+1)))] [] .none ai))/\(¬c<a->Q (.exit 4) (ah.mk [(0,v),(1,w),(7,.ptr p 0),(8,.slice g3 0 N tc),(9,.slice fQ 0 N kg),(10,.int .i64 (.ofNat i)),(15,.int .i64 (.ofNat a)),(18,.int .i64 (.ofNat c))] [] .none h))):
  a4 Tryz.prog Tryz.f6 call [1,1,1,1,1,0,1,0,0,1,0,0,1,1,1,1,1,1,1,0,0,1,0,0,1,1,1,0,0] ⟨[(0,v),(1,w),(7,.ptr p 0),(8,.slice g3 0 N tc),(9,.slice fQ 0 N kg),(10,.int .i64 (.ofNat i)),(15,.int .i64 (.ofNat a)),(18,.int .i64 (.ofNat c))],[],.none,h⟩ Q:=
 dF [(1152,.f),(146,.bq .p),(150,.bq .p),(151,.bq .b)] [0,1,7,8,9,10,15,18] [(0,.o v),(1,.o w),(7,.v (.ptr p 0)),(8,.v (.slice g3 0 N tc)),(9,.v (.slice fQ 0 N kg)),(10,.v (.int .i64 (.ofNat i))),(15,.v (.int .i64 (.ofNat a))),(18,.v (.int .i64 (.ofNat c)))] rfl (Eq.mp (by kernel_rfl) H)
section
variable {D:Type} {P:Program} {enc:D->List I} {w:Nat} {el sT:TypeId}
def m9(enc:D->List I)(w:Nat)(el:TypeId)(B:Nat)(h:J)(v:I)(ds:List D):Prop:=
 cu enc w el B h v ds\/∃q rest,v=.slice q 0 ds.length (.exact ds.length)/\h.get q=some (.cells (cV enc (ds++rest)) el .aR 0 0)/\B<=q/\q<h.n
theorem m9.lt{B:Nat}{h:J}{v:I}{ds:List D}(aY:m9 enc w el B h v ds):∀d k cp,v=.slice d 0 k cp->B<=d/\d<h.n:=by
 intro d k cp e
 rcases aY with aY|⟨q,rest,rfl,aa,ad,av⟩
 · exact cu.lt aY d k cp e
 · cases e;exact⟨ad,av⟩
theorem m9.bO{B:Nat}{h g:J}{v:I}{ds:List D}(aY:m9 enc w el B h v ds)(aN:h.n<=g.n)(aq:∀q,(∃k cp,v=.slice q 0 k cp)->q<h.n->g.get q=h.get q):m9 enc w el B g v ds:=by
 rcases aY with aY|⟨q,rest,rfl,aa,ad,av⟩
 · exact .inl (cu.bO aY aN λq aJ jo=>aq q ⟨_,_,aJ⟩ jo)
 · exact .inr ⟨q,rest,rfl,(aq q ⟨_,_,rfl⟩ av).trans aa,ad,by omega⟩
theorem QI(T:jy P enc w el sT){h:J}{src:I}{q tc aI af:Nat}{aeM:gS}{ds rest es:List D}(al:h.get q=some (.cells (cV enc (ds++rest)) tc aeM aI af))(hs:fg h w src=some (es.length,cV enc es))(h0:0<es.length)(aw:ds.length+es.length<=1000000):
  db P h sT (some sT) (.slice q 0 ds.length (.exact ds.length)) src=some (.slice h.n 0 (ds.length+es.length) (.aR w),h.push (.cells (cV enc (ds++es)) el .aR 0 0)):=by
 obtain⟨i,af,bA,mI⟩:=T.info
 obtain⟨z,aW,hS⟩:=T.zero
 obtain⟨k,aq⟩:∃k,es.length=k+1:=⟨es.length-1,by omega⟩
 have gi:kA (ds.length+(k+1)) i.bytes=true:=by
  unfold kA
  have aa:(4*(ds.length+(k+1))+2048)*(i.bytes+1)<=5000000*1001:=Nat.mul_le_mul (by omega) (by omega)
  simp;omega
 have iL:kB h el i.bytes w (ds.length+(k+1)) z (cV enc ds++cV enc es) 0=some (.slice h.n 0 (ds.length+(k+1)) (.aR w),h.push (.cells (cV enc ds++cV enc es) el .aR 0 0)):=
  uz gi (by rw[hS];simp) (by rw[List.all_append,uB T.cell,uB T.cell];rfl)
 have hlen:=zk T.len ds
 have l6:Nat.ble (ds.length+(k+1)) ds.length=false:=by
  cases ab:Nat.ble (ds.length+(k+1)) ds.length with
  |false=>rfl
  |true=>have:=Nat.le_of_ble_eq_true ab;omega
 have fB:bt.loadCells h q 0 (ds.length*w)=some (cV enc ds):=by
  have:=Ch (h:=h) (xs:=cV enc ds) (rest:=cV enc rest) (by rw[<-FW];exact al)
  rwa [hlen] at this
 rw[aq] at hs⊢
 rw[FW]
 simp only[db,T.hu,T.fj,af,aW,bA,hs,l6,fB,iL]
theorem aeN(T:jy P enc w el sT){h:J}{src:I}{q k:Nat}(hs:fg h w src=some (0,[])):db P h sT (some sT) (.slice q 0 k (.exact k)) src=some (.slice q 0 k (.exact k),h):=by
 obtain⟨i,af,bA,mI⟩:=T.info
 obtain⟨z,aW,hS⟩:=T.zero
 have l6:Nat.ble (k+0) k=true:=Nat.ble_eq_true_of_le (Nat.le_refl _)
 simp only[db,T.hu,T.fj,af,aW,bA,hs,l6]
theorem QJ(T:jy P enc w el sT){B:Nat}{h:J}{v src:I}{ds:List D}{d:D}(aY:m9 enc w el B h v ds)(cC:B<=h.n)(hs:fg h w src=some (1,enc d))(aw:ds.length+1<=1000000):
  ∃an,db P h sT (some sT) v src=some (.slice h.n 0 (ds++[d]).length (.aR w),an)/\an.get h.n=some (.cells (cV enc (ds++[d])) el .aR 0 0)/\an.n=h.n+1/\∀c,c<h.n->(∀n cp,v≠ .slice c 0 n cp)->an.get c=h.get c:=by
 rcases aY with aY|⟨q,rest,rfl,aa,ad,av⟩
 · obtain⟨an,b6,cU,c8,_,en⟩:=Db T aY cC hs aw
   exact⟨an,b6,cU,c8,en⟩
 · have dw:fg h w src=some ([d].length,cV enc [d]):=by rw[hs];simp[cV]
   refine⟨_,by rw[List.length_append];exact QI T aa dw (by simp) (by simpa using aw),fl rfl,rfl,λc ag _=>lA ag rfl⟩
end
theorem QK{D:Type}{P:Program}{e:D->I}{el sT:TypeId}(T:jy P (λd=>[e d]) 1 el sT){B:Nat}{h:J}{b k:Nat}{ds:List D}(al:h.get b=some (.cells (cV (λd=>[e d]) ds) el .aR 0 0))(aq:k<ds.length)(cC:B<=b)(ae:b<h.n)(aw:ds.length<=1000000):
  ∃cz,c1 P h sT (.slice b 0 ds.length (.aR 1)) none (some (.int .i64 (Int.ofNat k))) (some (.int .i64 (Int.ofNat k)))=some (.slice b 0 k (.exact k))/\c1 P h sT (.slice b 0 ds.length (.aR 1)) (some (.int .i64 (Int.ofNat (k+1)))) none none=some cz/\I.sound cz=true/\
   ∃q cp g,db P h sT (some sT) (.slice b 0 k (.exact k)) cz=some (.slice q 0 (ds.take k++ds.drop (k+1)).length cp,g)/\m9 (λd=>[e d]) 1 el B g (.slice q 0 (ds.take k++ds.drop (k+1)).length cp) (ds.take k++ds.drop (k+1))/\Ext h.n h g/\(q=b\/h.n<=q):=by
 have cJ:Nat.ble k ds.length=true:=Nat.ble_eq_true_of_le (by omega)
 have br:Nat.ble k k=true:=Nat.ble_eq_true_of_le (Nat.le_refl _)
 have a3:Nat.ble 0 k=true:=Nat.ble_eq_true_of_le (Nat.zero_le _)
 have dm:Nat.ble ds.length ds.length=true:=Nat.ble_eq_true_of_le (Nat.le_refl _)
 have gl:Nat.ble (k+1) ds.length=true:=Nat.ble_eq_true_of_le aq
 have hu:=T.hu
 have bA:=T.size
 have s1:c1 P h sT (.slice b 0 ds.length (.aR 1)) none (some (.int .i64 (Int.ofNat k))) (some (.int .i64 (Int.ofNat k)))=some (.slice b 0 k (.exact k)):=by
  simp[c1,hu,bA,bounds,g4,eI,cJ,br,a3]
 have DU:(ds.take k).length=k:=by rw[List.length_take];omega
 have Dm:ds=(ds.take k++[ds[k]])++ds.drop (k+1):=by
  rw[List.append_assoc,List.singleton_append,<-List.drop_eq_getElem_cons aq,List.take_append_drop]
 by_cases p1:k+1<ds.length
 · have k5:Nat.blt (k+1) ds.length=true:=Nat.ble_eq_true_of_le p1
   have j2:(ds.drop (k+1)).length=ds.length-(k+1):=List.length_drop
   have hs:fg h 1 (.slice b (0+(k+1)*1) (ds.length-(k+1)) (.aR 1))=some ((ds.drop (k+1)).length,cV (λd=>[e d]) (ds.drop (k+1))):=by
    have:bt.loadCells h b (0+(k+1)*1) ((ds.length-(k+1))*1)=some (cV (λd=>[e d]) (ds.drop (k+1))):=by
     refine pa al ?_
     have aA:jH (0+(k+1)*1) (cV (λd=>[e d]) ds)=cV (λd=>[e d]) (ds.drop (k+1)):=by
      rw[ng,jm,jm,List.map_drop,Nat.zero_add,Nat.mul_one]
     rw[aA]
     have:=zh (cV (λd=>[e d]) (ds.drop (k+1))) []
     rw[List.append_nil,zk (w:=1) (λ_=>rfl),j2] at this
     exact this
    simp only[fg,this,j2]
   have bc:(cV (λd=>[e d]) ds)=cV (λd=>[e d]) (ds.take k++([ds[k]]++ds.drop (k+1))):=by rw[<-List.append_assoc,<-Dm]
   have aL:=QI T (h:=h) (q:=b) (ds:=ds.take k) (rest:=[ds[k]]++ds.drop (k+1)) (es:=ds.drop (k+1)) (src:=.slice b (0+(k+1)*1) (ds.length-(k+1)) (.aR 1)) (by rw[<-bc];exact al) hs (by omega) (by omega)
   rw[DU] at aL
   refine⟨.slice b (0+(k+1)*1) (ds.length-(k+1)) (.aR 1),s1,?_,rfl,h.n,.aR 1,_,by rw[List.length_append,DU];exact aL,.inl (.inr ⟨h.n,rfl,by rw[List.length_append];omega,fl rfl,by omega,by simp⟩),Ext.push (Nat.le_refl _) _,.inr (Nat.le_refl _)⟩
   simp[c1,hu,bA,bounds,g4,eI,dm,gl,k5]
 · have agx:k+1=ds.length:=by omega
   have k5:Nat.blt (k+1) ds.length=false:=by
    cases ab:Nat.blt (k+1) ds.length with
    |false=>rfl
    |true=>have:=Nat.le_of_ble_eq_true ab;omega
   have hdr:ds.drop (k+1)=[]:=List.drop_eq_nil_of_le (by omega)
   have aL:=aeN T (h:=h) (q:=b) (k:=k) (src:=.slice b 0 0 .dead) rfl
   refine⟨.slice b 0 0 .dead,s1,?_,rfl,b,.exact k,h,?_,.inr ⟨b,[ds[k]],?_,?_,cC,ae⟩,Ext.refl _ _,.inl rfl⟩
   · simp[c1,hu,bA,bounds,g4,eI,dm,gl,k5]
   · rw[hdr,List.append_nil,DU];exact aL
   · rw[hdr,List.append_nil,DU]
   · rw[hdr,List.append_nil]
     have:ds=ds.take k++[ds[k]]:=by
      conv=>lhs;rw[Dm,hdr,List.append_nil]
     rw[<-this];exact al
abbrev jq:=Nat×aC×Nat
abbrev vz(x:jq):I:=rS x.1
abbrev vA(x:jq):I:=g2 x.2.2
theorem IJ:jy Tryz.prog (λx:jq=>[vz x]) 1 32 44:=⟨qI.hu,qI.fj,qI.info,qI.zero,qI.size,λ_=>rfl,λ_=>rfl,qI.pos⟩
theorem IK:jy Tryz.prog (λx:jq=>[vA x]) 1 35 50:=⟨lN.hu,lN.fj,lN.info,lN.zero,lN.size,λ_=>rfl,λ_=>rfl,lN.pos⟩
theorem m9.jC{D:Type}{e:D->I}{el B n q:Nat}{c:bR}{h:J}{ds:List D}(aY:m9 (λd=>[e d]) 1 el B h (.slice q 0 n c) ds)(i:Nat)(af:i<ds.length):ar h q (0+i*1)=some (e ds[i]):=by
 rcases aY with aY|⟨b,rest,aa,ad,_⟩
 · rcases aY with⟨aa,_⟩|⟨b,aa,_,ad,_⟩
   · cases aa
   · cases aa
     refine lB ad ?_
     rw[jm,List.getElem?_map,Nat.zero_add,Nat.mul_one,List.getElem?_eq_getElem af];rfl
 · cases aa
   refine lB ad ?_
   rw[jm,List.getElem?_map,Nat.zero_add,Nat.mul_one,List.getElem?_append_left af,List.getElem?_eq_getElem af];rfl
def IL(B:Nat)(fc fe:I)(L:Nat->Prop)(d:Nat):Prop:=d<B\/(∃k cp,fc=.slice d 0 k cp)\/(∃k cp,fe=.slice d 0 k cp)\/L d
structure pG(B:Nat)(h:J)(p i:Nat)(y:J)(fc fe:I)(s:ct)(X:List jq)(L:Nat->Prop):Prop where
 st:g8 (IL B fc fe L) y p s
 rt:m9 (λx:jq=>[vA x]) 1 35 B y fc X
 qL:m9 (λx:jq=>[vz x]) 1 32 B y fe X
 aI:∀d,L d->B<=d/\d<y.n/\(∀k cp,fc≠ .slice d 0 k cp)/\∀k cp,fe≠ .slice d 0 k cp
 ty:∀x∈X,dY L y x.2.1 (.ptr x.2.2 0)
 e4:b2 (λd=>d<B) h y
 up:B<=y.n
 oO:Fit (61*i) s
 et:lh s (X.map (·.1))
 tw:∀x∈X,dH s.l x.1 x.2.1
 lM:∀x∈X,dv (some x.2.1)=0
 tb:X.length<=i
theorem pG.lt{B:Nat}{h:J}{p i:Nat}{y:J}{fc fe:I}{s:ct}{X:List jq}{L:Nat->Prop}(bM:pG B h p i y fc fe s X L):∀b,IL B fc fe L b->b<y.n:=by
 intro b ae
 rcases ae with ae|⟨k,cp,ae⟩|⟨k,cp,ae⟩|ae
 · have:=bM.up;omega
 · exact(bM.rt.lt b k cp ae).2
 · exact(bM.qL.lt b k cp ae).2
 · exact(bM.aI b ae).2.1
theorem pG.ext{B:Nat}{h:J}{p i:Nat}{y g:J}{fc fe:I}{s:ct}{X:List jq}{L:Nat->Prop}(bM:pG B h p i y fc fe s X L)(e:Ext y.n y g)(cC:B=h.n):pG B h p i g fc fe s X L:=by
 have n:=e.n
 exact⟨bM.st.ext e,bM.rt.bO n λq _ aJ=>e.get q aJ,bM.qL.bO n λq _ aJ=>e.get q aJ,λd ao=>by obtain⟨a,b,c⟩:=bM.aI d ao;exact⟨a,by omega,c⟩,λx ab=>dY.bO (λb ae=>⟨ae,e.get b (bM.aI b ae).2.1⟩) _ _ (bM.ty x ab),bM.e4.trans (b2.ext e),by have:=bM.up;omega,bM.oO,bM.et,bM.tw,bM.lM,bM.tb⟩
theorem aeO(a b:Nat):a8 (Int.ofNat a) (Int.ofNat b)=decide (a=b):=by
 by_cases h:a=b
 · subst h;simp[a8]
 · rw[decide_eq_false h];simp[a8];omega
theorem aeP{a b:Bool}(h:a=true<->b=true):eS a b=true:=by
 cases a<;>cases b<;>simp_all [eS]
theorem DV(m:Nat)(hm:200000<=m){B:Nat}{h:J}{p i:Nat}{y:J}{v w:I}{g3 fQ:Nat}{tc kg:bR}{s:ct}{X:List jq}{L:Nat->Prop}(cC:B=h.n)(bM:pG B h p (i+1) y (.slice g3 0 X.length tc) (.slice fQ 0 X.length kg) s X L)(af:i<30){Q:bu->ah->Prop}
  (zl:∀g,Ext y.n y g->Q .nrm (ah.mk [(0,v),(1,w),(7,.ptr p 0),(8,.slice g3 0 X.length tc),(9,.slice fQ 0 X.length kg),(10,.int .i64 (Int.ofNat (i+1)))] [] .none g)):
  a4 Tryz.prog Tryz.f6 (Y (m+8)) [1,1,1,1,1,0,1,0,0,1,0,0,1,1,1,1,1,1,1,0] (ah.mk [(0,v),(1,w),(7,.ptr p 0),(8,.slice g3 0 X.length tc),(9,.slice fQ 0 X.length kg),(10,.int .i64 (Int.ofNat i)),(15,.int .i64 (Int.ofNat 0))] [] .none y) (λb9 cf=>
   ∃gA m3 ir bV,b9=.exit 2/\cf=ah.mk bV [] .none ir/\cd [(0,v),(1,w),(7,.ptr p 0),(8,gA),(9,m3),(10,.int .i64 (Int.ofNat i))] bV/\i+1<9223372036854775808/\Q .nrm (ah.mk [(0,v),(1,w),(7,.ptr p 0),(8,gA),(9,m3),(10,.int .i64 (Int.ofNat (i+1)))] [] .none ir)):=by
 have wS:=bM.tb
 refine a4.loop (by kernel_rfl) (λk st=>∃a g Γ,st=⟨Γ,[],.none,g⟩/\cd [(0,v),(1,w),(7,.ptr p 0),(8,.slice g3 0 X.length tc),(9,.slice fQ 0 X.length kg),(10,.int .i64 (Int.ofNat i)),(15,.int .i64 (Int.ofNat a))] Γ/\X.length-a=k/\a<=X.length/\Ext y.n y g) ?_ X.length _ (by omega) ⟨0,y,_,rfl,⟨rfl,rfl,rfl,rfl,rfl,rfl,rfl,trivial⟩,by omega,by omega,Ext.refl _ _⟩
 rintro k st ⟨a,g,Γ,rfl,cL,aq,aL,x⟩
 have vB:=bM.ext x cC
 refine a4.pre (aeK _ p g3 fQ X.length i a tc kg v w g ⟨λb6=>?_,λb6=>⟨_,_,g,_,rfl,rfl,⟨rfl,rfl,rfl,rfl,rfl,rfl,trivial⟩,by omega,zl g x⟩⟩) cL rfl rfl rfl
 have xS:X[a]∈X:=List.getElem_mem b6
 obtain⟨c3,dE⟩:=Ag (vB.lM _ xS)
 obtain⟨r,ai,aF,bC,t1⟩:=IF (sz X[a].2.1) X[a].2.1 (Nat.le_refl _) c3 (by omega) (m+8) (by omega) _ g p X[a].1 s vB.st vB.oO.ok (vB.tw _ xS)
 have rX:=vB.ext bC cC
 have eR:c_ (some X[a].2.1)=sz X[a].2.1:=iP _
 obtain⟨au,a6,cS⟩:=MU (oa:=some X[a].2.1) (ob:=some X[a].2.1) (B:=ai.n) (h:=ai) (v:=.ptr r 0) (w:=.ptr X[a].2.2 0) (m+7) (by omega) (by omega) (λt e=>by cases e;omega) (Nat.le_refl _) (by omega) (dY.at (λb ae=>ae.2) _ _ t1) (dY.at (λb ae=>(rX.aI b ae).2.1) _ _ (rX.ty _ xS))
 rw[(QB c3 c3).2 rfl] at a6
 have qx:Ext y.n y au:=x.trans x.n (bC.trans bC.n cS)
 refine⟨b6,_,vB.qL.jC a b6,r,ai,aF,b6,_,rX.rt.jC a b6,au,a6,?_⟩
 refine a4.loop (by kernel_rfl) (λk st=>∃c g Γ,st=⟨Γ,[],.none,g⟩/\cd [(0,v),(1,w),(7,.ptr p 0),(8,.slice g3 0 X.length tc),(9,.slice fQ 0 X.length kg),(10,.int .i64 (Int.ofNat i)),(15,.int .i64 (Int.ofNat a)),(18,.int .i64 (Int.ofNat c))] Γ/\a-c=k/\c<=a/\Ext y.n y g) ?_ a _ (by omega) ⟨0,au,_,rfl,⟨rfl,rfl,rfl,rfl,rfl,rfl,rfl,rfl,trivial⟩,by omega,by omega,qx⟩
 rintro dh b5 ⟨c,ay,cx,rfl,nS,e0,ag,dC⟩
 refine a4.pre (aeL _ p g3 fQ X.length i a c tc kg v w ay ⟨λd1=>?_,λd1=>⟨ay,_,rfl,rfl,⟨rfl,rfl,rfl,rfl,rfl,rfl,rfl,trivial⟩,by omega,_,(by show _<k;omega),a+1,ay,_,rfl,⟨rfl,rfl,rfl,rfl,rfl,rfl,rfl,trivial⟩,rfl,by omega,dC⟩⟩) nS rfl rfl rfl
 have xU:c<X.length:=by omega
 have DW:X[c]∈X:=List.getElem_mem xU
 have rQ:Ext y.n y (ay.room 19):=dC.trans dC.n (Ext.room _ _ _)
 have IR:=bM.ext rQ cC
 obtain⟨t6,t7⟩:=Ag (vB.lM _ DW)
 have hI:c_ (some X[c].2.1)=sz X[c].2.1:=iP _
 obtain⟨bg,fO,e2⟩:=MU (oa:=some X[a].2.1) (ob:=some X[c].2.1) (B:=(ay.room 19).n) (h:=ay.room 19) (v:=.ptr X[a].2.2 0) (w:=.ptr X[c].2.2 0) (m+7) (by omega) (by omega) (λt e=>by cases e;omega) (Nat.le_refl _) (by omega) (dY.at (λb ae=>(IR.aI b ae).2.1) _ _ (IR.ty _ xS)) (dY.at (λb ae=>(IR.aI b ae).2.1) _ _ (IR.ty _ DW))
 have QL:=IR.ext e2 cC
 refine⟨b6,_,IR.qL.jC a b6,xU,_,IR.qL.jC c xU,b6,_,IR.rt.jC a b6,xU,_,IR.rt.jC c xU,_,bg,fO,QL.qL.jC a b6,QL.qL.jC c xU,aeP ?_,by omega,_,(by show _<dh;omega),c+1,bg,_,rfl,⟨rfl,rfl,rfl,rfl,rfl,rfl,rfl,rfl,trivial⟩,rfl,by omega,rQ.trans rQ.n e2⟩
 rw[aeO,decide_eq_true_iff,QB c3 t6]
 constructor
 · intro e
   have aL:=bM.tw _ xS
   rw[e] at aL
   exact dH.fwd bM.oO.ok aL (bM.tw _ DW)
 · intro e
   have aL:=bM.tw _ xS
   rw[e] at aL
   exact dH.inj bM.oO.ok aL (bM.tw _ DW)
theorem aeQ(m:Nat)(hm:200000<=m){F:Nat->Prop}{y:J}{p K:Nat}{s:ct}{u:I}{cs:a7}(hw:g8 F y p s)(fR:∀b,F b->b<y.n)(f:Fit K s)(de:K+61<=10000)(hu:lf y.n y u cs):
  ∃r ai au,Y (m+8) (.fn 12) [u] y=.ret (.ptr r 0) ai/\Y (m+8) (.fn 11) [.ptr p 0,.ptr r 0] ai=.ret (.aO [.int .u64 (Int.ofNat (fb (hB cs) s).1),.int .i64 (Int.ofNat 0)]) au/\g8 (λd=>F d\/mn y.n ai.n d) au p (fb (hB cs) s).2/\dY (mn y.n ai.n) au (hB cs) (.ptr r 0)/\b2 F y au/\y.n<=ai.n/\ai.n<=au.n:=by
 obtain⟨r,ai,aF,bC,t1⟩:=abX m hm hu
 have aE:=bC.n
 have t1:dY (mn y.n ai.n) ai (hB cs) (.ptr r 0):=t1
 have cW:g8 (λd=>F d\/mn y.n ai.n d) ai p s:=hw.move aE (λd ao _ _=>bC.get d ao) λd ao h=>by
  rcases h with h|h
  · exact .inl h
  · have:=h.1;omega
 obtain⟨au,a6,cN,bQ⟩:=ad7 (m+7) (by omega) cW f de (λb ae=>by
  rcases ae with ae|ae
  · have:=fR b ae;omega
  · exact ae.2) (dY.bO (λb ae=>⟨.inr ae,rfl⟩) _ _ t1) (Hu cs)
 have bf:=bQ.n
 exact⟨r,ai,au,aF,a6,cN,dY.bO (λb ae=>⟨ae,bQ.get b ae.2 (.inr ae)⟩) _ _ t1,⟨by omega,λd ao hf=>(bQ.get d (by omega) (.inl hf)).trans (bC.get d ao)⟩,aE,bf⟩
theorem QM(m:Nat)(hm:200000<=m){h:J}{p i:Nat}{y:J}{fc fe u:I}{s:ct}{X:List jq}{L:Nat->Prop}{cs:a7}(bM:pG h.n h p i y fc fe s X L)(af:i<30)(hu:lf y.n y u cs):
  ∃r ai,Y (m+8) (.fn 12) [u] y=.ret (.ptr r 0) ai/\∃id au,Y (m+8) (.fn 11) [.ptr p 0,.ptr r 0] ai=.ret (.aO [.int .u64 (Int.ofNat id),.int .i64 (Int.ofNat 0)]) au/\¬id=0/\
   ∃ba ay,db Tryz.prog (au.push (.cells [.ptr r 0] 35 .own 0 0)) 50 (some 50) fc (.slice au.n 0 1 (.exact 1))=some (.slice ba 0 (X++[(id,hB cs,r)]).length (.aR 1),ay)/\
   ∃a1 bg,db Tryz.prog (ay.push (.cells [.int .u64 (Int.ofNat id)] 32 .own 0 0)) 44 (some 44) fe (.slice ay.n 0 1 (.exact 1))=some (.slice a1 0 (X++[(id,hB cs,r)]).length (.aR 1),bg)/\
   bg.get ba=some (.cells (cV (λx:jq=>[vA x]) (X++[(id,hB cs,r)])) 35 .aR 0 0)/\bg.get a1=some (.cells (cV (λx:jq=>[vz x]) (X++[(id,hB cs,r)])) 32 .aR 0 0)/\h.n<=ba/\ba<bg.n/\h.n<=a1/\a1<bg.n/\
   ∃bd lJ,pG h.n h p (i+1) bg (.slice ba 0 (X++[(id,hB cs,r)]).length (.aR 1)) (.slice a1 0 (X++[(id,hB cs,r)]).length (.aR 1)) bd (X++[(id,hB cs,r)]) lJ:=by
 have wS:=bM.tb
 have qE:=bM.up
 obtain⟨r,ai,au,aF,a6,cN,t2,bQ,aE,bf⟩:=aeQ m hm bM.st bM.lt bM.oO (by omega) hu
 obtain⟨id,hn⟩:∃id,id=(fb (hB cs) s).1:=⟨_,rfl⟩
 obtain⟨bd,dw⟩:∃bd,bd=(fb (hB cs) s).2:=⟨_,rfl⟩
 have IM:=bM.oO.intern (t:=hB cs) (Hu cs)
 have vI:=ael (hB cs) bM.oO.ok bM.et
 have DX:=aem (hB cs) bM.oO.ok bM.et (P:=X.map λx=>(x.1,x.2.1)) (by rw[List.map_map];rfl) (λz aW=>by
  obtain⟨x,ab,rfl⟩:=List.mem_map.1 aW
  exact bM.tw x ab)
 rw[<-hn] at a6 vI DX
 rw[<-dw] at cN IM vI DX
 have Pv:¬id=0:=by
  obtain⟨e,he,aa⟩:=vI.has id (by simp)
  have:=(IM.ok.aI e he).1
  omega
 have QN:y.n<=au.n:=bQ.n
 have QO:m9 (λx:jq=>[vA x]) 1 35 h.n au fc X:=bM.rt.bO QN λq aJ jo=>bQ.get q jo (.inr (.inl aJ))
 have QP:m9 (λx:jq=>[vz x]) 1 32 h.n au fe X:=bM.qL.bO QN λq aJ jo=>bQ.get q jo (.inr (.inr (.inl aJ)))
 have QQ:=bM.rt.lt
 have QR:=bM.qL.lt
 obtain⟨H1,DY⟩:∃H,H=au.push (.cells [.ptr r 0] 35 .own 0 0):=⟨_,rfl⟩
 have agy:H1.n=au.n+1:=by rw[DY];rfl
 have wU:∀d,d<au.n->H1.get d=au.get d:=λd ao=>by rw[DY];exact lA ao rfl
 obtain⟨ay,b6,cU,c8,en⟩:=QJ IK (h:=H1) (d:=(id,hB cs,r)) (src:=.slice au.n 0 1 (.exact 1)) (QO.bO (by omega) λq _ aJ=>wU q aJ) (by omega) (by rw[DY];exact uC IK au 35 (id,hB cs,r)) (by omega)
 have QS:∀d,d<au.n->(∀k cp,fc≠ .slice d 0 k cp)->ay.get d=au.get d:=λd ao cX=>(en d (by omega) cX).trans (wU d ao)
 obtain⟨bm,qH⟩:∃H,H=ay.push (.cells [.int .u64 (Int.ofNat id)] 32 .own 0 0):=⟨_,rfl⟩
 have agz:bm.n=ay.n+1:=by rw[qH];rfl
 have IN:∀d,d<ay.n->bm.get d=ay.get d:=λd ao=>by rw[qH];exact lA ao rfl
 have apart:∀q k cp dh jD,fc=.slice q 0 k cp->fe=.slice q 0 dh jD->False:=λq k cp dh jD aA ax=>by
  have f1:∃cs,au.get q=some (.cells cs 35 .aR 0 0):=by
   rcases QO with aY|⟨b,rest,aa,ad,_⟩
   · rcases aY with⟨aa,_⟩|⟨b,aa,_,ad,_⟩
     · rw[aA] at aa;cases aa
     · rw[aA] at aa;cases aa;exact⟨_,ad⟩
   · rw[aA] at aa;cases aa;exact⟨_,ad⟩
  have f2:∃cs,au.get q=some (.cells cs 32 .aR 0 0):=by
   rcases QP with aY|⟨b,rest,aa,ad,_⟩
   · rcases aY with⟨aa,_⟩|⟨b,aa,_,ad,_⟩
     · rw[ax] at aa;cases aa
     · rw[ax] at aa;cases aa;exact⟨_,ad⟩
   · rw[ax] at aa;cases aa;exact⟨_,ad⟩
  obtain⟨bC,f1⟩:=f1
  obtain⟨cS,f2⟩:=f2
  rw[f1] at f2
  injection f2 with f2
  injection f2 with _ f2
  exact absurd f2 (by decide)
 have aeR:m9 (λx:jq=>[vz x]) 1 32 h.n bm fe X:=(QP.bO (g:=ay) (by omega) λq ⟨k,cp,aJ⟩ jo=>QS q jo λdh jD e=>apart q dh jD k cp e aJ).bO (by omega) λq _ aJ=>IN q aJ
 obtain⟨bg,br,a3,dm,k5⟩:=QJ IJ (h:=bm) (d:=(id,hB cs,r)) (src:=.slice ay.n 0 1 (.exact 1)) aeR (by omega) (by rw[qH];exact uC IJ ay 32 (id,hB cs,r)) (by omega)
 have tu:∀d,d<au.n->(∀k cp,fc≠ .slice d 0 k cp)->(∀k cp,fe≠ .slice d 0 k cp)->bg.get d=au.get d:=λd ao aa ad=>(k5 d (by omega) ad).trans ((IN d (by omega)).trans (QS d ao aa))
 have QT:∀d,y.n<=d->∀k cp,fe≠ .slice d 0 k cp:=λd ao k cp e=>by have:=(QR d k cp e).2;omega
 have aeS:∀d,y.n<=d->∀k cp,fc≠ .slice d 0 k cp:=λd ao k cp e=>by have:=(QQ d k cp e).2;omega
 have rU:∀d,H1.n<=d->d<ay.n->bg.get d=ay.get d:=λd aa ad=>(k5 d (by omega) (QT d (by omega))).trans (IN d ad)
 have r1:bg.get H1.n=some (.cells (cV (λx:jq=>[vA x]) (X++[(id,hB cs,r)])) 35 .aR 0 0):=(rU _ (Nat.le_refl _) (by omega)).trans cU
 have IP:∀b,L b->bg.get b=y.get b:=λb ae=>by
  obtain⟨bw,bV,c5,gz⟩:=bM.aI b ae
  exact(tu b (by omega) c5 gz).trans (bQ.get b bV (.inr (.inr (.inr ae))))
 refine⟨r,ai,aF,id,au,a6,Pv,H1.n,ay,by rw[<-DY];exact b6,bm.n,bg,by rw[<-qH];exact br,r1,a3,by omega,by omega,by omega,by omega,bd,λd=>L d\/mn y.n ai.n d,⟨?_,?_,?_,?_,?_,?_,by omega,?_,?_,?_,?_,?_⟩⟩
 · refine cN.move (by omega) (λd ao BY _=>tu d ao (λk cp e=>BY (.inl (.inr (.inl ⟨k,cp,e⟩)))) λk cp e=>BY (.inl (.inr (.inr (.inl ⟨k,cp,e⟩))))) λd ao hf=>.inl ?_
   rcases hf with hf|⟨k,cp,hf⟩|⟨k,cp,hf⟩|hf|hf
   · exact .inl (.inl hf)
   · cases hf;omega
   · cases hf;omega
   · exact .inl (.inr (.inr (.inr hf)))
   · exact .inr hf
 · exact .inl (.inr ⟨H1.n,rfl,by simp,r1,by omega,by omega⟩)
 · exact .inl (.inr ⟨bm.n,rfl,by simp,a3,by omega,by omega⟩)
 · intro d ao
   rcases ao with ao|ao
   · obtain⟨bw,bV,_⟩:=bM.aI d ao
     exact⟨bw,by omega,λk cp e=>by cases e;omega,λk cp e=>by cases e;omega⟩
   · have aa:=ao.1
     have ad:=ao.2
     exact⟨by omega,by omega,λk cp e=>by cases e;omega,λk cp e=>by cases e;omega⟩
 · intro x ab
   rcases List.mem_append.1 ab with ab|ab
   · exact dY.bO (λb ae=>⟨.inl ae,IP b ae⟩) _ _ (bM.ty x ab)
   · rw[List.mem_singleton.1 ab]
     refine dY.bO (λb ae=>⟨.inr ae,?_⟩) _ _ t2
     have aa:=ae.1
     have ad:=ae.2
     exact tu b (by omega) (aeS b aa) (QT b aa)
 · refine⟨by have:=bM.e4.n;omega,λd ao ae=>?_⟩
   have ae:d<h.n:=ae
   exact(tu d (by omega) (λk cp e=>by have:=(QQ d k cp e).1;omega) λk cp e=>by have:=(QR d k cp e).1;omega).trans ((bQ.get d (by omega) (.inl ae)).trans (bM.e4.get d ao ae))
 · rw[show 61*(i+1)=61*i+61 by omega];exact IM
 · rw[List.map_append];exact vI
 · intro x ab
   rcases List.mem_append.1 ab with ab|ab
   · exact DX (x.1,x.2.1) (List.mem_append_left _ (List.mem_map.2 ⟨x,ab,rfl⟩))
   · rw[List.mem_singleton.1 ab]
     exact DX (id,hB cs) (List.mem_append_right _ (List.mem_singleton.2 rfl))
 · intro x ab
   rcases List.mem_append.1 ab with ab|ab
   · exact bM.lM x ab
   · rw[List.mem_singleton.1 ab];exact Hu cs
 · rw[List.length_append,List.length_singleton];omega
theorem aeT(m:Nat){h:J}{p i:Nat}{y:J}{g3 fQ k:Nat}{s:ct}{X:List jq}{L:Nat->Prop}(bM:pG h.n h p i y (.slice g3 0 X.length (.aR 1)) (.slice fQ 0 X.length (.aR 1)) s X L)(af:i<=30)(aq:k<X.length)
  (r1:y.get g3=some (.cells (cV (λx:jq=>[vA x]) X) 35 .aR 0 0))(r2:y.get fQ=some (.cells (cV (λx:jq=>[vz x]) X) 32 .aR 0 0))(t1:h.n<=g3)(t2:g3<y.n)(ey:h.n<=fQ)(e9:fQ<y.n):
  ∃bF,Y (m+8) (.fn 9) [.ptr p 0,.int .u64 (Int.ofNat X[k].1)] y=.ret (.int .i64 (Int.ofNat 0)) bF/\
   ∃v2,c1 Tryz.prog (bF.room 10) 50 (.slice g3 0 X.length (.aR 1)) none (some (.int .i64 (Int.ofNat k))) (some (.int .i64 (Int.ofNat k)))=some v2/\
   ∃cz,c1 Tryz.prog (bF.room 10) 50 (.slice g3 0 X.length (.aR 1)) (some (.int .i64 (Int.ofNat (k+1)))) none none=some cz/\
   ∃ba aF dk,db Tryz.prog (bF.room 10) 50 (some 50) v2 cz=some (.slice ba 0 (X.take k++X.drop (k+1)).length aF,dk)/\I.sound v2=true/\I.sound cz=true/\
   ∃v4,c1 Tryz.prog (dk.room 10) 44 (.slice fQ 0 X.length (.aR 1)) none (some (.int .i64 (Int.ofNat k))) (some (.int .i64 (Int.ofNat k)))=some v4/\
   ∃er,c1 Tryz.prog (dk.room 10) 44 (.slice fQ 0 X.length (.aR 1)) (some (.int .i64 (Int.ofNat (k+1)))) none none=some er/\
   ∃a1 a6 dX,db Tryz.prog (dk.room 10) 44 (some 44) v4 er=some (.slice a1 0 (X.take k++X.drop (k+1)).length a6,dX)/\I.sound v4=true/\I.sound er=true/\
   ∃bd,pG h.n h p i dX (.slice ba 0 (X.take k++X.drop (k+1)).length aF) (.slice a1 0 (X.take k++X.drop (k+1)).length a6) bd (X.take k++X.drop (k+1)) L:=by
 have wS:=bM.tb
 have qE:=bM.up
 have hl:X[k].1∈X.map (·.1):=List.mem_map.2 ⟨_,List.getElem_mem aq,rfl⟩
 obtain⟨aA,ax,_,_⟩:=aeo bM.oO.ok bM.et hl
 obtain⟨bF,mj,tt,fX⟩:=ad_ (m+5) (id:=X[k].1) bM.st bM.oO (by omega)
 rw[aA] at mj
 have b_:=fX.n
 have pe:Ext bF.n bF (bF.room 10):=Ext.room _ _ _
 have Dl:(bF.room 10).n=bF.n+10:=rfl
 have ua:(bF.room 10).get g3=some (.cells (cV (λx:jq=>[vA x]) X) 35 .aR 0 0):=(fX.get g3 t2 (.inr (.inl ⟨_,_,rfl⟩))).trans r1
 obtain⟨cz,s1,s2,bN,ba,aF,dk,b6,cU,c8,ek⟩:=QK IK (B:=h.n) (h:=bF.room 10) ua aq t1 (by omega) (by omega)
 have cv:=c8.n
 have agA:Ext dk.n dk (dk.room 10):=Ext.room _ _ _
 have agB:(dk.room 10).n=dk.n+10:=rfl
 have aeU:(dk.room 10).get fQ=some (.cells (cV (λx:jq=>[vz x]) X) 32 .aR 0 0):=(c8.get fQ (by omega)).trans ((fX.get fQ e9 (.inr (.inr (.inl ⟨_,_,rfl⟩)))).trans r2)
 obtain⟨er,eu,fI,lo,a1,a6,dX,br,a3,dm,gl⟩:=QK IJ (B:=h.n) (h:=dk.room 10) aeU aq ey (by omega) (by omega)
 have c4:=dm.n
 have DZ:Ext bF.n bF dX:=⟨by omega,λd ao=>(dm.get d (by omega)).trans (c8.get d (by omega))⟩
 have IP:∀b,L b->dX.get b=y.get b:=λb ae=>(DZ.get b (by have:=(bM.aI b ae).2.1;omega)).trans (fX.get b (bM.aI b ae).2.1 (.inr (.inr (.inr ae))))
 have sub:∀x∈X.take k++X.drop (k+1),x∈X:=λx ab=>by
  rcases List.mem_append.1 ab with ab|ab
  · exact List.mem_of_mem_take ab
  · exact List.mem_of_mem_drop ab
 have qs:=aeE (λx:jq=>x.1) aq
 refine⟨bF,mj,_,s1,cz,s2,ba,aF,dk,b6,rfl,bN,_,eu,er,fI,a1,a6,dX,br,rfl,lo,(iw X[k].1 s).2,⟨?_,?_,a3,?_,?_,?_,by omega,bM.oO.rel _,ax.qs qs,?_,λx ab=>bM.lM x (sub x ab),?_⟩⟩
 · refine tt.move DZ.n (λd ao _ _=>DZ.get d ao) λd ao hf=>.inl ?_
   rcases hf with hf|⟨k,cp,hf⟩|⟨k,cp,hf⟩|hf
   · exact .inl hf
   · cases hf
     rcases ek with e|e
     · subst e;exact .inr (.inl ⟨_,_,rfl⟩)
     · omega
   · cases hf
     rcases gl with e|e
     · subst e;exact .inr (.inr (.inl ⟨_,_,rfl⟩))
     · omega
   · exact .inr (.inr (.inr hf))
 · exact cU.bO (by omega) λq _ aJ=>dm.get q (by omega)
 · intro d ao
   obtain⟨bw,bV,c5,gz⟩:=bM.aI d ao
   refine⟨bw,by omega,λk cp e=>?_,λk cp e=>?_⟩
   · cases e
     rcases ek with e|e
     · exact c5 _ _ (by rw[e])
     · omega
   · cases e
     rcases gl with e|e
     · exact gz _ _ (by rw[e])
     · omega
 · exactλx ab=>dY.bO (λb ae=>⟨ae,IP b ae⟩) _ _ (bM.ty x (sub x ab))
 · refine⟨by have:=bM.e4.n;omega,λd ao ae=>?_⟩
   have j1:d<h.n:=ae
   exact(DZ.get d (by omega)).trans ((fX.get d (by omega) (.inl j1)).trans (bM.e4.get d ao ae))
 · intro x ab
   refine aeF bM.oO.ok bM.et hl ?_ (bM.tw x (sub x ab))
   refine List.count_pos_iff.1 ?_
   rw[<-qs]
   exact List.count_pos_iff.2 (List.mem_map.2 ⟨x,ab,rfl⟩)
 · rw[List.length_append,List.length_take,List.length_drop];omega
theorem aeV(m:Nat)(hm:200000<=m){h:J}{v w:I}{z:Int}{ls:List a7}{rs:a7}(aD:DR h.n h v ls)(hw:lf h.n h w rs):∃g,Y (m+9) (.fn 6) [v,w,.int .i64 z] h=.ret (.bool true) g:=by
 obtain⟨xu,p,qK,g_,me⟩:=ad4 (m+7) (F:=IL h.n .aS .aS λ_=>False) (h:=h) z λb ae=>by
  rcases ae with ae|⟨_,_,ae⟩|⟨_,_,ae⟩|ae
  · exact ae
  · cases ae
  · cases ae
  · cases ae
 have ql:=me.n
 have f0:Fit (61*0) ⟨z.toNat,0,0,[]⟩:=⟨⟨.nil,λe he=>(by cases he),λe he=>(by cases he),λa aL=>(by cases aL),.nil⟩,λe he=>(by cases he),Nat.le_refl _,Nat.le_refl _,λe he=>(by cases he)⟩
 refine aeG (m+8) v w z h (R:=λx=>∃g,x=.ret (.bool true) g) ⟨true,h,aeb _ h,rfl,p,xu,qK,?_⟩
 refine a4.loop (by kernel_rfl) (λk st=>∃i y fc fe s X L Γ,st=⟨Γ,[],.none,y⟩/\cd [(0,v),(1,w),(7,.ptr p 0),(8,fc),(9,fe),(10,.int .i64 (Int.ofNat i))] Γ/\30-i=k/\i<=30/\pG h.n h p i y fc fe s X L) ?_ 30 _ (by omega) ⟨0,xu,.aS,.aS,_,[],λ_=>False,_,rfl,⟨rfl,rfl,rfl,rfl,rfl,rfl,trivial⟩,by omega,by omega,⟨g_,.inl (.inl ⟨rfl,rfl⟩),.inl (.inl ⟨rfl,rfl⟩),λd ao=>(by cases ao),λx ab=>(by cases ab),b2.ext me,ql,f0,⟨λe he=>(by cases he),λi af=>(by cases af)⟩,λx ab=>(by cases ab),λx ab=>(by cases ab),Nat.le_refl _⟩⟩
 rintro k st ⟨i,y,fc,fe,s,X,L,Γ,rfl,cL,aq,af,bM⟩
 have qE:=bM.up
 rcases aD with⟨rfl,rfl⟩|⟨b,off,cp,rfl,ae,fB⟩
 · exact a4.pre (aeJ _ p i .aS w fc fe y ⟨0,rfl,by omega,y,_,rfl,rfl,trivial,y,rfl⟩) cL rfl rfl rfl
 have QU:Ext h.n h y:=⟨qE,λd ao=>bM.e4.get d ao ao⟩
 have QV:∀i1:i<ls.length,∃u,ar y b (off+i*1)=some u/\lf y.n y u ls[i]:=λi1=>by
  obtain⟨u,bw,bV⟩:=fB i i1
  refine⟨u,jh QU ae bw,?_⟩
  rcases bV.ext QU with o|⟨hT,oM,jD,dA,dK,xy,vf⟩
  · exact .inl o
  · exact .inr ⟨hT,oM,jD,dA,by omega,xy,vf⟩
 rcases hw with⟨rfl,rfl⟩|⟨j8,ro,lR,rfl,aeW,EJ,cK⟩
 · refine a4.pre (aeI _ b off _ p i cp fc fe y ⟨λi1=>⟨λi2=>?_,λi2=>⟨y,_,rfl,rfl,trivial,y,rfl⟩⟩,λi1=>⟨y,_,rfl,rfl,trivial,y,rfl⟩⟩) cL rfl rfl rfl
   obtain⟨u,jd,p6⟩:=QV i1
   obtain⟨r,ai,aF,id,au,a6,hn,ba,ay,c8,a1,bg,ek,r1,r2,_,_,_,_,bd,lJ,m8⟩:=QM m hm bM i2 p6
   refine⟨i1,u,jd,r,ai,aF,id,0,au,a6,rfl,hn,ba,_,ay,c8,a1,_,bg,ek,by omega,DV m hm rfl m8 i2 λg x=>⟨_,(by show _<k;omega),i+1,g,_,_,bd,_,lJ,_,rfl,⟨rfl,rfl,rfl,rfl,rfl,rfl,trivial⟩,rfl,by omega,m8.ext x rfl⟩⟩
 · refine a4.pre (aeH _ b off _ j8 ro _ p i cp lR fc fe y ⟨λi1=>⟨λi2=>?_,λi2=>⟨y,_,rfl,rfl,trivial,y,rfl⟩⟩,λi1=>⟨y,_,rfl,rfl,trivial,y,rfl⟩⟩) cL rfl rfl rfl
   obtain⟨u,jd,p6⟩:=QV i1
   obtain⟨r,ai,aF,id,au,a6,hn,ba,ay,c8,a1,bg,ek,r1,r2,t1,t2,ey,e9,bd,lJ,m8⟩:=QM m hm bM i2 p6
   have e2:Ext h.n h bg:=⟨by have:=m8.up;omega,λd ao=>m8.e4.get d ao ao⟩
   refine⟨i1,u,jd,r,ai,aF,id,0,au,a6,rfl,hn,ba,_,ay,c8,a1,_,bg,ek,λkF=>?_,λkF=>?_⟩
   · have ab:=UInt8.toNat_lt rs[i]
     have aw:=jh e2 aeW (cK i kF)
     refine⟨kF,_,aw,_,FV .u8 (by omega),λ_=>?_,λ_=>?_⟩
     · have hlen:0<(X++[(id,hB ls[i],r)]).length:=by simp
       have wO:rs[i].toNat %(X++[(id,hB ls[i],r)]).length<(X++[(id,hB ls[i],r)]).length:=Nat.mod_lt _ hlen
       have agC:(X++[(id,hB ls[i],r)]).length<=30:=by have:=m8.tb;omega
       obtain⟨bF,aA,v2,ax,cz,bD,b7,dy,dk,ed,fF,gu,v4,gj,er,g6,fv,fO,dX,gv,tk,aeX,s2,DO⟩:=aeT m m8 (by omega) wO r1 r2 t1 t2 ey e9
       refine⟨kF,_,aw,_,Oq _ (by omega) bg,_,FV .i64 hlen,wO,_,m8.qL.jC _ wO,0,bF,aA,rfl,v2,ax,by omega,cz,bD,b7,0,_,dy,dk,ed,fF,gu,v4,gj,by omega,er,g6,fv,0,_,fO,dX,gv,tk,aeX,?_⟩
       exact DV m hm rfl DO i2 λg x=>⟨_,(by show _<k;omega),i+1,g,_,_,s2,_,lJ,_,rfl,⟨rfl,rfl,rfl,rfl,rfl,rfl,trivial⟩,rfl,by omega,DO.ext x rfl⟩
     · exact DV m hm rfl m8 i2 λg x=>⟨_,(by show _<k;omega),i+1,g,_,_,bd,_,lJ,_,rfl,⟨rfl,rfl,rfl,rfl,rfl,rfl,trivial⟩,rfl,by omega,m8.ext x rfl⟩
   · exact DV m hm rfl m8 i2 λg x=>⟨_,(by show _<k;omega),i+1,g,_,_,bd,_,lJ,_,rfl,⟨rfl,rfl,rfl,rfl,rfl,rfl,trivial⟩,rfl,by omega,m8.ext x rfl⟩
open Go bt Go.Proofs hy Go.Proofs.jk Go.ChangeShapes Go.WideShapes Go.ChangeAt Go.RowKit Go.ChangeMaps
theorem aeY{H:Type}{enc:TypeId×Value->H}{W:World}{base:Nat}{sp:Nat->Bool}{held:Bool}{fuel:Nat}{v:Value}{x:DataW H×List MemPlace}(aD:Cell.okWide Tryz.prog W .any base 27 v)(h:DataW.trod enc Tryz.prog W 0 sp held fuel 27 [v]=some x):
  ∃(jf:a7) (rows:List (eX×List I×Nat)),∀B,∃u,∀(μ:bz) (g:J),pF rows μ g B->(∀x∈rows,AO μ W x.1 x.2.1 x.2.2)/\lf g.n g u jf/\bp μ u v:=by
 have hu:Tryz.prog.underlying 5=some (.int .u8):=by kernel_rfl
 rcases open_ints DT hu (by kernel_rfl) h with⟨e,_⟩|⟨a,len,cap,lQ,e,_⟩
 · cases e
   exact⟨[],[],λB=>⟨.aS,λμ g _=>⟨by simp,.inl ⟨rfl,rfl⟩,rfl⟩⟩⟩
 · cases e
   obtain⟨c,el,fz,ae⟩:=Qg DT aD
   obtain⟨jf,rows,aj,aq⟩:=Qk h
   refine⟨jf,(⟨a.block,0,c.size⟩,[],el)::rows,λB=>?_⟩
   obtain⟨z,aW⟩:=aq (B+1) B
   refine⟨z,λμ g AR=>?_⟩
   obtain⟨aa,ad,av⟩:=AR 0 _ rfl
   simp only[Nat.add_zero] at aa ad av
   have IC:pF rows μ g (B+1):=(DS (r1:=[(⟨a.block,0,c.size⟩,[],el)]) (r2:=rows) (by rw[List.singleton_append];exact AR)).2
   obtain⟨bJ,bQ⟩:=aW μ g _ aa av IC
   refine⟨λx ab=>?_,bJ,bQ⟩
   rcases List.mem_cons.1 ab with rfl|ab
   · exact⟨c,fz,ae,λj v aK=>by simp at aK,Nat.zero_add _⟩
   · exact Qh (aj x ab) _
theorem aeZ{H:Type}{enc:TypeId×Value->H}{W:World}{base:Nat}{sp ae0:Nat->Bool}{held ae1:Bool}{fuel ae2:Nat}{v v':Value}{x E4:DataW H×List MemPlace}(jO:Tryz.prog.globals.size<=W.heap.size)(aD:Cell.okWide Tryz.prog W .any base 43 v)(h:DataW.trod enc Tryz.prog W 0 sp held fuel 43 [v]=some x)(rN:Cell.okWide Tryz.prog W .any base 27 v')(an:DataW.trod enc Tryz.prog W 0 ae0 ae1 ae2 27 [v']=some E4):
  ∃(l:List a7) (jf:a7) (μ:bz) (g:J) (u AT:I),bB μ g W/\hG Tryz.prog μ/\y7 g/\DR g.n g u l/\lf g.n g AT jf/\bp μ u v/\bp μ AT v':=by
 obtain⟨l,n,rows,aN,aj⟩:=aeg aD h
 obtain⟨jf,QW,yN⟩:=aeY rN an
 obtain⟨u,hu⟩:=aj Tryz.prog.globals.size
 obtain⟨AT,lX⟩:=yN (Tryz.prog.globals.size+(rows Tryz.prog.globals.size).length)
 obtain⟨aA,ax⟩:=DS (aec (rows:=rows Tryz.prog.globals.size++QW))
 obtain⟨bJ,bQ,ez⟩:=hu _ _ aA
 obtain⟨kF,mB,Bh⟩:=lX _ _ ax
 obtain⟨s1,s2,bN⟩:=aed (P:=Tryz.prog) jO (rows Tryz.prog.globals.size++QW) λx ab=>by
  rcases List.mem_append.1 ab with ab|ab
  · exact bJ x ab
  · exact kF x ab
 exact⟨l,jf,_,_,u,AT,s1,s2,bN,bQ,mB,ez,Bh⟩
end Go.Proofs.jj
