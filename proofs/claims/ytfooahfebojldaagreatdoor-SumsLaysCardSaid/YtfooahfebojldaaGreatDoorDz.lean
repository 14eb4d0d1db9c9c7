/-
  PROVED HERE: contracts of functions (Dz). No condition beside each statement's own.
-/
import Derived.Test.YtfooahfebojldaaGreatDoorDk
import Derived.Test.YtfooahfebojldaaGreatDoorAed
import Derived.Deep.Strs
import Derived.DataReads
set_option linter.unusedVariables false
set_option linter.unusedSimpArgs false
namespace Go.Proofs.eN
open Go aD Go.Proofs dE Go.Proofs.cR
set_option maxRecDepth 100000
set_option maxHeartbeats 1000000
abbrev hI(a b:Nat)(d:Nat):Prop:=a<=d/\d<b
def Fq(G n B:Nat)(M h:J):Prop:=∀b o,M.get b=some o->Nat.blt b G=false->h.get (b-G+n)=kh G n o/\b-G+n<B
theorem LN:∀(m:Nat) (l ws:List I),takeN m l=some ws->ws.length=m/\∀i,i<m->l[i]? =ws[i]?
 |0,l,ws,h=>by cases h;exact⟨rfl,λi ae=>by omega⟩
 |m+1,[],ws,h=>by cases h
 |m+1,a::l,ws,h=>by
  simp only[takeN] at h
  split at h
  · rename_i r ai
    cases h
    obtain⟨aa,ad⟩:=LN m l r ai
    refine⟨by simp[aa],λi ae=>?_⟩
    cases i with
    |zero=>rfl
    |succ i=>simpa using ad i (by omega)
  · cases h
def vr(G:Nat)(M:J):I->Option (List I)
 |.a_=>some []
 |.slice b 0 (l+1) .dead=>none
 |.slice b 0 (l+1) aB=>match Nat.blt b G,M.get b with
  |false,some (.cells cs _ _ _ _)=>takeN (l+1) cs
  |_,_=>none
 |_=>none
theorem Fs{G n B:Nat}{M h:J}(aj:Fq G n B M h){v:I}{ws:List I}(ai:vr G M v=some ws):rN (hI n B) h (gk G n v) (iX G n ws):=by
 unfold vr at ai
 split at ai
 · cases ai;exact .inl ⟨rfl,rfl⟩
 · cases ai
 · rename_i b l aB YF
   split at ai
   · rename_i cs el k bf up aa ad
     obtain⟨b4,b0⟩:=LN _ _ _ ai
     obtain⟨ao,ar⟩:=aj _ _ ad aa
     refine .inr ⟨b-G+n,0,aB,by simp only[gk,aa,ta,b4],⟨by omega,ar⟩,λi ae=>?_,by rw[ta];omega,YF⟩
     rw[ta] at ae
     refine Dw ao ?_
     have e:=b0 i (by omega)
     rw[D3,show 0+i*1=i by omega,e,List.getElem?_eq_getElem ae]
     simp only[D4,List.getElem_map,Option.map_some]
   · cases ai
 · cases ai
def A3:List I->Option (List aU)
 |[]=>some []
 |.str s::l=>(A3 l).map (s::·)
 |_=>none
theorem LO{G n:Nat}:∀{l:List I} {r:List aU},A3 l=some r->iX G n l=r.map .str
 |[],r,h=>by cases h;rfl
 |v::l,r,h=>by
  cases v with
  |str s=>
   simp only[A3,Option.map_eq_some_iff] at h
   obtain⟨q,aa,rfl⟩:=h
   simp only[iX,gk,LO aa,List.map_cons]
  |_=>cases h
def Ft(G:Nat):I->Option Nat
 |.ptr b 0=>match Nat.blt b G with
  |true=>none
  |false=>some b
 |_=>none
theorem YG{G n:Nat}{v:I}{b:Nat}(h:Ft G v=some b):Nat.blt b G=false/\gk G n v=.ptr (b-G+n) 0:=by
 unfold Ft at h
 split at h
 · split at h
   · cases h
   · rename_i aa;cases h;exact⟨aa,by simp only[gk,aa]⟩
 · cases h
def Fu:Option cx->Option (Nat×aU×I×I×I)
 |some (.cells [.int .i64 (.ofNat k),.str bD,cD,bR,cl] el _ _ _)=>match Nat.beq el 51 with
  |true=>some (k,bD,cD,bR,cl)
  |false=>none
 |_=>none
theorem YH{o:Option cx}{k:Nat}{bD:aU}{cD bR cl:I}(h:Fu o=some (k,bD,cD,bR,cl)):∃bS bf up,o=some (.cells [.int .i64 (Int.ofNat k),.str bD,cD,bR,cl] 51 bS bf up):=by
 unfold Fu at h
 split at h
 · split at h
   · rename_i af
     cases h
     rw[Nat.eq_of_beq_eq_true af]
     exact⟨_,_,_,rfl⟩
   · cases h
 · cases h
def A4(f:I->Option a5):List I->Option (List a5)
 |[]=>some []
 |v::l=>(f v).bind λt=>(A4 f l).map (t::·)
def A5(f:I->Option a5)(v:I):Option (Option a5):=match v with
 |.aR=>some none
 |v=>(f v).map some
def vt(G:Nat)(M:J):Nat->I->Option a5
 |0,_=>none
 |f+1,v=>(Ft G v).bind λb=>(Fu (M.get b)).bind λx=>((vr G M x.2.2.1).bind A3).bind λaJ=>((vr G M x.2.2.2.1).bind (A4 (vt G M f))).bind λxs=>(A5 (vt G M f) x.2.2.2.2).map λrt=>.mk x.1 x.2.1 aJ xs rt
theorem LP{G n B:Nat}{h:J}{f:I->Option a5}(hf:∀v t,f v=some t->lh (hI n B) h t (gk G n v)):∀{l:List I} {ts:List a5},A4 f l=some ts->nt (hI n B) h ts (iX G n l)
 |[],ts,e=>by cases e;rfl
 |v::l,ts,e=>by
  simp only[A4,Option.bind_eq_some_iff,Option.map_eq_some_iff] at e
  obtain⟨t,aa,r,ad,rfl⟩:=e
  exact⟨_,_,rfl,hf v t aa,LP hf ad⟩
theorem LQ{G n B:Nat}{h:J}{f:I->Option a5}(hf:∀v t,f v=some t->lh (hI n B) h t (gk G n v)){v:I}{ot:Option a5}(e:A5 f v=some ot):ix (hI n B) h ot (gk G n v):=by
 unfold A5 at e
 split at e
 · cases e;rfl
 · obtain⟨t,aa,rfl⟩:=Option.map_eq_some_iff.1 e
   exact hf _ t aa
theorem Fv{G n B:Nat}{M h:J}(aj:Fq G n B M h):∀(f:Nat) (v:I) (t:a5),vt G M f v=some t->lh (hI n B) h t (gk G n v)
 |0,v,t,e=>by cases e
 |f+1,v,t,e=>by
  simp only[vt,Option.bind_eq_some_iff,Option.map_eq_some_iff] at e
  obtain⟨b,aa,⟨k,bD,cD,bR,cl⟩,ad,aJ,⟨wn,ax,aO⟩,xs,⟨YI,bZ,dj⟩,rt,ek,rfl⟩:=e
  obtain⟨aa,fm⟩:=YG (n:=n) aa
  obtain⟨bS,bf,up,ad⟩:=YH ad
  obtain⟨ao,ar⟩:=aj _ _ ad aa
  have aK:=Fs aj ax
  rw[LO aO] at aK
  exact⟨b-G+n,gk G n cD,gk G n bR,gk G n cl,iX G n YI,bS,bf,up,fm,⟨by omega,ar⟩,ao,aK,Fs aj bZ,LP (Fv aj f) dj,LQ (Fv aj f) ek⟩
noncomputable def A6:J:=jU k8.n k8.l
noncomputable def A7:List I:=(vr Tryz.prog.globals.size A6 k8.v).getD []
theorem YJ:vr Tryz.prog.globals.size A6 k8.v=some A7:=by kernel_rfl
theorem YK:A7.length=27:=by kernel_rfl
def yf(f:I->Option a5):List I->Option (List (Option a5))
 |[]=>some []
 |v::l=>(A5 f v).bind λt=>(yf f l).map (t::·)
theorem LR{G n B:Nat}{h:J}{f:I->Option a5}(hf:∀v t,f v=some t->lh (hI n B) h t (gk G n v)):∀{l:List I} {ts:List (Option a5)},yf f l=some ts->ts.length=l.length/\∀i (aa:i<l.length),ix (hI n B) h ((ts[i]?).getD none) (gk G n l[i])
 |[],ts,e=>by cases e;exact⟨rfl,λi aa=>by simp at aa⟩
 |v::l,ts,e=>by
  simp only[yf,Option.bind_eq_some_iff,Option.map_eq_some_iff] at e
  obtain⟨t,aa,r,ad,rfl⟩:=e
  obtain⟨b4,b0⟩:=LR hf ad
  refine⟨by simp[b4],λi ae=>?_⟩
  cases i with
  |zero=>exact LQ hf aa
  |succ i=>simpa using b0 i (by simpa using ae)
noncomputable def A8:List (Option a5):=(yf (vt Tryz.prog.globals.size A6 9) A7).getD []
theorem YL:yf (vt Tryz.prog.globals.size A6 9) A7=some A8:=by kernel_rfl
noncomputable def tE(k:Nat):Option a5:=(A8[k]?).getD none
def Fw(o:Option a5):Bool:=Nat.ble (c8 o) 60&&(Nat.ble (p0 o) 1000&&Nat.ble (hl o).length 400)
theorem YM:(A8.all Fw)=true:=by kernel_rfl
theorem LS(k:Nat):fit (tE k)/\(hl (tE k)).length<=400:=by
 have key:Fw (tE k)=true:=by
  unfold tE
  cases h:A8[k]? with
  |none=>rfl
  |some o=>exact List.all_eq_true.1 YM o (List.mem_of_getElem? h)
 simp only[Fw,Bool.and_eq_true,Nat.ble_eq] at key
 refine⟨⟨by omega,λt a6=>?_⟩,key.2.2⟩
 have:=key.2.1
 rw[a6] at this
 rw[p0] at this
 omega
theorem YN{G N:Nat}{l:List (Nat×cx)}{h g:J}(au:(rm G l&&rk N l)=true)(aj:g=⟨(nU G h.n h l).t,h.n+(N-G)⟩):Fq G h.n g.n (jU N l) g/\Ext h.n h g:=by
 rw[Bool.and_eq_true] at au
 have aK:g.n=h.n+(N-G):=by rw[aj]
 have fw:∀c,g.get c=if c<h.n then h.get c else match(jU N l).get (G+(c-h.n)) with
  |some o=>kh G h.n o
  |none=>h.get c:=λc=>by rw[aj];exact Ed G h.n N h l (Ee au.1) c
 refine⟨λb o af aa=>?_,by omega,λd aG=>by rw[fw,if_pos aG]⟩
 have ad:G<=b:=Nat.le_of_not_lt λax=>by
  have aO:Nat.blt b G=true:=by rw[Nat.blt_eq];exact ax
  rw[aO] at aa;cases aa
 refine⟨?_,?_⟩
 · rw[fw,if_neg (by omega),show G+(b-G+h.n-h.n)=b by omega,af]
 · have ax:b<N:=by
     rw[Ak] at af
     rcases Ea (iM N) l b with⟨o',b4,b0⟩|⟨b4,b0⟩
     · exact Eb au.2 _ _ b4
     · rw[af,Ec] at b0;cases b0
   omega
theorem YO:(rm Tryz.prog.globals.size k8.l&&rk k8.n k8.l)=true:=by kernel_rfl
theorem YP(n:Nat):∃b,gk Tryz.prog.globals.size n k8.v=.slice b 0 27 (.aY 1):=⟨5503-Tryz.prog.globals.size+n,by kernel_rfl⟩
theorem YQ(h:J):bT 69 [] h=some (gk Tryz.prog.globals.size h.n k8.v,⟨(nU Tryz.prog.globals.size h.n h k8.l).t,h.n+(k8.n-Tryz.prog.globals.size)⟩):=by kernel_rfl
theorem YR(m:Nat)(h:J):∃b g vs,Y (m+1) (.fn 69) [] h=.ret (.slice b 0 27 (.aY 1)) g/\Ext h.n h g/\rN (hI h.n g.n) g (.slice b 0 27 (.aY 1)) vs/\vs.length=27/\∀i (ae:i<vs.length),ix (hI h.n g.n) g (tE i) vs[i]:=by
 have e:=YQ h
 obtain⟨g,aj⟩:∃g:J,g=⟨(nU Tryz.prog.globals.size h.n h k8.l).t,h.n+(k8.n-Tryz.prog.globals.size)⟩:=⟨_,rfl⟩
 obtain⟨h7,ab⟩:=YN YO aj
 have mI:=Fs h7 YJ
 obtain⟨b4,b0⟩:=LR (Fv h7 9) YL
 obtain⟨b,rf⟩:=YP h.n
 rw[rf] at mI e
 rw[<-aj] at e
 refine⟨b,g,_,?_,ab,mI,by rw[ta,YK],λi ae=>?_⟩
 · show fD Tryz.prog bT (m+1) _ _ _=_
   simp only[fD,e]
 · rw[ta] at ae
   have:=b0 i ae
   simp only[D4,List.getElem_map]
   exact this
end Go.Proofs.eN
namespace Go.Proofs.eN
open Go aD Go.Proofs dE Go.Proofs.cR
set_option maxRecDepth 100000
set_option maxHeartbeats 1000000
theorem YS(m:Nat)(v:I)(h:J){R:an->Prop}(H:∃aQ:Nat,∃bI:Nat,∃cr:Nat,∃c1:b5,∃ao:J,(Y m) (.fn 69) [] h=.ret (.slice aQ bI cr c1) ao/\bw Tryz.prog Tryz.f46 (Y m) [1,1,1,0,1,0] (ag.mk [(0,v),(3,.slice aQ bI cr c1),(4,.a_),(5,.int .i64 (.ofNat 0))] [] .none ao) (λcG cH=>∃v1:I,∃ar:J,∃bp:Env,cG=.exit 0/\cH=ag.mk bp [] .none ar/\cC [(4,v1)] bp/\R (.ret v1 ar))):
  R (Y (m+1) (.fn 46) [v] h):=
 dF (intr:=bT) [(6,.b2 .gh),(4000,.ik [0,3,4,5] [(.exit 0,[(4,.o)])])] [(0,.o v)] Tryz.func46 (by kernel_rfl) (by kernel_rfl) (by kernel_rfl) rfl (Eq.mp (by kernel_rfl) H)
theorem YT(call:ay->List I->J->an)(b:Nat)(off:Nat)(N:Nat)(hV:Nat)(to:Nat)(lj:Nat)(i:Nat)(aB:b5)(mO:b5)(w:I)(h:J){Q:bF->ag->Prop}(H:(i<N->(i<40->i<N/\∃s1:List UInt8,aq (h.room 30) b (off+i*2+0)=some (.str s1)/\i<N/\∃s2:List UInt8,aq (h.room 30) b (off+i*2+0)=some (.str s2)/\∃aQ:Nat,jh kt (.int .i64 (.ofNat (List.length s2))) [.int .i64 (.ofNat 30)]=some (.int .i64 (.ofNat aQ))/\∃bE:List UInt8,fM Tryz.prog (h.room 30) 9 (.str s1) none (some (.int .i64 (.ofNat aQ))) none=some (.str bE)/\i<N/\∃bI:Nat,aq (h.room 30) b (off+i*2+1)=some (.int .u8 (.ofNat bI))/\∃cr:Nat,eR Tryz.prog 5 3 (.int .u8 (.ofNat bI)) (h.room 30)=fs.val (.int .i64 (.ofNat cr)) (h.room 30)/\∃cF:Nat,arith .rem .i64 (.ofNat cr) (.ofNat lj)=some (.int .i64 (.ofNat cF))/\cF<lj/\∃dc:Nat,aq (h.room 30) hV (to+cF*1)=some (.ptr dc 0)/\∃dk:Nat,∃eM:Nat,∃ao:J,gZ Tryz.prog (J.set (h.room 30) (h.n+27) (some (.cells [.str bE,.ptr dc 0] 53 .own 0 0))) 22 (some 22) w (.slice (h.n+27) 0 1 (.exact 1))=some (.slice dk 0 eM (.aY 2),ao)/\I.sound w=true/\aq (J.set (h.room 30) (h.n+27) (some (.cells [.str bE,.ptr dc 0] 53 .own 0 0))) b (off+i*2+0)=some (.str s1)/\aq (J.set (h.room 30) (h.n+27) (some (.cells [.str bE,.ptr dc 0] 53 .own 0 0))) b (off+i*2+0)=some (.str s2)/\jh kt (.int .i64 (.ofNat (List.length s2))) [.int .i64 (.ofNat 30)]=some (.int .i64 (.ofNat aQ))/\fM Tryz.prog (J.set (h.room 30) (h.n+27) (some (.cells [.str bE,.ptr dc 0] 53 .own 0 0))) 9 (.str s1) none (some (.int .i64 (.ofNat aQ))) none=some (.str bE)/\aq (J.set (h.room 30) (h.n+27) (some (.cells [.str bE,.ptr dc 0] 53 .own 0 0))) b (off+i*2+1)=some (.int .u8 (.ofNat bI))/\eR Tryz.prog 5 3 (.int .u8 (.ofNat bI)) (J.set (h.room 30) (h.n+27) (some (.cells [.str bE,.ptr dc 0] 53 .own 0 0)))=fs.val (.int .i64 (.ofNat cr)) (J.set (h.room 30) (h.n+27) (some (.cells [.str bE,.ptr dc 0] 53 .own 0 0)))/\aq (J.set (h.room 30) (h.n+27) (some (.cells [.str bE,.ptr dc 0] 53 .own 0 0))) hV (to+cF*1)=some (.ptr dc 0)/\i+1<9223372036854775808/\Q .nrm (ag.mk [(0,.slice b off N aB),(3,.slice hV to lj mO),(4,.slice dk 0 eM (.aY 2)),(5,.int .i64 (.ofNat (i+1)))] [] .none ao))/\(¬i<40->Q (.exit 0) (ag.mk [(0,.slice b off N aB),(3,.slice hV to lj mO),(4,w),(5,.int .i64 (.ofNat i))] [] .none h)))/\(¬i<N->Q (.exit 0) (ag.mk [(0,.slice b off N aB),(3,.slice hV to lj mO),(4,w),(5,.int .i64 (.ofNat i))] [] .none h))):
  bw Tryz.prog Tryz.f46 call [1,1,1,0,1,0,0] ⟨[(0,.slice b off N aB),(3,.slice hV to lj mO),(4,w),(5,.int .i64 (.ofNat i))],[],.none,h⟩ Q:=
 e6 [(36,.b2 (.n .u8)),(45,.b2 (.z6 (.aY 2))),(42,.b2 .p)] [0,3,4,5] [(0,.v (.slice b off N aB)),(3,.v (.slice hV to lj mO)),(4,.o w),(5,.v (.int .i64 (.ofNat i)))] rfl (Eq.mp (by kernel_rfl) H)
theorem YU(call:ay->List I->J->an)(b:Nat)(off:Nat)(N:Nat)(hV:Nat)(to:Nat)(lj:Nat)(i:Nat)(aB:b5)(mO:b5)(w:I)(h:J){Q:bF->ag->Prop}(H:(i<N->(i<40->i<N/\∃s1:List UInt8,aq (h.room 30) b (off+i*2+0)=some (.str s1)/\i<N/\∃s2:List UInt8,aq (h.room 30) b (off+i*2+0)=some (.str s2)/\∃aQ:Nat,jh kt (.int .i64 (.ofNat (List.length s2))) [.int .i64 (.ofNat 30)]=some (.int .i64 (.ofNat aQ))/\∃bE:List UInt8,fM Tryz.prog (h.room 30) 9 (.str s1) none (some (.int .i64 (.ofNat aQ))) none=some (.str bE)/\i<N/\∃bI:Nat,aq (h.room 30) b (off+i*2+1)=some (.int .u8 (.ofNat bI))/\∃cr:Nat,eR Tryz.prog 5 3 (.int .u8 (.ofNat bI)) (h.room 30)=fs.val (.int .i64 (.ofNat cr)) (h.room 30)/\∃cF:Nat,arith .rem .i64 (.ofNat cr) (.ofNat lj)=some (.int .i64 (.ofNat cF))/\cF<lj/\aq (h.room 30) hV (to+cF*1)=some .aR/\∃dc:Nat,∃dk:Nat,∃ao:J,gZ Tryz.prog (J.set (h.room 30) (h.n+27) (some (.cells [.str bE,.aR] 53 .own 0 0))) 22 (some 22) w (.slice (h.n+27) 0 1 (.exact 1))=some (.slice dc 0 dk (.aY 2),ao)/\I.sound w=true/\aq (J.set (h.room 30) (h.n+27) (some (.cells [.str bE,.aR] 53 .own 0 0))) b (off+i*2+0)=some (.str s1)/\aq (J.set (h.room 30) (h.n+27) (some (.cells [.str bE,.aR] 53 .own 0 0))) b (off+i*2+0)=some (.str s2)/\jh kt (.int .i64 (.ofNat (List.length s2))) [.int .i64 (.ofNat 30)]=some (.int .i64 (.ofNat aQ))/\fM Tryz.prog (J.set (h.room 30) (h.n+27) (some (.cells [.str bE,.aR] 53 .own 0 0))) 9 (.str s1) none (some (.int .i64 (.ofNat aQ))) none=some (.str bE)/\aq (J.set (h.room 30) (h.n+27) (some (.cells [.str bE,.aR] 53 .own 0 0))) b (off+i*2+1)=some (.int .u8 (.ofNat bI))/\eR Tryz.prog 5 3 (.int .u8 (.ofNat bI)) (J.set (h.room 30) (h.n+27) (some (.cells [.str bE,.aR] 53 .own 0 0)))=fs.val (.int .i64 (.ofNat cr)) (J.set (h.room 30) (h.n+27) (some (.cells [.str bE,.aR] 53 .own 0 0)))/\aq (J.set (h.room 30) (h.n+27) (some (.cells [.str bE,.aR] 53 .own 0 0))) hV (to+cF*1)=some .aR/\i+1<9223372036854775808/\Q .nrm (ag.mk [(0,.slice b off N aB),(3,.slice hV to lj mO),(4,.slice dc 0 dk (.aY 2)),(5,.int .i64 (.ofNat (i+1)))] [] .none ao))/\(¬i<40->Q (.exit 0) (ag.mk [(0,.slice b off N aB),(3,.slice hV to lj mO),(4,w),(5,.int .i64 (.ofNat i))] [] .none h)))/\(¬i<N->Q (.exit 0) (ag.mk [(0,.slice b off N aB),(3,.slice hV to lj mO),(4,w),(5,.int .i64 (.ofNat i))] [] .none h))):
  bw Tryz.prog Tryz.f46 call [1,1,1,0,1,0,0] ⟨[(0,.slice b off N aB),(3,.slice hV to lj mO),(4,w),(5,.int .i64 (.ofNat i))],[],.none,h⟩ Q:=
 e6 [(36,.b2 (.n .u8)),(45,.b2 (.z6 (.aY 2))),(42,.b2 (.is .aR))] [0,3,4,5] [(0,.v (.slice b off N aB)),(3,.v (.slice hV to lj mO)),(4,.o w),(5,.v (.int .i64 (.ofNat i)))] rfl (Eq.mp (by kernel_rfl) H)
theorem Fx(call:ay->List I->J->an)(i:Nat)(v:I)(x:I)(w:I)(h:J){Q:bF->ag->Prop}(H:∃aQ:Nat,bU Tryz.prog h 36 v=some (.int .i64 (.ofNat aQ))/\(i<aQ->¬i<40/\Q (.exit 0) (ag.mk [(4,w)] [] .none h))/\(¬i<aQ->Q (.exit 0) (ag.mk [(4,w)] [] .none h))):
  bw Tryz.prog Tryz.f46 call [1,1,1,0,1,0,0] ⟨[(0,v),(3,x),(4,w),(5,.int .i64 (.ofNat i))],[],.none,h⟩ Q:=
 e6 [(1014,.f)] [4] [(0,.o v),(3,.o x),(4,.o w),(5,.v (.int .i64 (.ofNat i)))] rfl (Eq.mp (by kernel_rfl) H)
theorem YV(call:ay->List I->J->an)(p:List UInt8)(b:Bool)(vv:I)(bu:I)(h:J){Q:bF->ag->Prop}(H:I.bY vv=true/\I.bY bu=true/\∃s1:List UInt8,aq (J.room (J.push (J.push h (.cells [.str p,.bool b,vv,bu] 38 .own 0 0)) (.cells [.str [],.bool false,.a_,.a_] 24 .own 0 0)) 17) h.n (0+0)=some (.str s1)/\∃s2:List UInt8,aq (J.room (J.push (J.push h (.cells [.str p,.bool b,vv,bu] 38 .own 0 0)) (.cells [.str [],.bool false,.a_,.a_] 24 .own 0 0)) 17) h.n (0+0)=some (.str s2)/\∃aQ:Nat,jh kt (.int .i64 (.ofNat (List.length s2))) [.int .i64 (.ofNat 50)]=some (.int .i64 (.ofNat aQ))/\∃bE:List UInt8,fM Tryz.prog (J.room (J.push (J.push h (.cells [.str p,.bool b,vv,bu] 38 .own 0 0)) (.cells [.str [],.bool false,.a_,.a_] 24 .own 0 0)) 17) 9 (.str s1) none (some (.int .i64 (.ofNat aQ))) none=some (.str bE)/\∃a8:Bool,aq (J.room (J.push (J.push h (.cells [.str p,.bool b,vv,bu] 38 .own 0 0)) (.cells [.str [],.bool false,.a_,.a_] 24 .own 0 0)) 17) h.n (0+1)=some (.bool a8)/\∃v1:I,aq (J.room (J.push (J.push h (.cells [.str p,.bool b,vv,bu] 38 .own 0 0)) (.cells [.str [],.bool false,.a_,.a_] 24 .own 0 0)) 17) h.n (0+2)=some v1/\∃v2:I,∃ao:J,call (.fn 46) [v1] (J.room (J.push (J.push h (.cells [.str p,.bool b,vv,bu] 38 .own 0 0)) (.cells [.str [],.bool false,.a_,.a_] 24 .own 0 0)) 17)=.ret v2 ao/\∃cX:I,aq ao h.n (0+3)=some cX/\∃v4:I,∃ar:J,call (.fn 46) [cX] ao=.ret v4 ar/\I.bY v2=true/\I.bY v4=true/\I.bY v2=true/\I.bY v4=true/\∃aZ:J,aD.storeCells ar (J.n (J.push h (.cells [.str p,.bool b,vv,bu] 38 .own 0 0))) 0 [.str bE,.bool a8,v2,v4]=some aZ/\aq ar h.n (0+0)=some (.str s1)/\aq ao h.n (0+0)=some (.str s1)/\aq ar h.n (0+0)=some (.str s2)/\aq ao h.n (0+0)=some (.str s2)/\jh kt (.int .i64 (.ofNat (List.length s2))) [.int .i64 (.ofNat 50)]=some (.int .i64 (.ofNat aQ))/\jh kt (.int .i64 (.ofNat (List.length s2))) [.int .i64 (.ofNat 50)]=some (.int .i64 (.ofNat aQ))/\fM Tryz.prog ar 9 (.str s1) none (some (.int .i64 (.ofNat aQ))) none=some (.str bE)/\fM Tryz.prog ao 9 (.str s1) none (some (.int .i64 (.ofNat aQ))) none=some (.str bE)/\aq ar h.n (0+1)=some (.bool a8)/\aq ao h.n (0+1)=some (.bool a8)/\I.sound v1=true/\I.sound cX=true/\aq (J.room (J.push (J.push h (.cells [.str p,.bool b,vv,bu] 38 .own 0 0)) (.cells [.str [],.bool false,.a_,.a_] 24 .own 0 0)) 17) h.n (0+3)=some cX/\I.sound v2=true/\I.sound v4=true/\Q .ret (ag.mk [(2,.ptr (J.n (J.push h (.cells [.str p,.bool b,vv,bu] 38 .own 0 0))) 0)] [] .none aZ)):
  bw Tryz.prog Tryz.f16 call [] ⟨[(0,.agg [.str p,.bool b,vv,bu])],[],.none,h⟩ Q:=
 e6 [] [2] [(0,.eD [.v (.str p),.v (.bool b),.o vv,.o bu])] rfl (Eq.mp (by kernel_rfl) H)
theorem uz(a b:Nat):jh kt (.int .i64 (Int.ofNat a)) [.int .i64 (Int.ofNat b)]=some (.int .i64 (Int.ofNat (min a b))):=by
 simp only[jh,kt,if_true]
 by_cases h:b<a
 · rw[if_pos (ds h),Nat.min_eq_right (by omega)]
 · rw[if_neg (by rw[eh h];simp),Nat.min_eq_left (by omega)]
theorem Fy:Tryz.prog.underlying 9=some .string:=by kernel_rfl
theorem yg{h:J}(k:Nat)(s:aU):fM Tryz.prog h 9 (.str s) none (some (.int .i64 (Int.ofNat (min s.length k)))) none=some (.str (s.take (min s.length k))):=Dr Fy (by omega)
theorem A9(n:Nat)(aK:n<256)(h:J):eR Tryz.prog 5 3 (.int .u8 (Int.ofNat n)) h=.val (.int .i64 (Int.ofNat n)) h:=z2 (ka:=.u8) (by kernel_rfl) ej.E9 (rZ n (by omega))
theorem LU(a b:Nat)(af:0<b):arith .rem .i64 (Int.ofNat a) (Int.ofNat b)=some (.int .i64 (Int.ofNat (a %b))):=by
 have aa:¬Int.ofNat b=0:=λh=>by have ad:(b:Int)=0:=h;omega
 simp only[arith]
 rw[if_neg aa]
 rfl
def lk(B:Nat)(h:J)(v:I)(l:List (aU×Nat)):Prop:=(v=.a_/\l=[])\/∃b off aB,v=.slice b off l.length aB/\b<B/\(∀i (ae:i<l.length),aq h b (off+i*2+0)=some (.str l[i].1)/\aq h b (off+i*2+1)=some (.int .u8 (Int.ofNat l[i].2)))
theorem lk.ext{B:Nat}{h g:J}{v:I}{l:List (aU×Nat)}(x:Ext B h g)(o:lk B h v l):lk B g v l:=by
 rcases o with o|⟨b,off,aB,aa,ad,ax⟩
 · exact .inl o
 · exact .inr ⟨b,off,aB,aa,ad,λi ae=>⟨gE x ad (ax i ae).1,gE x ad (ax i ae).2⟩⟩
theorem lk.le{B C:Nat}{h:J}{v:I}{l:List (aU×Nat)}(e:B<=C)(o:lk B h v l):lk C h v l:=by
 rcases o with o|⟨b,off,aB,aa,ad,ax⟩
 · exact .inl o
 · exact .inr ⟨b,off,aB,aa,by omega,ax⟩
theorem lk.cell{B:Nat}{h:J}{v:I}{l:List (aU×Nat)}(o:lk B h v l):v.bY=true:=by
 rcases o with⟨rfl,_⟩|⟨b,off,aB,rfl,_⟩<;>rfl
theorem lk.snd{B:Nat}{h:J}{v:I}{l:List (aU×Nat)}(o:lk B h v l):I.sound v=true:=by
 rcases o with⟨rfl,_⟩|⟨b,off,aB,rfl,_⟩<;>rfl
noncomputable def ll(x:aU×Nat):f_:=(x.1.take (min x.1.length 30),tE (x.2 %27))
noncomputable def ia(l:List (aU×Nat)):List f_:=(l.take 40).map ll
theorem rO(l:List (aU×Nat)):(ia l).length=min l.length 40:=by simp[ia,Nat.min_comm]
def rP:Option Nat->I
 |none=>.aR
 |some r=>.ptr r 0
def vu(d:aU×Option Nat):List I:=[.str d.1,rP d.2]
theorem LV:uA Tryz.prog vu 2 53 22:=⟨vq.hu,vq.gQ,vq.info,vq.zero,vq.size,λd=>rfl,λd=>by
 obtain⟨a,b⟩:=d
 cases b<;>rfl,vq.pos⟩
theorem YW{a b:Nat}{h:J}{ot:Option a5}{v:I}(aE:ix (hI a b) h ot v):∃u,v=rP u:=by
 rcases(ix.at (λd aG=>aG.2) _ _ aE).nZ with rfl|⟨R,rfl⟩
 · exact⟨none,rfl⟩
 · exact⟨some R,rfl⟩
structure tF(A B:Nat)(l:List (aU×Nat))(i:Nat)(y:J)(w:I)(bm:List (aU×Option Nat)):Prop where
 o:nd vu 2 53 B y w bm
 n:bm.length=i
 d:∀j (aL:j<bm.length),∃au:j<l.length,bm[j].1=(ll l[j]).1/\ix (hI A B) y (ll l[j]).2 (rP bm[j].2)
theorem tF.row{A B:Nat}{l:List (aU×Nat)}{i:Nat}{y:J}{w:I}{bm:List (aU×Option Nat)}(p:tF A B l i y w bm)(ae:i=min l.length 40)(iT:A<=B)(bO:B<=y.n):gY (hI A y.n) y w (ia l):=by
 have aK:=p.n
 rcases p.o with⟨rfl,rfl⟩|⟨b,rfl,ad,ax,aO,bZ⟩
 · refine .inl ⟨rfl,?_⟩
   have:(ia l).length=0:=by rw[rO];simp at aK;omega
   exact List.length_eq_zero_iff.1 this
 · refine .inr ⟨b,0,.aY 2,by rw[rO,<-ae,aK],⟨by omega,bZ⟩,λj aL=>?_,by rw[rO];omega,by simp⟩
   rw[rO] at aL
   obtain⟨au,aA,aC⟩:=p.d j (by omega)
   obtain⟨_,_,e2⟩:=nd.load LV (.inr ⟨b,rfl,ad,ax,aO,bZ⟩:nd vu 2 53 B y (.slice b 0 bm.length (.aY 2)) bm)
   have e:(ia l)[j]'(by rw[rO];omega)=ll l[j]:=by simp[ia]
   rw[e]
   refine⟨rP bm[j].2,?_,ix.bH (λd aG=>⟨⟨aG.1,by omega⟩,rfl⟩) _ _ aC⟩
   rw[e2 j (by omega)]
   simp only[vu,aA]
theorem tF.add{A B:Nat}{l:List (aU×Nat)}{i:Nat}{y:J}{w:I}{bm:List (aU×Option Nat)}(p:tF A B l i y w bm)(ae:i<l.length)(yh:i<40)(bO:B<=y.n){u:Option Nat}(a6:ix (hI A B) y (ll l[i]).2 (rP u)):
  ∃g,gZ Tryz.prog ((y.room 30).set (y.n+27) (some (.cells [.str (ll l[i]).1,rP u] 53 .own 0 0))) 22 (some 22) w (.slice (y.n+27) 0 1 (.exact 1))=some (.slice (y.n+30) 0 (i+1) (.aY 2),g)/\Ext B y g/\tF A B l (i+1) g (.slice (y.n+30) 0 (i+1) (.aY 2)) (bm++[((ll l[i]).1,u)]):=by
 obtain⟨tG,yi⟩:∃tG,tG=(y.room 30).set (y.n+27) (some (.cells [.str (ll l[i]).1,rP u] 53 .own 0 0)):=⟨_,rfl⟩
 have LW:tG.n=y.n+30:=by rw[yi];simp
 have ir:Ext y.n y tG:=by rw[yi];exact Ext.hA (by omega) (Ext.room _ _ _)
 have YX:Ext B y tG:=by rw[yi];exact Ext.hA (by omega) (Ext.room _ _ _)
 have hs:iK tG 2 (.slice (y.n+27) 0 1 (.exact 1))=some (1,vu ((ll l[i]).1,u)):=by
  have:aD.loadCells tG (y.n+27) 0 (1*2)=some [.str (ll l[i]).1,rP u]:=by rw[yi];exact kD (iF rfl) rfl
  simp only[iK,this,vu]
 have aK:=p.n
 obtain⟨g,e,ao,gH,YY,aaB⟩:=YD LV (B:=B) (d:=((ll l[i]).1,u)) (nd.mono p.o ir (Nat.le_refl _)) (by omega) hs (by omega)
 rw[<-yi]
 rw[LW,List.length_append,List.length_singleton,aK] at e
 have fy:Ext B y g:=YX.trans (Nat.le_refl _) YY
 refine⟨g,e,fy,.inr ⟨y.n+30,by rw[List.length_append,List.length_singleton,aK],by simp,by rw[<-LW];exact ao,by omega,by omega⟩,by simp[aK],λj aL=>?_⟩
 rw[List.length_append,List.length_singleton] at aL
 by_cases lu:j<bm.length
 · obtain⟨au,aA,aC⟩:=p.d j lu
   rw[List.getElem_append_left lu]
   exact⟨au,aA,ix.bH (λd aG=>⟨aG,fy.get d aG.2⟩) _ _ aC⟩
 · obtain rfl:j=i:=by omega
   rw[List.getElem_append_right (by omega)]
   refine⟨ae,?_,?_⟩
   · simp
   · simp only[List.getElem_singleton]
     exact ix.bH (λd aG=>⟨aG,fy.get d aG.2⟩) _ _ a6
theorem LX(m:Nat){B:Nat}{h:J}{v:I}{l:List (aU×Nat)}(bO:B<=h.n)(aE:lk B h v l)(g1:∀x∈l,x.2<256):∃v' g,Y (m+2) (.fn 46) [v] h=.ret v' g/\Ext h.n h g/\gY (hI h.n g.n) g v' (ia l):=by
 obtain⟨hV,T,vs,YZ,xT,st,aaC,Y0⟩:=YR m h
 have k1:=xT.n
 have Y1:lk T.n T v l:=(aE.ext (xT.le bO)).le (by omega)
 obtain⟨Y2,to,mO,hX,⟨_,Fz⟩,gD,_,_⟩:∃b off aB,I.slice hV 0 27 (.aY 1)=.slice b off vs.length aB/\(h.n<=b/\b<T.n)/\(∀i (ae:i<vs.length),aq T b (off+i*1)=some vs[i])/\0<vs.length/\aB≠ .dead:=by
  rcases st with⟨e,_⟩|e
  · cases e
  · exact e
 obtain⟨rfl,rfl,_,rfl⟩:hV=Y2/\0=to/\27=vs.length/\b5.aY 1=mO:=by injection hX with a b c d;exact⟨a,b,c,d⟩
 refine YS (m+1) v h (R:=λx=>∃v' g,x=.ret v' g/\Ext h.n h g/\gY (hI h.n g.n) g v' (ia l)) ⟨hV,0,27,.aY 1,T,YZ,?_⟩
 refine bw.loop (by kernel_rfl) (λk s=>∃i w bm y Γ,s=⟨Γ,[],.none,y⟩/\cC [(0,v),(3,.slice hV 0 27 (.aY 1)),(4,w),(5,.int .i64 (Int.ofNat i))] Γ/\min l.length 40-i=k/\i<=min l.length 40/\Ext T.n T y/\tF h.n T.n l i y w bm) ?_ (min l.length 40) _ (by omega) ⟨0,.a_,[],T,_,rfl,⟨rfl,rfl,rfl,rfl,trivial⟩,by omega,by omega,Ext.refl _ _,.inl ⟨rfl,rfl⟩,rfl,λj aL=>by simp at aL⟩
 rintro k s ⟨i,w,bm,y,Γ,rfl,dd,aw,ae,ab,bd⟩
 have Y3:=ab.n
 have fin:i=min l.length 40->∀b8,cC [(4,w)] b8->∃(v1:I) (ar:J) (bp:Env),bF.exit 0=.exit 0/\(⟨b8,[],.none,y⟩:ag)=⟨bp,[],.none,ar⟩/\cC [(4,v1)] bp/\∃v' g,an.ret v1 ar=.ret v' g/\Ext h.n h g/\gY (hI h.n g.n) g v' (ia l):=λe b8 aj=>⟨w,y,b8,rfl,rfl,aj,w,y,rfl,xT.trans (Nat.le_refl _) (ab.le (by omega)),bd.row e k1 (by omega)⟩
 rcases Y1 with⟨rfl,rfl⟩|⟨b,off,aB,rfl,af,mI⟩
 · refine bw.pre (Fx (Y (m+1)) i .a_ _ w y ⟨0,by rfl,λak=>absurd ak (by omega),λ_=>fin (by simp at ae⊢;omega) _ ⟨rfl,trivial⟩⟩) dd rfl rfl rfl
 · by_cases dO:i<l.length
   · by_cases yh:i<40
     · have ai:Ext T.n T (y.room 30):=ab.ht
       have qp:=gE ai af (mI i dO).1
       have bp:=gE ai af (mI i dO).2
       have hm:l[i].2 %27<vs.length:=by omega
       have FA:=Y0 _ hm
       obtain⟨u,hu⟩:=YW FA
       rw[hu] at FA
       have lt:=gE ai Fz (gD _ hm)
       rw[hu] at lt
       have A_:=g1 l[i] (List.getElem_mem dO)
       obtain⟨g,g3,fy,bl⟩:=bd.add dO yh Y3 (u:=u) (ix.bH (λd aG=>⟨aG,ab.get d aG.2⟩) _ _ FA)
       have hs:∀o,Ext T.n T ((y.room 30).set (y.n+27) o):=λo=>Ext.hA (by omega) ai
       have rD:∃j,j<k/\∃sq w bm e5 Γ,(⟨[(0,.slice b off l.length aB),(3,.slice hV 0 27 (.aY 1)),(4,.slice (y.n+30) 0 (i+1) (.aY 2)),(5,.int .i64 (Int.ofNat (i+1)))],[],.none,g⟩:ag)=⟨Γ,[],.none,e5⟩/\cC [(0,.slice b off l.length aB),(3,.slice hV 0 27 (.aY 1)),(4,w),(5,.int .i64 (Int.ofNat sq))] Γ/\min l.length 40-sq=j/\sq<=min l.length 40/\Ext T.n T e5/\tF h.n T.n l sq e5 w bm:=⟨_,(by show min l.length 40-(i+1)<k;omega),i+1,_,_,g,_,rfl,⟨rfl,rfl,rfl,rfl,trivial⟩,rfl,by omega,ab.trans (Nat.le_refl _) fy,bl⟩
       cases u with
       |none=>exact bw.pre (YU (Y (m+1)) b off _ hV 0 27 i aB _ w y ⟨λ_=>⟨λ_=>⟨dO,_,qp,dO,_,qp,_,uz _ _,_,yg _ _,dO,_,bp,_,A9 _ A_ _,_,LU _ 27 (by omega),by omega,lt,_,_,g,g3,bd.o.sound,gE (hs _) af (mI i dO).1,gE (hs _) af (mI i dO).1,uz _ _,yg _ _,gE (hs _) af (mI i dO).2,A9 _ A_ _,(gE (hs _) Fz (gD _ hm)).trans (by rw[hu];rfl),by omega,rD⟩,λak=>absurd yh ak⟩,λak=>absurd dO ak⟩) dd rfl rfl rfl
       |some R=>exact bw.pre (YT (Y (m+1)) b off _ hV 0 27 i aB _ w y ⟨λ_=>⟨λ_=>⟨dO,_,qp,dO,_,qp,_,uz _ _,_,yg _ _,dO,_,bp,_,A9 _ A_ _,_,LU _ 27 (by omega),by omega,R,lt,_,_,g,g3,bd.o.sound,gE (hs _) af (mI i dO).1,gE (hs _) af (mI i dO).1,uz _ _,yg _ _,gE (hs _) af (mI i dO).2,A9 _ A_ _,(gE (hs _) Fz (gD _ hm)).trans (by rw[hu];rfl),by omega,rD⟩,λak=>absurd yh ak⟩,λak=>absurd dO ak⟩) dd rfl rfl rfl
     · refine bw.pre (Fx (Y (m+1)) i _ _ w y ⟨l.length,by rfl,λ_=>⟨yh,fin (by omega) _ ⟨rfl,trivial⟩⟩,λak=>absurd dO ak⟩) dd rfl rfl rfl
   · refine bw.pre (Fx (Y (m+1)) i _ _ w y ⟨l.length,by rfl,λak=>absurd ak dO,λ_=>fin (by omega) _ ⟨rfl,trivial⟩⟩) dd rfl rfl rfl
end Go.Proofs.eN
namespace Go.Proofs.eN
open Go aD Go.Proofs dE Go.Proofs.cR
set_option maxRecDepth 100000
set_option maxHeartbeats 1000000
theorem Y4{Γ:Env}{y:J}{a:Nat}{cs:List I}(FB:aD.loadCells y a 0 4=some cs)(ad:fh 2 Γ=some (.ptr a 0):=by kernel_rfl):na Tryz.prog (d_ Tryz.f16) Tryz.f16 Γ y=some (.agg cs):=by
 have e:(Tryz.f16).results.toList=[.cell 2 24]:=by kernel_rfl
 have aI:Nat.testBit (d_ Tryz.f16) 2=true:=by kernel_rfl
 have ar:l4 Tryz.prog 24=some true:=by kernel_rfl
 have fR:dt Tryz.prog 24=some 4:=by kernel_rfl
 unfold na
 rw[e]
 simp only[mR,oU,aI,ad,ar,fR,FB]
theorem FC{p p':aU}{b b':Bool}{v w v' w':I}(aE:v.bY=true)(hw:w.bY=true):ff 0 [.str p,.bool b,v,w] [.str p',.bool b',v',w']=some [.str p,.bool b,v,w]:=w5 [.str p,.bool b,v,w] _ (by simp[I.bY] at*;exact⟨aE,hw⟩) (Nat.le_refl _)
abbrev vw(p:aU)(b:Bool)(v w:I):cx:=.cells [.str p,.bool b,v,w] 38 .own 0 0
def cut(k:Nat)(p:aU):aU:=p.take (min p.length k)
noncomputable def Ba(p:aU)(b:Bool)(dv lt:List (aU×Nat)):j5:=⟨cut 50 p,b,ia dv,ia lt⟩
structure l1(B:Nat)(h:J)(vv bu:I)(dv lt:List (aU×Nat)):Prop where
 v:lk B h vv dv
 t:lk B h bu lt
 np:∀x∈dv,x.2<256
 t8:∀x∈lt,x.2<256
theorem l1.ext{B:Nat}{h g:J}{vv bu:I}{dv lt:List (aU×Nat)}(x:Ext B h g)(o:l1 B h vv bu dv lt):l1 B g vv bu dv lt:=⟨o.v.ext x,o.t.ext x,o.np,o.t8⟩
theorem l1.le{B C:Nat}{h:J}{vv bu:I}{dv lt:List (aU×Nat)}(e:B<=C)(o:l1 B h vv bu dv lt):l1 C h vv bu dv lt:=⟨o.v.le e,o.t.le e,o.np,o.t8⟩
theorem gY.snd{F:Nat->Prop}{h:J}{v:I}{l:List f_}(ai:gY F h v l):I.sound v=true:=by rcases ai with⟨rfl,_⟩|⟨b,off,aB,rfl,_⟩<;>rfl
theorem FD(m:Nat){B:Nat}{h:J}{p:aU}{b:Bool}{vv bu:I}{dv lt:List (aU×Nat)}(bO:B<=h.n)(hm:l1 B h vv bu dv lt):∃v1 v2 g,Y (m+4) (.fn 16) [.agg [.str p,.bool b,vv,bu]] h=.ret (.agg [.str (cut 50 p),.bool b,v1,v2]) g/\Ext h.n h g/\gY (hI h.n g.n) g v1 (ia dv)/\gY (hI h.n g.n) g v2 (ia lt):=by
 obtain⟨du,eL⟩:∃x,x=h.push (vw p b vv bu):=⟨_,rfl⟩
 obtain⟨dp,et⟩:∃x,x=du.push (gX [] false .a_ .a_):=⟨_,rfl⟩
 obtain⟨H,c_⟩:∃x,x=dp.room 17:=⟨_,rfl⟩
 have aQ:du.n=h.n+1:=by rw[eL];rfl
 have jC:H.n=h.n+19:=by rw[c_];simp;rw[et];simp;omega
 have dW:Ext h.n h H:=by rw[c_];refine Ext.ht ?_;rw[et];refine Ext.mo (by omega) ?_;rw[eL];exact Ext.push (Nat.le_refl _) _
 have aV:H.get h.n=some (vw p b vv bu):=by rw[c_];refine pS ?_;rw[et];refine z3 (by omega) ?_;rw[eL];exact fp rfl
 have aN:H.get (h.n+1)=some (gX [] false .a_ .a_):=by rw[c_];refine pS ?_;rw[et];exact fp aQ.symm
 have Bb:l1 H.n H vv bu dv lt:=(hm.ext (dW.le bO)).le (by omega)
 obtain⟨nu,ao,c1,bh,bb⟩:=LX (m+1) (Nat.le_refl _) Bb.v Bb.np
 have mD:=bh.n
 obtain⟨nv,ar,c2,bz,a3⟩:=LX (m+1) mD (Bb.t.ext bh) Bb.t8
 have xP:=bz.n
 have gj:∀d,d<H.n->ao.get d=H.get d:=λd aG=>bh.get d aG
 have e5:∀d,d<H.n->ar.get d=H.get d:=λd aG=>(bz.get d (by omega)).trans (gj d aG)
 obtain⟨aZ,jo⟩:∃aZ,aZ=ar.set (h.n+1) (some (gX (cut 50 p) b nu nv)):=⟨_,rfl⟩
 have bE:aD.storeCells ar (h.n+1) 0 [.str (cut 50 p),.bool b,nu,nv]=some aZ:=by rw[jo];exact iG ((e5 _ (by omega)).trans aN) rfl (FC bb.cell a3.cell)
 have cr:aZ.n=ar.n:=by rw[jo];simp
 have e2:∀d,d≠h.n+1->aZ.get d=ar.get d:=λd aG=>by rw[jo];exact mn aG rfl
 have res:Ext h.n h aZ/\gY (hI h.n aZ.n) aZ nu (ia dv)/\gY (hI h.n aZ.n) aZ nv (ia lt):=by
  refine⟨⟨by omega,λd aG=>(e2 d (by omega)).trans ((e5 d (by omega)).trans (dW.get d aG))⟩,?_,?_⟩
  · exact gY.bH (λd aG=>⟨⟨by omega,by omega⟩,(e2 d (by omega)).trans (bz.get d aG.2)⟩) bb
  · exact gY.bH (λd aG=>⟨⟨by omega,by omega⟩,e2 d (by omega)⟩) a3
 have FE:=uz p.length 50
 have gh:∀g:J,fM Tryz.prog g 9 (.str p) none (some (.int .i64 (Int.ofNat (min p.length 50)))) none=some (.str (cut 50 p)):=λg=>yg 50 p
 refine⟨nu,nv,aZ,?_,res⟩
 refine I2 (R:=λx=>x=.ret (.agg [.str (cut 50 p),.bool b,nu,nv]) aZ) (intr:=bT) (n:=m+3) (args:=[.agg [.str p,.bool b,vv,bu]]) Tryz.func16 (by kernel_rfl) (by kernel_rfl) (by kernel_rfl) (Q:=λe st=>e=.ret/\st=⟨[(2,.ptr (h.n+1) 0)],[],.none,aZ⟩) (YV (Y (m+3)) p b vv bu h ?_) λe st bq=>?_
 · subst c_
   subst et
   subst eL
   exact⟨hm.v.cell,hm.t.cell,p,aH aV rfl,p,aH aV rfl,_,FE,_,gh _,b,aH aV rfl,vv,aH aV rfl,nu,ao,c1,bu,aH ((gj _ (by omega)).trans aV) rfl,nv,ar,c2,bb.cell,a3.cell,bb.cell,a3.cell,aZ,bE,aH ((e5 _ (by omega)).trans aV) rfl,aH ((gj _ (by omega)).trans aV) rfl,aH ((e5 _ (by omega)).trans aV) rfl,aH ((gj _ (by omega)).trans aV) rfl,FE,FE,gh _,gh _,aH ((e5 _ (by omega)).trans aV) rfl,aH ((gj _ (by omega)).trans aV) rfl,hm.v.snd,hm.t.snd,aH aV rfl,bb.snd,a3.snd,rfl,rfl⟩
 · obtain⟨rfl,rfl⟩:=bq
   exact .inl ⟨.inl rfl,rfl,_,Y4 (kD (by rw[jo];exact iF rfl) rfl),rfl⟩
end Go.Proofs.eN
namespace Go.Proofs.eN
open Go aD Go.Proofs dE Go.Proofs.cR
set_option maxRecDepth 100000
set_option maxHeartbeats 1000000
theorem Y5(m:Nat)(p:List UInt8)(p':List UInt8)(b:Bool)(b':Bool)(v:I)(w:I)(v':I)(w':I)(h:J){R:an->Prop}(H:I.bY v=true/\I.bY w=true/\I.bY v'=true/\I.bY w'=true/\∃s1:List UInt8,∃a8:Bool,∃v1:I,∃v2:I,aD.loadCells (J.room (J.push (J.push h (.cells [.str p,.bool b,v,w] 38 .own 0 0)) (.cells [.str p',.bool b',v',w'] 38 .own 0 0)) 8) h.n 0 4=some [.str s1,.bool a8,v1,v2]/\∃s2:List UInt8,∃aI:Bool,∃cX:I,∃v4:I,∃ao:J,(Y m) (.fn 16) [.agg [.str s1,.bool a8,v1,v2]] (J.room (J.push (J.push h (.cells [.str p,.bool b,v,w] 38 .own 0 0)) (.cells [.str p',.bool b',v',w'] 38 .own 0 0)) 8)=.ret (.agg [.str s2,.bool aI,cX,v4]) ao/\∃bE:List UInt8,∃cK:Bool,∃gx:I,∃v6:I,aD.loadCells ao (J.n (J.push h (.cells [.str p,.bool b,v,w] 38 .own 0 0))) 0 4=some [.str bE,.bool cK,gx,v6]/\∃bX:List UInt8,∃jv:Bool,∃nn:I,∃np:I,∃ar:J,(Y m) (.fn 16) [.agg [.str bE,.bool cK,gx,v6]] ao=.ret (.agg [.str bX,.bool jv,nn,np]) ar/\I.bY cX=true/\I.bY v4=true/\∃aZ:J,aD.storeCells (J.set (J.set ar (J.n (J.push (J.push h (.cells [.str p,.bool b,v,w] 38 .own 0 0)) (.cells [.str p',.bool b',v',w'] 38 .own 0 0))+4) (some (.cells [.str [],.bool false,.a_,.a_] 24 .own 0 0))) (J.n (J.push (J.push h (.cells [.str p,.bool b,v,w] 38 .own 0 0)) (.cells [.str p',.bool b',v',w'] 38 .own 0 0))+5) (some (.cells [.str [],.bool false,.a_,.a_] 24 .own 0 0))) (J.n (J.push (J.push h (.cells [.str p,.bool b,v,w] 38 .own 0 0)) (.cells [.str p',.bool b',v',w'] 38 .own 0 0))+4) 0 [.str s2,.bool aI,cX,v4]=some aZ/\I.bY nn=true/\I.bY np=true/\∃ch:J,aD.storeCells aZ (J.n (J.push (J.push h (.cells [.str p,.bool b,v,w] 38 .own 0 0)) (.cells [.str p',.bool b',v',w'] 38 .own 0 0))+5) 0 [.str bX,.bool jv,nn,np]=some ch/\I.sound v1=true/\I.sound v2=true/\I.sound gx=true/\I.sound v6=true/\aD.loadCells (J.room (J.push (J.push h (.cells [.str p,.bool b,v,w] 38 .own 0 0)) (.cells [.str p',.bool b',v',w'] 38 .own 0 0)) 8) (J.n (J.push h (.cells [.str p,.bool b,v,w] 38 .own 0 0))) 0 4=some [.str bE,.bool cK,gx,v6]/\∃cZ:List UInt8,∃s5:Bool,∃u_:I,∃v10:I,aD.loadCells (ch.room 35) (J.n (J.push (J.push h (.cells [.str p,.bool b,v,w] 38 .own 0 0)) (.cells [.str p',.bool b',v',w'] 38 .own 0 0))+4) 0 4=some [.str cZ,.bool s5,u_,v10]/\∃ea:List UInt8,∃dQ:J,(Y m) (.fn 17) [.agg [.str cZ,.bool s5,u_,v10]] (ch.room 35)=.ret (.str ea) dQ/\∃e4:List UInt8,∃kH:Bool,∃v11:I,∃Bc:I,aD.loadCells dQ (J.n (J.push (J.push h (.cells [.str p,.bool b,v,w] 38 .own 0 0)) (.cells [.str p',.bool b',v',w'] 38 .own 0 0))+4) 0 4=some [.str e4,.bool kH,v11,Bc]/\∃vj:List UInt8,∃eS:J,(Y m) (.fn 18) [.agg [.str e4,.bool kH,v11,Bc]] dQ=.ret (.str vj) eS/\cg ea vj=true/\∃x1:List UInt8,∃u9:Bool,∃FF:I,∃FG:I,aD.loadCells eS (J.n (J.push (J.push h (.cells [.str p,.bool b,v,w] 38 .own 0 0)) (.cells [.str p',.bool b',v',w'] 38 .own 0 0))+5) 0 4=some [.str x1,.bool u9,FF,FG]/\∃x2:List UInt8,∃gA:J,(Y m) (.fn 17) [.agg [.str x1,.bool u9,FF,FG]] eS=.ret (.str x2) gA/\∃tA:List UInt8,∃va:Bool,∃Bd:I,∃Be:I,aD.loadCells gA (J.n (J.push (J.push h (.cells [.str p,.bool b,v,w] 38 .own 0 0)) (.cells [.str p',.bool b',v',w'] 38 .own 0 0))+5) 0 4=some [.str tA,.bool va,Bd,Be]/\∃x3:List UInt8,∃hM:J,(Y m) (.fn 18) [.agg [.str tA,.bool va,Bd,Be]] gA=.ret (.str x3) hM/\cg x2 x3=true/\∃x4:List UInt8,∃LY:Bool,∃FH:I,∃FI:I,aD.loadCells hM (J.n (J.push (J.push h (.cells [.str p,.bool b,v,w] 38 .own 0 0)) (.cells [.str p',.bool b',v',w'] 38 .own 0 0))+4) 0 4=some [.str x4,.bool LY,FH,FI]/\∃LZ:List UInt8,∃L0:Bool,∃FJ:I,∃v20:I,aD.loadCells hM (J.n (J.push (J.push h (.cells [.str p,.bool b,v,w] 38 .own 0 0)) (.cells [.str p',.bool b',v',w'] 38 .own 0 0))+5) 0 4=some [.str LZ,.bool L0,FJ,v20]/\∃L1:Bool,∃j0:J,(Y m) (.fn 19) [.agg [.str x4,.bool LY,FH,FI],.agg [.str LZ,.bool L0,FJ,v20]] hM=.ret (.bool L1) j0/\∃FK:List UInt8,∃FL:Bool,∃Bf:I,∃Bg:I,aD.loadCells j0 (J.n (J.push (J.push h (.cells [.str p,.bool b,v,w] 38 .own 0 0)) (.cells [.str p',.bool b',v',w'] 38 .own 0 0))+4) 0 4=some [.str FK,.bool FL,Bf,Bg]/\∃FM:List UInt8,∃FN:Bool,∃Bh:I,∃Bi:I,aD.loadCells j0 (J.n (J.push (J.push h (.cells [.str p,.bool b,v,w] 38 .own 0 0)) (.cells [.str p',.bool b',v',w'] 38 .own 0 0))+5) 0 4=some [.str FM,.bool FN,Bh,Bi]/\∃L2:Bool,∃hH:J,(Y m) (.fn 11) [.agg [.str FK,.bool FL,Bf,Bg],.agg [.str FM,.bool FN,Bh,Bi]] j0=.ret (.bool L2) hH/\ei L1 L2=true/\∃FO:List UInt8,∃FP:Bool,∃Bj:I,∃Bk:I,aD.loadCells hH (J.n (J.push (J.push h (.cells [.str p,.bool b,v,w] 38 .own 0 0)) (.cells [.str p',.bool b',v',w'] 38 .own 0 0))+4) 0 4=some [.str FO,.bool FP,Bj,Bk]/\∃L3:List UInt8,∃L4:Bool,∃FQ:I,∃FR:I,aD.loadCells hH h.n 0 4=some [.str L3,.bool L4,FQ,FR]/\∃L5:List UInt8,∃L6:Bool,∃L7:I,∃v30:I,∃jb:J,(Y m) (.fn 16) [.agg [.str L3,.bool L4,FQ,FR]] hH=.ret (.agg [.str L5,.bool L6,L7,v30]) jb/\∃L8:Bool,∃nq:J,(Y m) (.fn 19) [.agg [.str FO,.bool FP,Bj,Bk],.agg [.str L5,.bool L6,L7,v30]] jb=.ret (.bool L8) nq/\∃Bl:List UInt8,∃Bm:Bool,∃yj:I,∃yk:I,aD.loadCells nq (J.n (J.push (J.push h (.cells [.str p,.bool b,v,w] 38 .own 0 0)) (.cells [.str p',.bool b',v',w'] 38 .own 0 0))+4) 0 4=some [.str Bl,.bool Bm,yj,yk]/\∃Bn:List UInt8,∃Bo:Bool,∃yl:I,∃ym:I,aD.loadCells nq (J.n (J.push (J.push h (.cells [.str p,.bool b,v,w] 38 .own 0 0)) (.cells [.str p',.bool b',v',w'] 38 .own 0 0))+4) 0 4=some [.str Bn,.bool Bo,yl,ym]/\∃L9:Bool,∃tH:J,(Y m) (.fn 11) [.agg [.str Bl,.bool Bm,yj,yk],.agg [.str Bn,.bool Bo,yl,ym]] nq=.ret (.bool L9) tH/\ei L8 L9=true/\∃L_:Bool,∃Ma:J,(Y m) (.fn 12) [] tH=.ret (.bool L_) Ma/\I.sound u_=true/\I.sound v10=true/\I.sound v11=true/\I.sound Bc=true/\aD.loadCells (ch.room 35) (J.n (J.push (J.push h (.cells [.str p,.bool b,v,w] 38 .own 0 0)) (.cells [.str p',.bool b',v',w'] 38 .own 0 0))+4) 0 4=some [.str e4,.bool kH,v11,Bc]/\I.sound FF=true/\I.sound FG=true/\I.sound Bd=true/\I.sound Be=true/\aD.loadCells eS (J.n (J.push (J.push h (.cells [.str p,.bool b,v,w] 38 .own 0 0)) (.cells [.str p',.bool b',v',w'] 38 .own 0 0))+5) 0 4=some [.str tA,.bool va,Bd,Be]/\I.sound FH=true/\I.sound FI=true/\I.sound FJ=true/\I.sound v20=true/\I.sound Bf=true/\I.sound Bg=true/\aD.loadCells hM (J.n (J.push (J.push h (.cells [.str p,.bool b,v,w] 38 .own 0 0)) (.cells [.str p',.bool b',v',w'] 38 .own 0 0))+4) 0 4=some [.str FK,.bool FL,Bf,Bg]/\I.sound Bh=true/\I.sound Bi=true/\aD.loadCells hM (J.n (J.push (J.push h (.cells [.str p,.bool b,v,w] 38 .own 0 0)) (.cells [.str p',.bool b',v',w'] 38 .own 0 0))+5) 0 4=some [.str FM,.bool FN,Bh,Bi]/\I.sound Bj=true/\I.sound Bk=true/\aD.loadCells jb (J.n (J.push (J.push h (.cells [.str p,.bool b,v,w] 38 .own 0 0)) (.cells [.str p',.bool b',v',w'] 38 .own 0 0))+4) 0 4=some [.str FO,.bool FP,Bj,Bk]/\I.sound FQ=true/\I.sound FR=true/\I.sound yj=true/\I.sound yk=true/\aD.loadCells jb (J.n (J.push (J.push h (.cells [.str p,.bool b,v,w] 38 .own 0 0)) (.cells [.str p',.bool b',v',w'] 38 .own 0 0))+4) 0 4=some [.str Bl,.bool Bm,yj,yk]/\aD.loadCells hH (J.n (J.push (J.push h (.cells [.str p,.bool b,v,w] 38 .own 0 0)) (.cells [.str p',.bool b',v',w'] 38 .own 0 0))+4) 0 4=some [.str Bl,.bool Bm,yj,yk]/\I.sound yl=true/\I.sound ym=true/\aD.loadCells jb (J.n (J.push (J.push h (.cells [.str p,.bool b,v,w] 38 .own 0 0)) (.cells [.str p',.bool b',v',w'] 38 .own 0 0))+4) 0 4=some [.str Bn,.bool Bo,yl,ym]/\aD.loadCells hH (J.n (J.push (J.push h (.cells [.str p,.bool b,v,w] 38 .own 0 0)) (.cells [.str p',.bool b',v',w'] 38 .own 0 0))+4) 0 4=some [.str Bn,.bool Bo,yl,ym]/\R (.ret (.bool L_) Ma)):
  R (Y (m+1) (.fn 5) [.agg [.str p,.bool b,v,w],.agg [.str p',.bool b',v',w']] h):=
 dF (intr:=bT) [(1017,.t),(1024,.t),(1033,.t),(1043,.t)] [(0,.eD [.v (.str p),.v (.bool b),.o v,.o w]),(1,.eD [.v (.str p'),.v (.bool b'),.o v',.o w'])] Tryz.func5 (by kernel_rfl) (by kernel_rfl) (by kernel_rfl) rfl (Eq.mp (by kernel_rfl) H)
theorem Y6(m:Nat)(h:J):Y (m+1) (.fn 12) [] h=.ret (.bool true) h:=by
 have e:bT 12 [] h=some (.bool true,h):=by kernel_rfl
 show fD Tryz.prog bT (m+1) _ _ _=_
 simp only[fD,e]
theorem Mb{k:Nat}:∀l:List aU,(∀x∈l,x.length<=k)->l.flatten.length<=l.length*k
 |[],_=>by simp
 |x::l,h=>by
  have aa:=h x (by simp)
  have ad:=Mb l λy bg=>h y (by simp[bg])
  rw[List.flatten_cons,List.length_append,List.length_cons,Nat.succ_mul]
  omega
theorem Mc(l:List (aU×Nat)):(kp (ia l)).length<=20000:=by
 unfold kp
 have aa:=ej.tz (ia l).length
 have ad:=Mb (k:=450) ((ia l).map eb) λx ab=>by
  obtain⟨e,he,rfl⟩:=List.mem_map.1 ab
  obtain⟨y,_,rfl⟩:=List.mem_map.1 he
  have ax:=ej.Ln (ll y).1
  have aO:=(LS (y.2 %27)).2
  have bZ:(ll y).1.length<=30:=by simp only[ll,List.length_take];omega
  unfold eb
  rw[List.length_append]
  have dj:(ll y).2=tE (y.2 %27):=rfl
  rw[dj]
  omega
 rw[List.length_map,rO] at ad
 rw[List.length_append]
 have:min l.length 40*450<=40*450:=Nat.mul_le_mul_right _ (by omega)
 omega
theorem Md(p:aU)(b:Bool)(dv lt:List (aU×Nat)):ns (Ba p b dv lt)/\(kq (Ba p b dv lt)).length<=1000000:=by
 have lV:∀l,∀e∈ia l,fit e.2:=λl e he=>by
  obtain⟨y,_,rfl⟩:=List.mem_map.1 he
  exact(LS (y.2 %27)).1
 have bl:(cut 50 p).length<=50:=by simp only[cut,List.length_take];omega
 refine⟨⟨by show(cut 50 p).length<=_;omega,by show(ia dv).length<=_;rw[rO];omega,by show(ia lt).length<=_;rw[rO];omega,lV dv,lV lt⟩,?_⟩
 have aa:=ej.Ln (cut 50 p)
 have ad:=Mc dv
 have ax:=Mc lt
 have aO:=ej.tz 0
 have bZ:=ej.tz 1
 show(ej.ev (cut 50 p)++(if b then hy.df 1 else hy.df 0++(kp (ia dv)++kp (ia lt)))).length<=_
 rw[List.length_append]
 split
 · omega
 · rw[List.length_append,List.length_append];omega
theorem Y7(m:Nat){B:Nat}{h:J}{p p':aU}{b b':Bool}{v w v' w':I}{dv lw r4 Bp:List (aU×Nat)}(bO:B<=h.n)(a2:l1 B h v w dv lw)(af:l1 B h v' w' r4 Bp):∃g,Y (m+502) (.fn 5) [.agg [.str p,.bool b,v,w],.agg [.str p',.bool b',v',w']] h=.ret (.bool true) g:=by
 obtain⟨du,eL⟩:∃x,x=h.push (vw p b v w):=⟨_,rfl⟩
 obtain⟨dp,et⟩:∃x,x=du.push (vw p' b' v' w'):=⟨_,rfl⟩
 obtain⟨H,c_⟩:∃x,x=dp.room 8:=⟨_,rfl⟩
 have aQ:du.n=h.n+1:=by rw[eL];rfl
 have jC:H.n=h.n+10:=by rw[c_];simp;rw[et];simp;omega
 have dW:Ext h.n h H:=by rw[c_];refine Ext.ht ?_;rw[et];refine Ext.mo (by omega) ?_;rw[eL];exact Ext.push (Nat.le_refl _) _
 have aV:H.get h.n=some (vw p b v w):=by rw[c_];refine pS ?_;rw[et];refine z3 (by omega) ?_;rw[eL];exact fp rfl
 have aN:H.get (h.n+1)=some (vw p' b' v' w'):=by rw[c_];refine pS ?_;rw[et];exact fp aQ.symm
 have Y8:l1 H.n H v w dv lw:=(a2.ext (dW.le bO)).le (by omega)
 have pc:l1 H.n H v' w' r4 Bp:=(af.ext (dW.le bO)).le (by omega)
 obtain⟨nu,nv,ao,c1,bh,bb,a3⟩:=FD (m+497) (p:=p) (b:=b) (Nat.le_refl _) Y8
 have mD:=bh.n
 obtain⟨Bq,Br,ar,c2,bz,t1,t2⟩:=FD (m+497) (p:=p') (b:=b') mD (pc.ext bh)
 have xP:=bz.n
 obtain⟨Me,yn⟩:∃x,x=(ar.set (h.n+6) (some (gX [] false .a_ .a_))).set (h.n+7) (some (gX [] false .a_ .a_)):=⟨_,rfl⟩
 obtain⟨aZ,jo⟩:∃x,x=Me.set (h.n+6) (some (gX (cut 50 p) b nu nv)):=⟨_,rfl⟩
 obtain⟨ch,yo⟩:∃x,x=aZ.set (h.n+7) (some (gX (cut 50 p') b' Bq Br)):=⟨_,rfl⟩
 have bE:aD.storeCells Me (h.n+6) 0 [.str (cut 50 p),.bool b,nu,nv]=some aZ:=by rw[jo];exact iG (by rw[yn];exact mn (by omega) (iF rfl)) rfl (FC bb.cell a3.cell)
 have bX:aD.storeCells aZ (h.n+7) 0 [.str (cut 50 p'),.bool b',Bq,Br]=some ch:=by rw[yo];exact iG (by rw[jo];exact mn (by omega) (by rw[yn];exact iF rfl)) rfl (FC t1.cell t2.cell)
 have cF:ch.n=ar.n:=by rw[yo,jo,yn];simp
 have h6:∀d,d≠h.n+6->d≠h.n+7->ch.get d=ar.get d:=λd aa ad=>by rw[yo];refine mn ad ?_;rw[jo];refine mn aa ?_;rw[yn];exact mn ad (mn aa rfl)
 obtain⟨x,hG⟩:∃x,x=Ba p b dv lw:=⟨_,rfl⟩
 obtain⟨y,Bs⟩:∃y,y=Ba p' b' r4 Bp:=⟨_,rfl⟩
 have X:je ch.n ch nu nv x:=by
  rw[hG]
  exact⟨gY.at (F:=hI H.n ao.n) (λd aG=>by omega) (gY.bH (λd aG=>⟨aG,(h6 d (by omega) (by omega)).trans (bz.get d aG.2)⟩) bb),gY.at (F:=hI H.n ao.n) (λd aG=>by omega) (gY.bH (λd aG=>⟨aG,(h6 d (by omega) (by omega)).trans (bz.get d aG.2)⟩) a3)⟩
 have Z:je ch.n ch Bq Br y:=by
  rw[Bs]
  exact⟨gY.at (F:=hI ao.n ar.n) (λd aG=>by omega) (gY.bH (λd aG=>⟨aG,h6 d (by omega) (by omega)⟩) t1),gY.at (F:=hI ao.n ar.n) (λd aG=>by omega) (gY.bH (λd aG=>⟨aG,h6 d (by omega) (by omega)⟩) t2)⟩
 obtain⟨lV,FT⟩:=Md p b dv lw
 obtain⟨yp,FU⟩:=Md p' b' r4 Bp
 rw[<-hG] at lV FT
 rw[<-Bs] at yp FU
 have Y9:x.path=cut 50 p:=by rw[hG];rfl
 have C4:x.dz=b:=by rw[hG];rfl
 have Y_:y.path=cut 50 p':=by rw[Bs];rfl
 have Za:y.dz=b':=by rw[Bs];rfl
 have iO:Ext ch.n ch (ch.room 35):=Ext.room _ _ _
 have l2:∀{g},Ext ch.n ch g->aD.loadCells g (h.n+6) 0 4=some [.str (cut 50 p),.bool b,nu,nv]:=λ{g} e=>kD ((e.get _ (by omega)).trans (by rw[yo];refine mn (by omega) ?_;rw[jo];exact iF rfl)) rfl
 have vx:∀{g},Ext ch.n ch g->aD.loadCells g (h.n+7) 0 4=some [.str (cut 50 p'),.bool b',Bq,Br]:=λ{g} e=>kD ((e.get _ (by omega)).trans (by rw[yo];exact iF rfl)) rfl
 have FB:∀{g},Ext ch.n ch g->aD.loadCells g h.n 0 4=some [.str p,.bool b,v,w]:=λ{g} e=>kD ((e.get _ (by omega)).trans ((h6 _ (by omega) (by omega)).trans ((bz.get _ (by omega)).trans ((bh.get _ (by omega)).trans aV)))) rfl
 have up:∀{g gv},Ext ch.n ch g->Ext ch.n g gv->Ext ch.n ch gv:=λe cY=>e.trans (Nat.le_refl _) cY
 obtain⟨dQ,vc,Zb⟩:=LC (m+500) (by omega) iO.n (X.bH iO) lV FT
 have fg:=up iO Zb
 obtain⟨eS,rC,Zc⟩:=LI (m+500) (by omega) fg.n (X.bH fg) lV FT
 have eI:=up fg Zc
 obtain⟨gA,vd,Zd⟩:=LC (m+500) (by omega) eI.n (Z.bH eI) yp FU
 have fP:=up eI Zd
 obtain⟨hM,Mf,pf⟩:=LI (m+500) (by omega) fP.n (Z.bH fP) yp FU
 have fE:=up fP pf
 obtain⟨j0,FV,Ze⟩:=LL (m+500) (by omega) fE.n (X.bH fE) (Z.bH fE) lV yp
 have vy:=up fE Ze
 obtain⟨hH,FW,Zf⟩:=LM (m+500) (by omega) vy.n (X.bH vy) (Z.bH vy) lV yp
 have tI:=up vy Zf
 have aaD:=tI.n
 have Mg:Ext h.n h hH:=⟨by omega,λd aG=>(tI.get d (by omega)).trans ((h6 d (by omega) (by omega)).trans ((bz.get d (by omega)).trans ((bh.get d (by omega)).trans (dW.get d aG))))⟩
 have Zg:l1 h.n hH v w dv lw:=(a2.le bO).ext Mg
 · obtain⟨Zh,Zi,jb,Zj,Mh,jl,ua⟩:=FD (m+497) (p:=p) (b:=b) Mg.n Zg
   have aaE:=Mh.n
   have tJ:=up tI (Mh.le (by omega))
   have U:je jb.n jb Zh Zi x:=by
    rw[hG]
    exact⟨gY.at (λd aG=>aG.2) jl,gY.at (λd aG=>aG.2) ua⟩
   have Zk:je jb.n jb nu nv x:=(X.bH tJ).le tJ.n
   obtain⟨nq,Mi,Zl⟩:=LL (m+500) (by omega) (Nat.le_refl _) Zk U lV lV
   have yq:=up tJ (Zl.le tJ.n)
   obtain⟨tH,Mj,aaF⟩:=LM (m+500) (by omega) yq.n (X.bH yq) (X.bH yq) lV lV
   rw[Y9,C4] at vc rC FV FW Mi Mj
   rw[Y_,Za] at vd Mf FV FW
   have beq:∀s:aU,cg s s=true:=λs=>by simp[oC]
   have da:∀q:Bool,ei q q=true:=λq=>by cases q<;>rfl
   refine⟨tH,?_⟩
   refine Y5 (m+501) p p' b b' v w v' w' h (R:=λx=>x=.ret (.bool true) tH) ?_
   subst c_
   subst et
   subst eL
   subst yn
   exact⟨a2.v.cell,a2.t.cell,af.v.cell,af.t.cell,_,_,_,_,kD aV rfl,_,_,_,_,ao,c1,_,_,_,_,kD ((bh.get (h.n+1) (by omega)).trans aN) rfl,_,_,_,_,ar,c2,bb.cell,a3.cell,aZ,bE,t1.cell,t2.cell,ch,bX,a2.v.snd,a2.t.snd,af.v.snd,af.t.snd,kD aN rfl,
    _,_,_,_,l2 iO,_,dQ,vc,_,_,_,_,l2 fg,_,eS,rC,beq _,_,_,_,_,vx eI,_,gA,vd,_,_,_,_,vx fP,_,hM,Mf,beq _,_,_,_,_,l2 fE,_,_,_,_,vx fE,_,j0,FV,_,_,_,_,l2 vy,_,_,_,_,vx vy,_,hH,FW,da _,
    _,_,_,_,l2 tI,_,_,_,_,FB tI,_,_,_,_,jb,Zj,_,nq,Mi,_,_,_,_,l2 yq,_,_,_,_,l2 yq,_,tH,Mj,da _,true,tH,Y6 _ _,
    bb.snd,a3.snd,bb.snd,a3.snd,l2 iO,t1.snd,t2.snd,t1.snd,t2.snd,vx eI,bb.snd,a3.snd,t1.snd,t2.snd,bb.snd,a3.snd,l2 fE,t1.snd,t2.snd,vx fE,bb.snd,a3.snd,l2 tJ,a2.v.snd,a2.t.snd,bb.snd,a3.snd,l2 tJ,l2 tI,bb.snd,a3.snd,l2 tJ,l2 tI,rfl⟩
end Go.Proofs.eN
namespace Go.Proofs.eN
open Go aD Go.Proofs dE Go.Proofs.cR Go.ChangeShapes Go.WideShapes Go.ChangeAt Go.RowKit Go.ChangeMaps
set_option maxRecDepth 100000
set_option maxHeartbeats 1000000
theorem Mk{W:World}{a:Addr}{m j:Nat}{v:Value}(h:W.cell? ((a.add m).add j)=some v):∃c el fz,W.heap[a.block]? =some (.cells c el fz)/\c[a.off+m+j]? =some v/\(m=0->j=0->a.spot=none):=by
 have af:((a.add m).add j).block=a.block:=by
  unfold Addr.add
  split<;>split<;>rfl
 have bd:((a.add m).add j).off=a.off+m+j:=by
  unfold Addr.add
  split<;>split<;>simp_all
 unfold World.cell? at h
 rw[af,bd] at h
 split at h
 · rename_i c el fz ab
   split at h
   · cases h
   · rename_i hs
     refine⟨c,el,fz,ab,h,λaa ad=>?_⟩
     subst aa;subst ad
     simpa[Addr.add] using hs
 · cases h
def vz(rows:List (eG×List I×Nat))(μ:bn)(h:J)(B:Nat):Prop:=∀(k:Nat) (x:eG×List I×Nat),rows[k]? =some x->μ (B+k)=some x.1/\h.get (B+k)=some (.cells x.2.1 x.2.2 .ro 0 0)/\B+k<h.n
theorem Ml{bb a3:List (eG×List I×Nat)}{μ:bn}{h:J}{B:Nat}(ai:vz (bb++a3) μ h B):vz bb μ h B/\vz a3 μ h (B+bb.length):=by
 refine⟨λk x aw=>ai k x ?_,λk x aw=>?_⟩
 · rw[List.getElem?_append_left (List.getElem?_eq_some_iff.1 aw).1];exact aw
 · have:=ai (bb.length+k) x (by rw[List.getElem?_append_right (by omega),Nat.add_sub_cancel_left];exact aw)
   rw[Nat.add_assoc];exact this
theorem Zm{rows:List (eG×List I×Nat)}:vz rows (q3 Tryz.prog.globals.size (rows.map (·.1))) (sB Tryz.prog.globals.size (rows.map (·.2))) Tryz.prog.globals.size:=by
 intro k x aw
 refine⟨Qf aw,Qg aw,?_⟩
 have:=(List.getElem?_eq_some_iff.1 aw).1
 rw[C2,List.length_map];omega
theorem Zn{P:Program}{W:World}{base:Nat}{t e:TypeId}(a6:P.underlying t=some (.slice e)){a:Addr}{len cap:Nat}(h:Cell.okWide P W .any base t (.slice (some a) len cap)):∃c el fz,W.heap[a.block]? =some (.cells c el fz):=by
 simp only[Cell.okWide,a6,Cell.ok] at h
 obtain⟨_,_,_,_,row,cells,hs,_⟩:=h
 unfold World.shape? at hs
 cases af:W.heap[a.block]? with
 |none=>simp[af] at hs
 |some o=>
  rw[af] at hs
  cases o with
  |cells c el fz=>exact⟨c,el,fz,rfl⟩
  |_=>cases hs
theorem Mm{P:Program}{W:World}{r:Reach}{base u e:Nat}{v:Value}(hu:P.underlying u=some (.slice e))(h:Cell.okWide P W r base u v):∃a len cap,v=.slice a len cap:=by
 simp only[Cell.okWide,hu] at h
 cases v<;>simp_all [Cell.ok]
theorem Zo{P:Program}{W:World}{r:Reach}{base u:Nat}{v:Value}(hu:P.underlying u=some .bool)(h:Cell.okWide P W r base u v):∃b,v=.bool b:=by
 simp only[Cell.okWide,hu] at h
 cases v<;>simp_all [Cell.ok]
theorem Mn{x y:I}:∀(o:Nat) (cs:List I),takeN 2 (hW o cs)=some [x,y]->nth o cs=some x/\nth (o+1) cs=some y
 |0,[],h=>by cases h
 |0,[a],h=>by cases h
 |0,a::b::l,h=>by cases h;exact⟨rfl,rfl⟩
 |o+1,[],h=>by cases h
 |o+1,a::l,h=>Mn o l h
theorem Zp{h:J}{b o:Nat}{x y:I}(au:aD.loadCells h b o 2=some [x,y]):aq h b (o+0)=some x/\aq h b (o+1)=some y:=by
 unfold aD.loadCells at au
 unfold aq
 split at au
 · exact Mn o _ au
 · cases au
def yr(d:aU×Nat):List I:=[.str d.1,.int .u8 (Int.ofNat d.2)]
def yu(d:aU×Nat):List Value:=[.string ⟨d.1.toArray⟩,.int .u8 (Int.ofNat d.2)]
theorem Bt:Tryz.prog.underlying 36=some (.slice 117):=by kernel_rfl
theorem Zq:∃f0 f1:Field,Tryz.prog.underlying 117=some (.struct #[f0,f1])/\f0.type=9/\f1.type=5/\f0.offset=0/\f1.offset=1:=by
 obtain⟨cu,m3⟩:∃cu,Tryz.prog.underlying 117=some (.struct cu):=by
  have:(match Tryz.prog.underlying 117 with|some (.struct _)=>true|_=>false)=true:=by kernel_rfl
  revert this
  cases Tryz.prog.underlying 117 with
  |none=>intro h;cases h
  |some d=>cases d<;>intro h<;>first|exact⟨_,rfl⟩|cases h
 have k:(match Tryz.prog.underlying 117 with|some (.struct cu)=>cu.toList.map λf=>(f.type,f.offset)|_=>[])=[(9,0),(5,1)]:=by kernel_rfl
 rw[m3] at k
 simp only at k
 obtain⟨l⟩:=cu
 match l,k with
 |[f0,f1],k=>
  simp only[List.map_cons,List.map_nil,List.cons.injEq,Prod.mk.injEq] at k
  exact⟨f0,f1,m3,k.1.1,k.2.1.1,k.1.2,k.2.1.2⟩
theorem Zr{H:Type}{enc:TypeId×Value->H}{W:World}{sp:Nat->Bool}{held:Bool}{fuel:Nat}{tK:Option Addr}{len cap:Nat}{x:DataW H×List MemPlace}(h:DataW.trod enc Tryz.prog W 0 sp held fuel 36 [.slice tK len cap]=some x):
  (tK=none/\len=0/\cap=0)\/∃a,tK=some a/\len<=cap/\∃bm:List (aU×Nat),bm.length=len/\(∀d∈bm,d.2<256)/\∀i (ae:i<bm.length) (j:Nat) (v:Value),(yu bm[i])[j]? =some v->W.cell? ((a.add (i*2)).add j)=some v:=by
 have oS:Tryz.prog.cellsOf 117=2:=by kernel_rfl
 have Zs:Tryz.prog.cellsOf 9=1:=by kernel_rfl
 have oB:Tryz.prog.cellsOf 5=1:=by kernel_rfl
 have vi:Tryz.prog.underlying 5=some (.int .u8):=by kernel_rfl
 rcases DataW.trod_slice Bt h with⟨h0,_⟩|⟨a,aaG,HQ,elems,rest,n,_,h0,_,af,au,hm,hlen,wb,_,_⟩
 · cases h0;exact .inl ⟨rfl,rfl,rfl⟩
 · cases h0
   right
   refine⟨a,rfl,au,?_⟩
   have each:∀i,i<len->∃d:aU×Nat,d.2<256/\W.cells? 0 (a.add (i*2)) 2=some (yu d):=by
    intro i ae
    have he:=wb i ae
    rw[List.getElem?_eq_getElem (by omega),oS,Option.bind_eq_some_iff] at he
    obtain⟨cs,iN,bg⟩:=he
    obtain⟨f0,f1,hs,t0,t1,rX,cq⟩:=Zq
    obtain⟨x_,gj,k,_,gR,h3,b4⟩:=trod_struct2 hs bg
    rw[oS] at gR
    obtain⟨v0,v1,rfl⟩:∃v0 v1,cs=[v0,v1]:=by
     match cs,gR with
     |[v0,v1],_=>exact⟨v0,v1,rfl⟩
    rw[t0,rX,Zs] at h3
    rw[t1,cq,oB] at b4
    obtain⟨s,ep,_,_⟩:=DataW.trod_string Fy h3
    obtain⟨dP,aA,_,hw⟩:=DataW.trod_int vi b4
    have Zt:v0=.string s:=by simpa using ep
    have wj:v1=.int .u8 dP:=by simpa using aA
    simp only[Lit.wf,Bool.and_eq_true,decide_eq_true_eq] at hw
    have cV:IntKind.u8.min=0:=rfl
    have h2:IntKind.u8.max=255:=rfl
    rw[cV,h2] at hw
    refine⟨(s.data.toList,dP.toNat),by show dP.toNat<256;omega,?_⟩
    rw[iN,Zt,wj]
    have:dP=Int.ofNat dP.toNat:=by show dP=(dP.toNat:Int);omega
    rw[this]
    rfl
   let f:Nat->aU×Nat:=λi=>if ae:i<len then(each i ae).choose else([],0)
   have hf:∀i (ae:i<len),f i=(each i ae).choose:=λi ae=>by simp[f,ae]
   refine⟨(List.range len).map f,by simp,λd aG=>?_,λi ae j v aE=>?_⟩
   · obtain⟨i,ae,rfl⟩:=List.mem_map.1 aG
     have eH:i<len:=by simpa using ae
     rw[hf i eH]
     exact(each i eH).choose_spec.1
   · have eH:i<len:=by simpa using ae
     have e:((List.range len).map f)[i]=(each i eH).choose:=by rw[<-hf i eH];simp
     rw[e] at aE
     have iN:=(each i eH).choose_spec.2
     have aL:j<2:=by
      have:=(List.getElem?_eq_some_iff.1 aE).1
      simpa[yu] using this
     have:=World.cells?_some iN
     exact(this.2.2 j aL).trans aE
theorem Zu(μ:bn)(d:aU×Nat)(t:Nat)(a:I)(u:Value)(h:(yr d)[t]? =some a)(hu:(yu d)[t]? =some u):bc μ a u:=by
 match t,h,hu with
 |0,h,hu=>cases h;cases hu;exact⟨_,rfl,rfl⟩
 |1,h,hu=>cases h;cases hu;exact rfl
 |t+2,h,hu=>cases h
theorem Mo{H:Type}{enc:TypeId×Value->H}{W:World}{sp:Nat->Bool}{held:Bool}{fuel base:Nat}{tK:Option Addr}{len cap:Nat}{x:DataW H×List MemPlace}(h:DataW.trod enc Tryz.prog W 0 sp held fuel 36 [.slice tK len cap]=some x)
  (dw:Cell.okWide Tryz.prog W .any base 36 (.slice tK len cap)):
  ∃bm rows,(∀d∈bm,d.2<256)/\(∀x∈rows,zF W x.1 x.2.1 x.2.2)/\∀(μ:bn) (h:J) (B:Nat),vz rows μ h B->∃v,lk h.n h v bm/\bc μ v (.slice tK len cap):=by
 rcases Zr h with⟨rfl,rfl,rfl⟩|⟨a,rfl,hle,bm,au,g1,ah⟩
 · exact⟨[],[],by simp,by simp,λμ h B _=>⟨.a_,.inl ⟨rfl,rfl⟩,rfl⟩⟩
 · by_cases h0:len=0
   · subst h0
     obtain⟨c,el,fz,af⟩:=Zn Bt dw
     refine⟨[],[(⟨a.block,0,c.size⟩,[],el)],by simp,λx ab=>?_,λμ h B ai=>?_⟩
     · have:x=(⟨a.block,0,c.size⟩,[],el):=by simpa using ab
       subst this
       exact⟨c,fz,af,λμ j v aL=>by simp at aL,Nat.zero_add _⟩
     · obtain⟨aa,ad,ax⟩:=ai 0 _ rfl
       exact⟨.slice B 0 0 .dead,.inr ⟨B,0,.dead,rfl,ax,λi ae=>by simp at ae⟩,⟨_,aa,rfl,a,cap,rfl⟩⟩
   · obtain⟨c,el,fz,af,kX,hs⟩:=Mk (ah 0 (by omega) 0 _ rfl)
     have Mp:=hs (by omega) rfl
     have hle:a.off<=c.size:=by
      have:=(Array.getElem?_eq_some_iff.1 kX).1;omega
     refine⟨bm,[(⟨a.block,a.off,c.size-a.off⟩,fS yr bm,el)],g1,λx ab=>?_,λμ h B ai=>?_⟩
     · obtain rfl:x=_:=by simpa using ab
       refine⟨c,fz,af,λμ t v aE=>?_,by simp;omega⟩
       have tt:(bm.flatMap yr)[t]? =some v:=aE
       rw[Du (w:=2) λd=>rfl] at tt
       split at tt
       · rename_i a6
         have ae:t/2<bm.length:=Nat.div_lt_of_lt_mul (by rw[Nat.mul_comm];exact a6)
         rw[List.getElem?_eq_getElem ae] at tt
         have Zv:(yr bm[t/2])[t %2]? =some v:=tt
         have aL:t %2<(yu bm[t/2]).length:=by
          show t %2<2
          omega
         obtain⟨c',wc,aaH,hp,ab,_⟩:=Mk (ah (t/2) ae (t %2) _ (List.getElem?_eq_getElem aL))
         rw[af] at hp
         cases hp
         have e:a.off+t/2*2+t %2=a.off+t:=by omega
         rw[e] at ab
         exact⟨_,ab,Zu _ _ _ _ _ Zv (List.getElem?_eq_getElem aL)⟩
       · cases tt
     · obtain⟨aa,ad,ax⟩:=ai 0 _ rfl
       simp only[Nat.add_zero] at ad
       refine⟨.slice B 0 len (.exact cap),.inr ⟨B,0,.exact cap,by rw[au],ax,λi ae=>Zp (I0 (enc:=yr) (w:=2) (rest:=[]) (λ_=>rfl) (by rw[List.append_nil];exact ad) ae (by omega))⟩,⟨_,aa,?_⟩⟩
       obtain⟨bj,off,spot⟩:=a
       simp only at Mp
       subst Mp
       rfl
theorem Zw:∃f0 f1 f2 f3:Field,Tryz.prog.underlying 38=some (.struct #[f0,f1,f2,f3])/\f2.type=36/\f3.type=36/\f2.offset=2/\f3.offset=3:=by
 obtain⟨cu,m3⟩:∃cu,Tryz.prog.underlying 38=some (.struct cu):=by
  have:(match Tryz.prog.underlying 38 with|some (.struct _)=>true|_=>false)=true:=by kernel_rfl
  revert this
  cases Tryz.prog.underlying 38 with
  |none=>intro h;cases h
  |some d=>cases d<;>intro h<;>first|exact⟨_,rfl⟩|cases h
 have k:(match Tryz.prog.underlying 38 with|some (.struct cu)=>cu.toList.map λf=>(f.type,f.offset)|_=>[])=[(9,0),(4,1),(36,2),(36,3)]:=by kernel_rfl
 rw[m3] at k
 simp only at k
 obtain⟨l⟩:=cu
 match l,k with
 |[f0,f1,f2,f3],k=>
  simp only[List.map_cons,List.map_nil,List.cons.injEq,Prod.mk.injEq] at k
  exact⟨f0,f1,f2,f3,m3,k.2.2.1.1,k.2.2.2.1.1,k.2.2.1.2,k.2.2.2.1.2⟩
theorem Mq{H:Type}{enc:TypeId×Value->H}{W:World}{base:Nat}{sp:Nat->Bool}{held:Bool}{fuel:Nat}{v:Value}{x:DataW H×List MemPlace}(aE:Value.okWide Tryz.prog W .any base 38 v)(h:DataW.trod enc Tryz.prog W 0 sp held fuel 38 v.cells.toList=some x):
  ∃(p:aU) (b:Bool) (dv lt:List (aU×Nat)) (rows:List (eG×List I×Nat)),(∀x∈rows,zF W x.1 x.2.1 x.2.2)/\
   ∀(μ:bn) (h:J) (B:Nat),vz rows μ h B->∃w d,l1 h.n h w d dv lt/\bc μ (.agg [.str p,.bool b,w,d]) v:=by
 obtain⟨cs,rfl,au,ah⟩:=Qh (ts:=[9,4,36,36]) (by kernel_rfl) (by kernel_rfl) (by kernel_rfl) aE
 obtain⟨yv,c1,c2,c3,rfl⟩:∃yv c1 c2 c3,cs=[yv,c1,c2,c3]:=by
  match cs,au with
  |[yv,c1,c2,c3],_=>exact⟨yv,c1,c2,c3,rfl⟩
 obtain⟨s,rfl⟩:=Qj Fy (ah 0 yv _ rfl rfl)
 obtain⟨b,rfl⟩:=Zo (u:=4) (by kernel_rfl) (ah 1 c1 _ rfl rfl)
 have b0:=ah 2 c2 _ rfl rfl
 have e2:=ah 3 c3 _ rfl rfl
 obtain⟨ef,bB,dp,rfl⟩:=Mm Bt b0
 obtain⟨g2,cU,l8,rfl⟩:=Mm Bt e2
 obtain⟨f0,f1,f2,f3,hs,t2,t3,eo,LF⟩:=Zw
 have al:DataW.trod enc Tryz.prog W 0 sp held fuel 38 [.string s,.bool b,.slice ef bB dp,.slice g2 cU l8]=some x:=h
 obtain⟨xs,m,_,_,_,e3,hf⟩:=DataW.trod_struct hs al
 have ar:=hf 2 f2 rfl
 have aZ:=hf 3 f3 rfl
 have aaI:xs.length=4:=e3
 rw[List.getElem?_eq_getElem (by omega),t2,eo,(by kernel_rfl:Tryz.prog.cellsOf 36=1)] at ar
 rw[List.getElem?_eq_getElem (by omega),t3,LF,(by kernel_rfl:Tryz.prog.cellsOf 36=1)] at aZ
 obtain⟨dv,bb,Zx,aV,aN⟩:=Mo ar b0
 obtain⟨lt,a3,cz,jj,jk⟩:=Mo aZ e2
 refine⟨s.data.toList,b,dv,lt,bb++a3,λx ab=>?_,λμ h B ai=>?_⟩
 · rcases List.mem_append.1 ab with ab|ab
   · exact aV x ab
   · exact jj x ab
 · obtain⟨aA,aC⟩:=Ml ai
   obtain⟨w,dP,fR⟩:=aN μ h B aA
   obtain⟨d,kz,Zy⟩:=jk μ h _ aC
   exact⟨w,d,⟨dP,kz,Zx,cz⟩,⟨_,rfl,_,_,rfl,⟨s,rfl,rfl⟩,_,_,rfl,rfl,_,_,rfl,fR,_,_,rfl,Zy,rfl⟩⟩
end Go.Proofs.eN
