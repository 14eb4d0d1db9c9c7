/-
  PROVED HERE: contracts of functions (Dy). No condition beside each statement's own.
-/
import Derived.Test.YtfooahfebojldaaGreatDoorDk
import Derived.Test.YtfooahfebojldaaGreatDoorAed
import Derived.Deep.Strs
import Derived.DataReads
set_option linter.unusedVariables false
set_option linter.unusedSimpArgs false
namespace Go.Proofs.dQ
open Go aB Go.Proofs df Go.Proofs.cD
set_option maxRecDepth 100000
set_option maxHeartbeats 1000000
abbrev hV(a b:Nat)(d:Nat):Prop:=a<=d/\d<b
def Ep(G n B:Nat)(M h:J):Prop:=∀b o,M.get b=some o->Nat.blt b G=false->h.get (b-G+n)=j2 G n o/\b-G+n<B
theorem KA:∀(m:Nat) (l ws:List I),takeN m l=some ws->ws.length=m/\∀i,i<m->l[i]? =ws[i]?
 |0,l,ws,h=>by cases h;exact⟨rfl,λi ae=>by omega⟩
 |m+1,[],ws,h=>by cases h
 |m+1,a::l,ws,h=>by
  simp only[takeN] at h
  split at h
  · rename_i r ai
    cases h
    obtain⟨aa,ad⟩:=KA m l r ai
    refine⟨by simp[aa],λi ae=>?_⟩
    cases i with
    |zero=>rfl
    |succ i=>simpa using ad i (by omega)
  · cases h
def u4(G:Nat)(M:J):I->Option (List I)
 |.bf=>some []
 |.slice b 0 (l+1) .dead=>none
 |.slice b 0 (l+1) aH=>match Nat.blt b G,M.get b with
  |false,some (.cells cs _ _ _ _)=>takeN (l+1) cs
  |_,_=>none
 |_=>none
theorem Er{G n B:Nat}{M h:J}(ak:Ep G n B M h){v:I}{ws:List I}(ai:u4 G M v=some ws):rq (hV n B) h (fN G n v) (iG G n ws):=by
 unfold u4 at ai
 split at ai
 · cases ai;exact .inl ⟨rfl,rfl⟩
 · cases ai
 · rename_i b l aH Wi
   split at ai
   · rename_i cs el k bk up aa ad
     obtain⟨bQ,cl⟩:=KA _ _ _ ai
     obtain⟨al,ar⟩:=ak _ _ ad aa
     refine .inr ⟨b-G+n,0,aH,by simp only[fN,aa,sQ,bQ],⟨by omega,ar⟩,λi ae=>?_,by rw[sQ];omega,Wi⟩
     rw[sQ] at ae
     refine CD al ?_
     have e:=cl i (by omega)
     rw[C_,show 0+i*1=i by omega,e,List.getElem?_eq_getElem ae]
     simp only[Da,List.getElem_map,Option.map_some]
   · cases ai
 · cases ai
def An:List I->Option (List aO)
 |[]=>some []
 |.str s::l=>(An l).map (s::·)
 |_=>none
theorem KB{G n:Nat}:∀{l:List I} {r:List aO},An l=some r->iG G n l=r.map .str
 |[],r,h=>by cases h;rfl
 |v::l,r,h=>by
  cases v with
  |str s=>
   simp only[An,Option.map_eq_some_iff] at h
   obtain⟨q,aa,rfl⟩:=h
   simp only[iG,fN,KB aa,List.map_cons]
  |_=>cases h
def Es(G:Nat):I->Option Nat
 |.ptr b 0=>match Nat.blt b G with
  |true=>none
  |false=>some b
 |_=>none
theorem Wj{G n:Nat}{v:I}{b:Nat}(h:Es G v=some b):Nat.blt b G=false/\fN G n v=.ptr (b-G+n) 0:=by
 unfold Es at h
 split at h
 · split at h
   · cases h
   · rename_i aa;cases h;exact⟨aa,by simp only[fN,aa]⟩
 · cases h
def Et:Option cp->Option (Nat×aO×I×I×I)
 |some (.cells [.int .i64 (.ofNat k),.str bK,c5,bZ,cG] el _ _ _)=>match Nat.beq el 51 with
  |true=>some (k,bK,c5,bZ,cG)
  |false=>none
 |_=>none
theorem Wk{o:Option cp}{k:Nat}{bK:aO}{c5 bZ cG:I}(h:Et o=some (k,bK,c5,bZ,cG)):∃bV bk up,o=some (.cells [.int .i64 (Int.ofNat k),.str bK,c5,bZ,cG] 51 bV bk up):=by
 unfold Et at h
 split at h
 · split at h
   · rename_i af
     cases h
     rw[Nat.eq_of_beq_eq_true af]
     exact⟨_,_,_,rfl⟩
   · cases h
 · cases h
def Ao(f:I->Option a6):List I->Option (List a6)
 |[]=>some []
 |v::l=>(f v).bind λt=>(Ao f l).map (t::·)
def Ap(f:I->Option a6)(v:I):Option (Option a6):=match v with
 |.bm=>some none
 |v=>(f v).map some
def u5(G:Nat)(M:J):Nat->I->Option a6
 |0,_=>none
 |f+1,v=>(Es G v).bind λb=>(Et (M.get b)).bind λx=>((u4 G M x.2.2.1).bind An).bind λaJ=>((u4 G M x.2.2.2.1).bind (Ao (u5 G M f))).bind λxs=>(Ap (u5 G M f) x.2.2.2.2).map λrt=>.mk x.1 x.2.1 aJ xs rt
theorem KC{G n B:Nat}{h:J}{f:I->Option a6}(hf:∀v t,f v=some t->kZ (hV n B) h t (fN G n v)):∀{l:List I} {bJ:List a6},Ao f l=some bJ->m9 (hV n B) h bJ (iG G n l)
 |[],bJ,e=>by cases e;rfl
 |v::l,bJ,e=>by
  simp only[Ao,Option.bind_eq_some_iff,Option.map_eq_some_iff] at e
  obtain⟨t,aa,r,ad,rfl⟩:=e
  exact⟨_,_,rfl,hf v t aa,KC hf ad⟩
theorem KD{G n B:Nat}{h:J}{f:I->Option a6}(hf:∀v t,f v=some t->kZ (hV n B) h t (fN G n v)){v:I}{ot:Option a6}(e:Ap f v=some ot):h_ (hV n B) h ot (fN G n v):=by
 unfold Ap at e
 split at e
 · cases e;rfl
 · obtain⟨t,aa,rfl⟩:=Option.map_eq_some_iff.1 e
   exact hf _ t aa
theorem Eu{G n B:Nat}{M h:J}(ak:Ep G n B M h):∀(f:Nat) (v:I) (t:a6),u5 G M f v=some t->kZ (hV n B) h t (fN G n v)
 |0,v,t,e=>by cases e
 |f+1,v,t,e=>by
  simp only[u5,Option.bind_eq_some_iff,Option.map_eq_some_iff] at e
  obtain⟨b,aa,⟨k,bK,c5,bZ,cG⟩,ad,aJ,⟨wn,aw,aQ⟩,xs,⟨Wl,bS,dm⟩,rt,eG,rfl⟩:=e
  obtain⟨aa,ht⟩:=Wj (n:=n) aa
  obtain⟨bV,bk,up,ad⟩:=Wk ad
  obtain⟨al,ar⟩:=ak _ _ ad aa
  have aI:=Er ak aw
  rw[KB aQ] at aI
  exact⟨b-G+n,fN G n c5,fN G n bZ,fN G n cG,iG G n Wl,bV,bk,up,ht,⟨by omega,ar⟩,al,aI,Er ak bS,KC (Eu ak f) dm,KD (Eu ak f) eG⟩
noncomputable def Aq:J:=jD kQ.n kQ.l
noncomputable def Ar:List I:=(u4 Tryz.prog.globals.size Aq kQ.v).getD []
theorem Wm:u4 Tryz.prog.globals.size Aq kQ.v=some Ar:=by kernel_rfl
theorem Wn:Ar.length=27:=by kernel_rfl
def xE(f:I->Option a6):List I->Option (List (Option a6))
 |[]=>some []
 |v::l=>(Ap f v).bind λt=>(xE f l).map (t::·)
theorem KE{G n B:Nat}{h:J}{f:I->Option a6}(hf:∀v t,f v=some t->kZ (hV n B) h t (fN G n v)):∀{l:List I} {bJ:List (Option a6)},xE f l=some bJ->bJ.length=l.length/\∀i (aa:i<l.length),h_ (hV n B) h ((bJ[i]?).getD none) (fN G n l[i])
 |[],bJ,e=>by cases e;exact⟨rfl,λi aa=>by simp at aa⟩
 |v::l,bJ,e=>by
  simp only[xE,Option.bind_eq_some_iff,Option.map_eq_some_iff] at e
  obtain⟨t,aa,r,ad,rfl⟩:=e
  obtain⟨bQ,cl⟩:=KE hf ad
  refine⟨by simp[bQ],λi ae=>?_⟩
  cases i with
  |zero=>exact KD hf aa
  |succ i=>simpa using cl i (by simpa using ae)
noncomputable def As:List (Option a6):=(xE (u5 Tryz.prog.globals.size Aq 9) Ar).getD []
theorem Wo:xE (u5 Tryz.prog.globals.size Aq 9) Ar=some As:=by kernel_rfl
noncomputable def tj(k:Nat):Option a6:=(As[k]?).getD none
def Ev(o:Option a6):Bool:=Nat.ble (ei o) 60&&(Nat.ble (sW o) 1000&&Nat.ble (g4 o).length 400)
theorem Wp:(As.all Ev)=true:=by kernel_rfl
theorem KF(k:Nat):fit (tj k)/\(g4 (tj k)).length<=400:=by
 have key:Ev (tj k)=true:=by
  unfold tj
  cases h:As[k]? with
  |none=>rfl
  |some o=>exact List.all_eq_true.1 Wp o (List.mem_of_getElem? h)
 simp only[Ev,Bool.and_eq_true,Nat.ble_eq] at key
 refine⟨⟨by omega,λt aU=>?_⟩,key.2.2⟩
 have:=key.2.1
 rw[aU] at this
 rw[sW] at this
 omega
theorem Wq{G N:Nat}{l:List (Nat×cp)}{h g:J}(aq:(q2 G l&&q0 N l)=true)(ak:g=⟨(nG G h.n h l).t,h.n+(N-G)⟩):Ep G h.n g.n (jD N l) g/\Ext h.n h g:=by
 rw[Bool.and_eq_true] at aq
 have aI:g.n=h.n+(N-G):=by rw[ak]
 have fi:∀c,g.get c=if c<h.n then h.get c else match(jD N l).get (G+(c-h.n)) with
  |some o=>j2 G h.n o
  |none=>h.get c:=λc=>by rw[ak];exact Dj G h.n N h l (Dk aq.1) c
 refine⟨λb o af aa=>?_,by omega,λd aA=>by rw[fi,if_pos aA]⟩
 have ad:G<=b:=Nat.le_of_not_lt λaw=>by
  have aQ:Nat.blt b G=true:=by rw[Nat.blt_eq];exact aw
  rw[aQ] at aa;cases aa
 refine⟨?_,?_⟩
 · rw[fi,if_neg (by omega),show G+(b-G+h.n-h.n)=b by omega,af]
 · have aw:b<N:=by
     rw[zM] at af
     rcases Dg (iv N) l b with⟨o',bQ,cl⟩|⟨bQ,cl⟩
     · exact Dh aq.2 _ _ bQ
     · rw[af,Di] at cl;cases cl
   omega
theorem Wr:(q2 Tryz.prog.globals.size kQ.l&&q0 kQ.n kQ.l)=true:=by kernel_rfl
theorem Ws(n:Nat):∃b,fN Tryz.prog.globals.size n kQ.v=.slice b 0 27 (.aS 1):=⟨5503-Tryz.prog.globals.size+n,by kernel_rfl⟩
theorem Wt(h:J):bW 69 [] h=some (fN Tryz.prog.globals.size h.n kQ.v,⟨(nG Tryz.prog.globals.size h.n h kQ.l).t,h.n+(kQ.n-Tryz.prog.globals.size)⟩):=by kernel_rfl
theorem Wu(m:Nat)(h:J):∃b g vs,Y (m+1) (.fn 69) [] h=.ret (.slice b 0 27 (.aS 1)) g/\Ext h.n h g/\rq (hV h.n g.n) g (.slice b 0 27 (.aS 1)) vs/\vs.length=27/\∀i (ae:i<vs.length),h_ (hV h.n g.n) g (tj i) vs[i]:=by
 have e:=Wt h
 obtain⟨g,ak⟩:∃g:J,g=⟨(nG Tryz.prog.globals.size h.n h kQ.l).t,h.n+(kQ.n-Tryz.prog.globals.size)⟩:=⟨_,rfl⟩
 obtain⟨hS,ab⟩:=Wq Wr ak
 have kX:=Er hS Wm
 obtain⟨bQ,cl⟩:=KE (Eu hS 9) Wo
 obtain⟨b,ux⟩:=Ws h.n
 rw[ux] at kX e
 rw[<-ak] at e
 refine⟨b,g,_,?_,ab,kX,by rw[sQ,Wn],λi ae=>?_⟩
 · show fq Tryz.prog bW (m+1) _ _ _=_
   simp only[fq,e]
 · rw[sQ] at ae
   have:=cl i ae
   simp only[Da,List.getElem_map]
   exact this
end Go.Proofs.dQ
namespace Go.Proofs.dQ
open Go aB Go.Proofs df Go.Proofs.cD
set_option maxRecDepth 100000
set_option maxHeartbeats 1000000
theorem Wv(m:Nat)(v:I)(h:J){R:ao->Prop}(H:∃aN:Nat,∃bz:Nat,∃cm:Nat,∃c1:ch,∃al:J,(Y m) (.fn 69) [] h=.ret (.slice aN bz cm c1) al/\bj Tryz.prog Tryz.f46 (Y m) [1,1,1,0,1,0] (ah.mk [(0,v),(3,.slice aN bz cm c1),(4,.bf),(5,.int .i64 (.ofNat 0))] [] .none al) (λcq cr=>∃v1:I,∃ar:J,∃bl:Env,cq=.exit 0/\cr=ah.mk bl [] .none ar/\cg [(4,v1)] bl/\R (.ret v1 ar))):
  R (Y (m+1) (.fn 46) [v] h):=
 dp (intr:=bW) [(6,.b7 .fL),(4000,.hD [0,3,4,5] [(.exit 0,[(4,.o)])])] [(0,.o v)] Tryz.func46 (by kernel_rfl) (by kernel_rfl) (by kernel_rfl) rfl (Eq.mp (by kernel_rfl) H)
theorem Ww(call:aF->List I->J->ao)(b:Nat)(off:Nat)(N:Nat)(g6:Nat)(to:Nat)(k0:Nat)(i:Nat)(aH:ch)(mu:ch)(w:I)(h:J){Q:bw->ah->Prop}(H:(i<N->(i<40->i<N/\∃s1:List UInt8,au (h.room 30) b (off+i*2+0)=some (.str s1)/\i<N/\∃s2:List UInt8,au (h.room 30) b (off+i*2+0)=some (.str s2)/\∃aN:Nat,hM ir (.int .i64 (.ofNat (List.length s2))) [.int .i64 (.ofNat 30)]=some (.int .i64 (.ofNat aN))/\∃bq:List UInt8,e1 Tryz.prog (h.room 30) 9 (.str s1) none (some (.int .i64 (.ofNat aN))) none=some (.str bq)/\i<N/\∃bz:Nat,au (h.room 30) b (off+i*2+1)=some (.int .u8 (.ofNat bz))/\∃cm:Nat,et Tryz.prog 5 3 (.int .u8 (.ofNat bz)) (h.room 30)=e5.val (.int .i64 (.ofNat cm)) (h.room 30)/\∃cy:Nat,arith .rem .i64 (.ofNat cm) (.ofNat k0)=some (.int .i64 (.ofNat cy))/\cy<k0/\∃c6:Nat,au (h.room 30) g6 (to+cy*1)=some (.ptr c6 0)/\∃dr:Nat,∃ev:Nat,∃al:J,gx Tryz.prog (J.set (h.room 30) (h.n+27) (some (.cells [.str bq,.ptr c6 0] 53 .own 0 0))) 22 (some 22) w (.slice (h.n+27) 0 1 (.exact 1))=some (.slice dr 0 ev (.aS 2),al)/\I.sound w=true/\au (J.set (h.room 30) (h.n+27) (some (.cells [.str bq,.ptr c6 0] 53 .own 0 0))) b (off+i*2+0)=some (.str s1)/\au (J.set (h.room 30) (h.n+27) (some (.cells [.str bq,.ptr c6 0] 53 .own 0 0))) b (off+i*2+0)=some (.str s2)/\hM ir (.int .i64 (.ofNat (List.length s2))) [.int .i64 (.ofNat 30)]=some (.int .i64 (.ofNat aN))/\e1 Tryz.prog (J.set (h.room 30) (h.n+27) (some (.cells [.str bq,.ptr c6 0] 53 .own 0 0))) 9 (.str s1) none (some (.int .i64 (.ofNat aN))) none=some (.str bq)/\au (J.set (h.room 30) (h.n+27) (some (.cells [.str bq,.ptr c6 0] 53 .own 0 0))) b (off+i*2+1)=some (.int .u8 (.ofNat bz))/\et Tryz.prog 5 3 (.int .u8 (.ofNat bz)) (J.set (h.room 30) (h.n+27) (some (.cells [.str bq,.ptr c6 0] 53 .own 0 0)))=e5.val (.int .i64 (.ofNat cm)) (J.set (h.room 30) (h.n+27) (some (.cells [.str bq,.ptr c6 0] 53 .own 0 0)))/\au (J.set (h.room 30) (h.n+27) (some (.cells [.str bq,.ptr c6 0] 53 .own 0 0))) g6 (to+cy*1)=some (.ptr c6 0)/\i+1<9223372036854775808/\Q .nrm (ah.mk [(0,.slice b off N aH),(3,.slice g6 to k0 mu),(4,.slice dr 0 ev (.aS 2)),(5,.int .i64 (.ofNat (i+1)))] [] .none al))/\(¬i<40->Q (.exit 0) (ah.mk [(0,.slice b off N aH),(3,.slice g6 to k0 mu),(4,w),(5,.int .i64 (.ofNat i))] [] .none h)))/\(¬i<N->Q (.exit 0) (ah.mk [(0,.slice b off N aH),(3,.slice g6 to k0 mu),(4,w),(5,.int .i64 (.ofNat i))] [] .none h))):
  bj Tryz.prog Tryz.f46 call [1,1,1,0,1,0,0] ⟨[(0,.slice b off N aH),(3,.slice g6 to k0 mu),(4,w),(5,.int .i64 (.ofNat i))],[],.none,h⟩ Q:=
 eu [(36,.b7 (.n .u8)),(45,.b7 (.wK (.aS 2))),(42,.b7 .p)] [0,3,4,5] [(0,.v (.slice b off N aH)),(3,.v (.slice g6 to k0 mu)),(4,.o w),(5,.v (.int .i64 (.ofNat i)))] rfl (Eq.mp (by kernel_rfl) H)
theorem Wx(call:aF->List I->J->ao)(b:Nat)(off:Nat)(N:Nat)(g6:Nat)(to:Nat)(k0:Nat)(i:Nat)(aH:ch)(mu:ch)(w:I)(h:J){Q:bw->ah->Prop}(H:(i<N->(i<40->i<N/\∃s1:List UInt8,au (h.room 30) b (off+i*2+0)=some (.str s1)/\i<N/\∃s2:List UInt8,au (h.room 30) b (off+i*2+0)=some (.str s2)/\∃aN:Nat,hM ir (.int .i64 (.ofNat (List.length s2))) [.int .i64 (.ofNat 30)]=some (.int .i64 (.ofNat aN))/\∃bq:List UInt8,e1 Tryz.prog (h.room 30) 9 (.str s1) none (some (.int .i64 (.ofNat aN))) none=some (.str bq)/\i<N/\∃bz:Nat,au (h.room 30) b (off+i*2+1)=some (.int .u8 (.ofNat bz))/\∃cm:Nat,et Tryz.prog 5 3 (.int .u8 (.ofNat bz)) (h.room 30)=e5.val (.int .i64 (.ofNat cm)) (h.room 30)/\∃cy:Nat,arith .rem .i64 (.ofNat cm) (.ofNat k0)=some (.int .i64 (.ofNat cy))/\cy<k0/\au (h.room 30) g6 (to+cy*1)=some .bm/\∃c6:Nat,∃dr:Nat,∃al:J,gx Tryz.prog (J.set (h.room 30) (h.n+27) (some (.cells [.str bq,.bm] 53 .own 0 0))) 22 (some 22) w (.slice (h.n+27) 0 1 (.exact 1))=some (.slice c6 0 dr (.aS 2),al)/\I.sound w=true/\au (J.set (h.room 30) (h.n+27) (some (.cells [.str bq,.bm] 53 .own 0 0))) b (off+i*2+0)=some (.str s1)/\au (J.set (h.room 30) (h.n+27) (some (.cells [.str bq,.bm] 53 .own 0 0))) b (off+i*2+0)=some (.str s2)/\hM ir (.int .i64 (.ofNat (List.length s2))) [.int .i64 (.ofNat 30)]=some (.int .i64 (.ofNat aN))/\e1 Tryz.prog (J.set (h.room 30) (h.n+27) (some (.cells [.str bq,.bm] 53 .own 0 0))) 9 (.str s1) none (some (.int .i64 (.ofNat aN))) none=some (.str bq)/\au (J.set (h.room 30) (h.n+27) (some (.cells [.str bq,.bm] 53 .own 0 0))) b (off+i*2+1)=some (.int .u8 (.ofNat bz))/\et Tryz.prog 5 3 (.int .u8 (.ofNat bz)) (J.set (h.room 30) (h.n+27) (some (.cells [.str bq,.bm] 53 .own 0 0)))=e5.val (.int .i64 (.ofNat cm)) (J.set (h.room 30) (h.n+27) (some (.cells [.str bq,.bm] 53 .own 0 0)))/\au (J.set (h.room 30) (h.n+27) (some (.cells [.str bq,.bm] 53 .own 0 0))) g6 (to+cy*1)=some .bm/\i+1<9223372036854775808/\Q .nrm (ah.mk [(0,.slice b off N aH),(3,.slice g6 to k0 mu),(4,.slice c6 0 dr (.aS 2)),(5,.int .i64 (.ofNat (i+1)))] [] .none al))/\(¬i<40->Q (.exit 0) (ah.mk [(0,.slice b off N aH),(3,.slice g6 to k0 mu),(4,w),(5,.int .i64 (.ofNat i))] [] .none h)))/\(¬i<N->Q (.exit 0) (ah.mk [(0,.slice b off N aH),(3,.slice g6 to k0 mu),(4,w),(5,.int .i64 (.ofNat i))] [] .none h))):
  bj Tryz.prog Tryz.f46 call [1,1,1,0,1,0,0] ⟨[(0,.slice b off N aH),(3,.slice g6 to k0 mu),(4,w),(5,.int .i64 (.ofNat i))],[],.none,h⟩ Q:=
 eu [(36,.b7 (.n .u8)),(45,.b7 (.wK (.aS 2))),(42,.b7 (.is .bm))] [0,3,4,5] [(0,.v (.slice b off N aH)),(3,.v (.slice g6 to k0 mu)),(4,.o w),(5,.v (.int .i64 (.ofNat i)))] rfl (Eq.mp (by kernel_rfl) H)
theorem Ew(call:aF->List I->J->ao)(i:Nat)(v:I)(x:I)(w:I)(h:J){Q:bw->ah->Prop}(H:∃aN:Nat,bO Tryz.prog h 36 v=some (.int .i64 (.ofNat aN))/\(i<aN->¬i<40/\Q (.exit 0) (ah.mk [(4,w)] [] .none h))/\(¬i<aN->Q (.exit 0) (ah.mk [(4,w)] [] .none h))):
  bj Tryz.prog Tryz.f46 call [1,1,1,0,1,0,0] ⟨[(0,v),(3,x),(4,w),(5,.int .i64 (.ofNat i))],[],.none,h⟩ Q:=
 eu [(1014,.f)] [4] [(0,.o v),(3,.o x),(4,.o w),(5,.v (.int .i64 (.ofNat i)))] rfl (Eq.mp (by kernel_rfl) H)
theorem Wy(call:aF->List I->J->ao)(p:List UInt8)(b:Bool)(vv:I)(bR:I)(h:J){Q:bw->ah->Prop}(H:I.b0 vv=true/\I.b0 bR=true/\∃s1:List UInt8,au (J.room (J.push (J.push h (.cells [.str p,.bool b,vv,bR] 38 .own 0 0)) (.cells [.str [],.bool false,.bf,.bf] 24 .own 0 0)) 17) h.n (0+0)=some (.str s1)/\∃s2:List UInt8,au (J.room (J.push (J.push h (.cells [.str p,.bool b,vv,bR] 38 .own 0 0)) (.cells [.str [],.bool false,.bf,.bf] 24 .own 0 0)) 17) h.n (0+0)=some (.str s2)/\∃aN:Nat,hM ir (.int .i64 (.ofNat (List.length s2))) [.int .i64 (.ofNat 50)]=some (.int .i64 (.ofNat aN))/\∃bq:List UInt8,e1 Tryz.prog (J.room (J.push (J.push h (.cells [.str p,.bool b,vv,bR] 38 .own 0 0)) (.cells [.str [],.bool false,.bf,.bf] 24 .own 0 0)) 17) 9 (.str s1) none (some (.int .i64 (.ofNat aN))) none=some (.str bq)/\∃a5:Bool,au (J.room (J.push (J.push h (.cells [.str p,.bool b,vv,bR] 38 .own 0 0)) (.cells [.str [],.bool false,.bf,.bf] 24 .own 0 0)) 17) h.n (0+1)=some (.bool a5)/\∃v1:I,au (J.room (J.push (J.push h (.cells [.str p,.bool b,vv,bR] 38 .own 0 0)) (.cells [.str [],.bool false,.bf,.bf] 24 .own 0 0)) 17) h.n (0+2)=some v1/\∃v2:I,∃al:J,call (.fn 46) [v1] (J.room (J.push (J.push h (.cells [.str p,.bool b,vv,bR] 38 .own 0 0)) (.cells [.str [],.bool false,.bf,.bf] 24 .own 0 0)) 17)=.ret v2 al/\∃dc:I,au al h.n (0+3)=some dc/\∃v4:I,∃ar:J,call (.fn 46) [dc] al=.ret v4 ar/\I.b0 v2=true/\I.b0 v4=true/\I.b0 v2=true/\I.b0 v4=true/\∃aZ:J,aB.storeCells ar (J.n (J.push h (.cells [.str p,.bool b,vv,bR] 38 .own 0 0))) 0 [.str bq,.bool a5,v2,v4]=some aZ/\au ar h.n (0+0)=some (.str s1)/\au al h.n (0+0)=some (.str s1)/\au ar h.n (0+0)=some (.str s2)/\au al h.n (0+0)=some (.str s2)/\hM ir (.int .i64 (.ofNat (List.length s2))) [.int .i64 (.ofNat 50)]=some (.int .i64 (.ofNat aN))/\hM ir (.int .i64 (.ofNat (List.length s2))) [.int .i64 (.ofNat 50)]=some (.int .i64 (.ofNat aN))/\e1 Tryz.prog ar 9 (.str s1) none (some (.int .i64 (.ofNat aN))) none=some (.str bq)/\e1 Tryz.prog al 9 (.str s1) none (some (.int .i64 (.ofNat aN))) none=some (.str bq)/\au ar h.n (0+1)=some (.bool a5)/\au al h.n (0+1)=some (.bool a5)/\I.sound v1=true/\I.sound dc=true/\au (J.room (J.push (J.push h (.cells [.str p,.bool b,vv,bR] 38 .own 0 0)) (.cells [.str [],.bool false,.bf,.bf] 24 .own 0 0)) 17) h.n (0+3)=some dc/\I.sound v2=true/\I.sound v4=true/\Q .ret (ah.mk [(2,.ptr (J.n (J.push h (.cells [.str p,.bool b,vv,bR] 38 .own 0 0))) 0)] [] .none aZ)):
  bj Tryz.prog Tryz.f16 call [] ⟨[(0,.agg [.str p,.bool b,vv,bR])],[],.none,h⟩ Q:=
 eu [] [2] [(0,.fM [.v (.str p),.v (.bool b),.o vv,.o bR])] rfl (Eq.mp (by kernel_rfl) H)
theorem ox(a b:Nat):hM ir (.int .i64 (Int.ofNat a)) [.int .i64 (Int.ofNat b)]=some (.int .i64 (Int.ofNat (min a b))):=by
 simp only[hM,ir,if_true]
 by_cases h:b<a
 · rw[if_pos (dx h),Nat.min_eq_right (by omega)]
 · rw[if_neg (by rw[eg h];simp),Nat.min_eq_left (by omega)]
theorem u6:Tryz.prog.underlying 9=some .string:=by kernel_rfl
theorem pU{h:J}(k:Nat)(s:aO):e1 Tryz.prog h 9 (.str s) none (some (.int .i64 (Int.ofNat (min s.length k)))) none=some (.str (s.take (min s.length k))):=Cy u6 (by omega)
theorem At(n:Nat)(aI:n<256)(h:J):et Tryz.prog 5 3 (.int .u8 (Int.ofNat n)) h=.val (.int .i64 (Int.ofNat n)) h:=zs (ka:=.u8) (by kernel_rfl) dg.D9 (rH n (by omega))
theorem KG(a b:Nat)(af:0<b):arith .rem .i64 (Int.ofNat a) (Int.ofNat b)=some (.int .i64 (Int.ofNat (a %b))):=by
 have aa:¬Int.ofNat b=0:=λh=>by have ad:(b:Int)=0:=h;omega
 simp only[arith]
 rw[if_neg aa]
 rfl
def ku(B:Nat)(h:J)(v:I)(l:List (aO×Nat)):Prop:=(v=.bf/\l=[])\/∃b off aH,v=.slice b off l.length aH/\b<B/\(∀i (ae:i<l.length),au h b (off+i*2+0)=some (.str l[i].1)/\au h b (off+i*2+1)=some (.int .u8 (Int.ofNat l[i].2)))
theorem ku.ext{B:Nat}{h g:J}{v:I}{l:List (aO×Nat)}(x:Ext B h g)(o:ku B h v l):ku B g v l:=by
 rcases o with o|⟨b,off,aH,aa,ad,aw⟩
 · exact .inl o
 · exact .inr ⟨b,off,aH,aa,ad,λi ae=>⟨gg x ad (aw i ae).1,gg x ad (aw i ae).2⟩⟩
theorem ku.le{B C:Nat}{h:J}{v:I}{l:List (aO×Nat)}(e:B<=C)(o:ku B h v l):ku C h v l:=by
 rcases o with o|⟨b,off,aH,aa,ad,aw⟩
 · exact .inl o
 · exact .inr ⟨b,off,aH,aa,by omega,aw⟩
theorem ku.cell{B:Nat}{h:J}{v:I}{l:List (aO×Nat)}(o:ku B h v l):v.b0=true:=by
 rcases o with⟨rfl,_⟩|⟨b,off,aH,rfl,_⟩<;>rfl
theorem ku.snd{B:Nat}{h:J}{v:I}{l:List (aO×Nat)}(o:ku B h v l):I.sound v=true:=by
 rcases o with⟨rfl,_⟩|⟨b,off,aH,rfl,_⟩<;>rfl
noncomputable def k1(x:aO×Nat):gJ:=(x.1.take (min x.1.length 30),tj (x.2 %27))
noncomputable def hx(l:List (aO×Nat)):List gJ:=(l.take 40).map k1
theorem rr(l:List (aO×Nat)):(hx l).length=min l.length 40:=by simp[hx,Nat.min_comm]
def ru:Option Nat->I
 |none=>.bm
 |some r=>.ptr r 0
def u7(d:aO×Option Nat):List I:=[.str d.1,ru d.2]
theorem KH:su Tryz.prog u7 2 53 22:=⟨u3.hu,u3.gk,u3.info,u3.zero,u3.size,λd=>rfl,λd=>by
 obtain⟨a,b⟩:=d
 cases b<;>rfl,u3.pos⟩
theorem Wz{a b:Nat}{h:J}{ot:Option a6}{v:I}(aC:h_ (hV a b) h ot v):∃u,v=ru u:=by
 rcases(h_.at (λd aA=>aA.2) _ _ aC).sZ with rfl|⟨R,rfl⟩
 · exact⟨none,rfl⟩
 · exact⟨some R,rfl⟩
structure tk(A B:Nat)(l:List (aO×Nat))(i:Nat)(y:J)(w:I)(aW:List (aO×Option Nat)):Prop where
 o:ki u7 2 53 B y w aW
 n:aW.length=i
 d:∀j (aG:j<aW.length),∃aq:j<l.length,aW[j].1=(k1 l[j]).1/\h_ (hV A B) y (k1 l[j]).2 (ru aW[j].2)
theorem tk.row{A B:Nat}{l:List (aO×Nat)}{i:Nat}{y:J}{w:I}{aW:List (aO×Option Nat)}(p:tk A B l i y w aW)(ae:i=min l.length 40)(iB:A<=B)(bI:B<=y.n):gT (hV A y.n) y w (hx l):=by
 have aI:=p.n
 rcases p.o with⟨rfl,rfl⟩|⟨b,rfl,ad,aw,aQ,bS⟩
 · refine .inl ⟨rfl,?_⟩
   have:(hx l).length=0:=by rw[rr];simp at aI;omega
   exact List.length_eq_zero_iff.1 this
 · refine .inr ⟨b,0,.aS 2,by rw[rr,<-ae,aI],⟨by omega,bS⟩,λj aG=>?_,by rw[rr];omega,by simp⟩
   rw[rr] at aG
   obtain⟨aq,ax,ay⟩:=p.d j (by omega)
   obtain⟨_,_,fr⟩:=ki.load KH (.inr ⟨b,rfl,ad,aw,aQ,bS⟩:ki u7 2 53 B y (.slice b 0 aW.length (.aS 2)) aW)
   have e:(hx l)[j]'(by rw[rr];omega)=k1 l[j]:=by simp[hx]
   rw[e]
   refine⟨ru aW[j].2,?_,h_.b6 (λd aA=>⟨⟨aA.1,by omega⟩,rfl⟩) _ _ ay⟩
   rw[fr j (by omega)]
   simp only[u7,ax]
theorem tk.add{A B:Nat}{l:List (aO×Nat)}{i:Nat}{y:J}{w:I}{aW:List (aO×Option Nat)}(p:tk A B l i y w aW)(ae:i<l.length)(xF:i<40)(bI:B<=y.n){u:Option Nat}(aU:h_ (hV A B) y (k1 l[i]).2 (ru u)):
  ∃g,gx Tryz.prog ((y.room 30).set (y.n+27) (some (.cells [.str (k1 l[i]).1,ru u] 53 .own 0 0))) 22 (some 22) w (.slice (y.n+27) 0 1 (.exact 1))=some (.slice (y.n+30) 0 (i+1) (.aS 2),g)/\Ext B y g/\tk A B l (i+1) g (.slice (y.n+30) 0 (i+1) (.aS 2)) (aW++[((k1 l[i]).1,u)]):=by
 obtain⟨iL,nX⟩:∃iL,iL=(y.room 30).set (y.n+27) (some (.cells [.str (k1 l[i]).1,ru u] 53 .own 0 0)):=⟨_,rfl⟩
 have Ex:iL.n=y.n+30:=by rw[nX];simp
 have h7:Ext y.n y iL:=by rw[nX];exact Ext.hg (by omega) (Ext.room _ _ _)
 have WA:Ext B y iL:=by rw[nX];exact Ext.hg (by omega) (Ext.room _ _ _)
 have hs:hW iL 2 (.slice (y.n+27) 0 1 (.exact 1))=some (1,u7 ((k1 l[i]).1,u)):=by
  have:aB.loadCells iL (y.n+27) 0 (1*2)=some [.str (k1 l[i]).1,ru u]:=by rw[nX];exact nC (iW rfl) rfl
  simp only[hW,this,u7]
 have aI:=p.n
 obtain⟨g,e,al,fV,Ey,Ez⟩:=Kz KH (B:=B) (d:=((k1 l[i]).1,u)) (ki.mono p.o h7 (Nat.le_refl _)) (by omega) hs (by omega)
 rw[<-nX]
 rw[Ex,List.length_append,List.length_singleton,aI] at e
 have fl:Ext B y g:=WA.trans (Nat.le_refl _) Ey
 refine⟨g,e,fl,.inr ⟨y.n+30,by rw[List.length_append,List.length_singleton,aI],by simp,by rw[<-Ex];exact al,by omega,by omega⟩,by simp[aI],λj aG=>?_⟩
 rw[List.length_append,List.length_singleton] at aG
 by_cases jP:j<aW.length
 · obtain⟨aq,ax,ay⟩:=p.d j jP
   rw[List.getElem_append_left jP]
   exact⟨aq,ax,h_.b6 (λd aA=>⟨aA,fl.get d aA.2⟩) _ _ ay⟩
 · obtain rfl:j=i:=by omega
   rw[List.getElem_append_right (by omega)]
   refine⟨ae,?_,?_⟩
   · simp
   · simp only[List.getElem_singleton]
     exact h_.b6 (λd aA=>⟨aA,fl.get d aA.2⟩) _ _ aU
theorem KI(m:Nat){B:Nat}{h:J}{v:I}{l:List (aO×Nat)}(bI:B<=h.n)(aC:ku B h v l)(gL:∀x∈l,x.2<256):∃v' g,Y (m+2) (.fn 46) [v] h=.ret v' g/\Ext h.n h g/\gT (hV h.n g.n) g v' (hx l):=by
 obtain⟨g6,T,vs,WB,xT,st,YG,WC⟩:=Wu m h
 have kK:=xT.n
 have WD:ku T.n T v l:=(aC.ext (xT.le bI)).le (by omega)
 obtain⟨WE,to,mu,hN,⟨_,EA⟩,fA,_,_⟩:∃b off aH,I.slice g6 0 27 (.aS 1)=.slice b off vs.length aH/\(h.n<=b/\b<T.n)/\(∀i (ae:i<vs.length),au T b (off+i*1)=some vs[i])/\0<vs.length/\aH≠ .dead:=by
  rcases st with⟨e,_⟩|e
  · cases e
  · exact e
 obtain⟨rfl,rfl,_,rfl⟩:g6=WE/\0=to/\27=vs.length/\ch.aS 1=mu:=by injection hN with a b c d;exact⟨a,b,c,d⟩
 refine Wv (m+1) v h (R:=λx=>∃v' g,x=.ret v' g/\Ext h.n h g/\gT (hV h.n g.n) g v' (hx l)) ⟨g6,0,27,.aS 1,T,WB,?_⟩
 refine bj.loop (by kernel_rfl) (λk s=>∃i w aW y Γ,s=⟨Γ,[],.none,y⟩/\cg [(0,v),(3,.slice g6 0 27 (.aS 1)),(4,w),(5,.int .i64 (Int.ofNat i))] Γ/\min l.length 40-i=k/\i<=min l.length 40/\Ext T.n T y/\tk h.n T.n l i y w aW) ?_ (min l.length 40) _ (by omega) ⟨0,.bf,[],T,_,rfl,⟨rfl,rfl,rfl,rfl,trivial⟩,by omega,by omega,Ext.refl _ _,.inl ⟨rfl,rfl⟩,rfl,λj aG=>by simp at aG⟩
 rintro k s ⟨i,w,aW,y,Γ,rfl,cJ,av,ae,ab,a7⟩
 have Au:=ab.n
 have fin:i=min l.length 40->∀bU,cg [(4,w)] bU->∃(v1:I) (ar:J) (bl:Env),bw.exit 0=.exit 0/\(⟨bU,[],.none,y⟩:ah)=⟨bl,[],.none,ar⟩/\cg [(4,v1)] bl/\∃v' g,ao.ret v1 ar=.ret v' g/\Ext h.n h g/\gT (hV h.n g.n) g v' (hx l):=λe bU ak=>⟨w,y,bU,rfl,rfl,ak,w,y,rfl,xT.trans (Nat.le_refl _) (ab.le (by omega)),a7.row e kK (by omega)⟩
 rcases WD with⟨rfl,rfl⟩|⟨b,off,aH,rfl,af,kX⟩
 · refine bj.pre (Ew (Y (m+1)) i .bf _ w y ⟨0,by rfl,λaj=>absurd aj (by omega),λ_=>fin (by simp at ae⊢;omega) _ ⟨rfl,trivial⟩⟩) cJ rfl rfl rfl
 · by_cases cY:i<l.length
   · by_cases xF:i<40
     · have ai:Ext T.n T (y.room 30):=ab.il
       have ng:=gg ai af (kX i cY).1
       have bl:=gg ai af (kX i cY).2
       have hm:l[i].2 %27<vs.length:=by omega
       have EB:=WC _ hm
       obtain⟨u,hu⟩:=Wz EB
       rw[hu] at EB
       have lt:=gg ai EA (fA _ hm)
       rw[hu] at lt
       have Av:=gL l[i] (List.getElem_mem cY)
       obtain⟨g,fZ,fl,a_⟩:=a7.add cY xF Au (u:=u) (h_.b6 (λd aA=>⟨aA,ab.get d aA.2⟩) _ _ EB)
       have hs:∀o,Ext T.n T ((y.room 30).set (y.n+27) o):=λo=>Ext.hg (by omega) ai
       have oN:∃j,j<k/\∃mS w aW gO Γ,(⟨[(0,.slice b off l.length aH),(3,.slice g6 0 27 (.aS 1)),(4,.slice (y.n+30) 0 (i+1) (.aS 2)),(5,.int .i64 (Int.ofNat (i+1)))],[],.none,g⟩:ah)=⟨Γ,[],.none,gO⟩/\cg [(0,.slice b off l.length aH),(3,.slice g6 0 27 (.aS 1)),(4,w),(5,.int .i64 (Int.ofNat mS))] Γ/\min l.length 40-mS=j/\mS<=min l.length 40/\Ext T.n T gO/\tk h.n T.n l mS gO w aW:=⟨_,(by show min l.length 40-(i+1)<k;omega),i+1,_,_,g,_,rfl,⟨rfl,rfl,rfl,rfl,trivial⟩,rfl,by omega,ab.trans (Nat.le_refl _) fl,a_⟩
       cases u with
       |none=>exact bj.pre (Wx (Y (m+1)) b off _ g6 0 27 i aH _ w y ⟨λ_=>⟨λ_=>⟨cY,_,ng,cY,_,ng,_,ox _ _,_,pU _ _,cY,_,bl,_,At _ Av _,_,KG _ 27 (by omega),by omega,lt,_,_,g,fZ,a7.o.sound,gg (hs _) af (kX i cY).1,gg (hs _) af (kX i cY).1,ox _ _,pU _ _,gg (hs _) af (kX i cY).2,At _ Av _,(gg (hs _) EA (fA _ hm)).trans (by rw[hu];rfl),by omega,oN⟩,λaj=>absurd xF aj⟩,λaj=>absurd cY aj⟩) cJ rfl rfl rfl
       |some R=>exact bj.pre (Ww (Y (m+1)) b off _ g6 0 27 i aH _ w y ⟨λ_=>⟨λ_=>⟨cY,_,ng,cY,_,ng,_,ox _ _,_,pU _ _,cY,_,bl,_,At _ Av _,_,KG _ 27 (by omega),by omega,R,lt,_,_,g,fZ,a7.o.sound,gg (hs _) af (kX i cY).1,gg (hs _) af (kX i cY).1,ox _ _,pU _ _,gg (hs _) af (kX i cY).2,At _ Av _,(gg (hs _) EA (fA _ hm)).trans (by rw[hu];rfl),by omega,oN⟩,λaj=>absurd xF aj⟩,λaj=>absurd cY aj⟩) cJ rfl rfl rfl
     · refine bj.pre (Ew (Y (m+1)) i _ _ w y ⟨l.length,by rfl,λ_=>⟨xF,fin (by omega) _ ⟨rfl,trivial⟩⟩,λaj=>absurd cY aj⟩) cJ rfl rfl rfl
   · refine bj.pre (Ew (Y (m+1)) i _ _ w y ⟨l.length,by rfl,λaj=>absurd aj cY,λ_=>fin (by omega) _ ⟨rfl,trivial⟩⟩) cJ rfl rfl rfl
end Go.Proofs.dQ
namespace Go.Proofs.dQ
open Go aB Go.Proofs df Go.Proofs.cD
set_option maxRecDepth 100000
set_option maxHeartbeats 1000000
theorem WG{Γ:Env}{y:J}{a:Nat}{cs:List I}(WH:aB.loadCells y a 0 4=some cs)(ad:eQ 2 Γ=some (.ptr a 0):=by kernel_rfl):mV Tryz.prog (dM Tryz.f16) Tryz.f16 Γ y=some (.agg cs):=by
 have e:(Tryz.f16).results.toList=[.cell 2 24]:=by kernel_rfl
 have bt:Nat.testBit (dM Tryz.f16) 2=true:=by kernel_rfl
 have ar:nd Tryz.prog 24=some true:=by kernel_rfl
 have fj:dd Tryz.prog 24=some 4:=by kernel_rfl
 unfold mV
 rw[e]
 simp only[mz,ow,bt,ad,ar,fj,WH]
theorem WI{p EC:aO}{b lS:Bool}{v w v' w':I}(aC:v.b0=true)(hw:w.b0=true):eR 0 [.str p,.bool b,v,w] [.str EC,.bool lS,v',w']=some [.str p,.bool b,v,w]:=ud [.str p,.bool b,v,w] _ (by simp[I.b0] at*;exact⟨aC,hw⟩) (Nat.le_refl _)
abbrev KJ(p:aO)(b:Bool)(v w:I):cp:=.cells [.str p,.bool b,v,w] 38 .own 0 0
def cut(k:Nat)(p:aO):aO:=p.take (min p.length k)
noncomputable def xG(p:aO)(b:Bool)(c_ lt:List (aO×Nat)):mm:=⟨cut 50 p,b,hx c_,hx lt⟩
structure m_(B:Nat)(h:J)(vv bR:I)(c_ lt:List (aO×Nat)):Prop where
 v:ku B h vv c_
 t:ku B h bR lt
 ra:∀x∈c_,x.2<256
 t8:∀x∈lt,x.2<256
theorem m_.ext{B:Nat}{h g:J}{vv bR:I}{c_ lt:List (aO×Nat)}(x:Ext B h g)(o:m_ B h vv bR c_ lt):m_ B g vv bR c_ lt:=⟨o.v.ext x,o.t.ext x,o.ra,o.t8⟩
theorem m_.le{B C:Nat}{h:J}{vv bR:I}{c_ lt:List (aO×Nat)}(e:B<=C)(o:m_ B h vv bR c_ lt):m_ C h vv bR c_ lt:=⟨o.v.le e,o.t.le e,o.ra,o.t8⟩
theorem gT.snd{F:Nat->Prop}{h:J}{v:I}{l:List gJ}(ai:gT F h v l):I.sound v=true:=by rcases ai with⟨rfl,_⟩|⟨b,off,aH,rfl,_⟩<;>rfl
theorem WJ(m:Nat){B:Nat}{h:J}{p:aO}{b:Bool}{vv bR:I}{c_ lt:List (aO×Nat)}(bI:B<=h.n)(hm:m_ B h vv bR c_ lt):∃v1 v2 g,Y (m+4) (.fn 16) [.agg [.str p,.bool b,vv,bR]] h=.ret (.agg [.str (cut 50 p),.bool b,v1,v2]) g/\Ext h.n h g/\gT (hV h.n g.n) g v1 (hx c_)/\gT (hV h.n g.n) g v2 (hx lt):=by
 obtain⟨eO,lA⟩:∃x,x=h.push (KJ p b vv bR):=⟨_,rfl⟩
 obtain⟨fY,lC⟩:∃x,x=eO.push (mq [] false .bf .bf):=⟨_,rfl⟩
 obtain⟨H,cS⟩:∃x,x=fY.room 17:=⟨_,rfl⟩
 have aN:eO.n=h.n+1:=by rw[lA];rfl
 have jf:H.n=h.n+19:=by rw[cS];simp;rw[lC];simp;omega
 have dz:Ext h.n h H:=by rw[cS];refine Ext.il ?_;rw[lC];refine Ext.po (by omega) ?_;rw[lA];exact Ext.push (Nat.le_refl _) _
 have aV:H.get h.n=some (KJ p b vv bR):=by rw[cS];refine nB ?_;rw[lC];refine zt (by omega) ?_;rw[lA];exact gf rfl
 have aY:H.get (h.n+1)=some (mq [] false .bf .bf):=by rw[cS];refine nB ?_;rw[lC];exact gf aN.symm
 have u9:m_ H.n H vv bR c_ lt:=(hm.ext (dz.le bI)).le (by omega)
 obtain⟨tl,al,c1,a8,r1⟩:=KI (m+1) (Nat.le_refl _) u9.v u9.ra
 have KK:=a8.n
 obtain⟨tm,ar,c2,bu,r2⟩:=KI (m+1) KK (u9.t.ext a8) u9.t8
 have z4:=bu.n
 have fy:∀d,d<H.n->al.get d=H.get d:=λd aA=>a8.get d aA
 have gO:∀d,d<H.n->ar.get d=H.get d:=λd aA=>(bu.get d (by omega)).trans (fy d aA)
 obtain⟨aZ,lX⟩:∃aZ,aZ=ar.set (h.n+1) (some (mq (cut 50 p) b tl tm)):=⟨_,rfl⟩
 have bq:aB.storeCells ar (h.n+1) 0 [.str (cut 50 p),.bool b,tl,tm]=some aZ:=by rw[lX];exact iE ((gO _ (by omega)).trans aY) rfl (WI r1.cell r2.cell)
 have cm:aZ.n=ar.n:=by rw[lX];simp
 have fr:∀d,d≠h.n+1->aZ.get d=ar.get d:=λd aA=>by rw[lX];exact pn aA rfl
 have res:Ext h.n h aZ/\gT (hV h.n aZ.n) aZ tl (hx c_)/\gT (hV h.n aZ.n) aZ tm (hx lt):=by
  refine⟨⟨by omega,λd aA=>(fr d (by omega)).trans ((gO d (by omega)).trans (dz.get d aA))⟩,?_,?_⟩
  · exact gT.b6 (λd aA=>⟨⟨by omega,by omega⟩,(fr d (by omega)).trans (bu.get d aA.2)⟩) r1
  · exact gT.b6 (λd aA=>⟨⟨by omega,by omega⟩,fr d (by omega)⟩) r2
 have ED:=ox p.length 50
 have fL:∀g:J,e1 Tryz.prog g 9 (.str p) none (some (.int .i64 (Int.ofNat (min p.length 50)))) none=some (.str (cut 50 p)):=λg=>pU 50 p
 refine⟨tl,tm,aZ,?_,res⟩
 refine HW (R:=λx=>x=.ret (.agg [.str (cut 50 p),.bool b,tl,tm]) aZ) (intr:=bW) (n:=m+3) (args:=[.agg [.str p,.bool b,vv,bR]]) Tryz.func16 (by kernel_rfl) (by kernel_rfl) (by kernel_rfl) (Q:=λe st=>e=.ret/\st=⟨[(2,.ptr (h.n+1) 0)],[],.none,aZ⟩) (Wy (Y (m+3)) p b vv bR h ?_) λe st bp=>?_
 · subst cS
   subst lC
   subst lA
   exact⟨hm.v.cell,hm.t.cell,p,aL aV rfl,p,aL aV rfl,_,ED,_,fL _,b,aL aV rfl,vv,aL aV rfl,tl,al,c1,bR,aL ((fy _ (by omega)).trans aV) rfl,tm,ar,c2,r1.cell,r2.cell,r1.cell,r2.cell,aZ,bq,aL ((gO _ (by omega)).trans aV) rfl,aL ((fy _ (by omega)).trans aV) rfl,aL ((gO _ (by omega)).trans aV) rfl,aL ((fy _ (by omega)).trans aV) rfl,ED,ED,fL _,fL _,aL ((gO _ (by omega)).trans aV) rfl,aL ((fy _ (by omega)).trans aV) rfl,hm.v.snd,hm.t.snd,aL aV rfl,r1.snd,r2.snd,rfl,rfl⟩
 · obtain⟨rfl,rfl⟩:=bp
   exact .inl ⟨.inl rfl,rfl,_,WG (nC (by rw[lX];exact iW rfl) rfl),rfl⟩
end Go.Proofs.dQ
namespace Go.Proofs.dQ
open Go aB Go.Proofs df Go.Proofs.cD
set_option maxRecDepth 100000
set_option maxHeartbeats 1000000
theorem WK(m:Nat)(h:J):Y (m+1) (.fn 12) [] h=.ret (.bool true) h:=by
 have e:bW 12 [] h=some (.bool true,h):=by kernel_rfl
 show fq Tryz.prog bW (m+1) _ _ _=_
 simp only[fq,e]
theorem EE{k:Nat}:∀l:List aO,(∀x∈l,x.length<=k)->l.flatten.length<=l.length*k
 |[],_=>by simp
 |x::l,h=>by
  have aa:=h x (by simp)
  have ad:=EE l λy a2=>h y (by simp[a2])
  rw[List.flatten_cons,List.length_append,List.length_cons,Nat.succ_mul]
  omega
theorem KL(l:List (aO×Nat)):(j7 (hx l)).length<=20000:=by
 unfold j7
 have aa:=dg.oQ (hx l).length
 have ad:=EE (k:=450) ((hx l).map dO) λx ab=>by
  obtain⟨e,he,rfl⟩:=List.mem_map.1 ab
  obtain⟨y,_,rfl⟩:=List.mem_map.1 he
  have aw:=dg.xu (k1 y).1
  have aQ:=(KF (y.2 %27)).2
  have bS:(k1 y).1.length<=30:=by simp only[k1,List.length_take];omega
  unfold dO
  rw[List.length_append]
  have dm:(k1 y).2=tj (y.2 %27):=rfl
  rw[dm]
  omega
 rw[List.length_map,rr] at ad
 rw[List.length_append]
 have:min l.length 40*450<=40*450:=Nat.mul_le_mul_right _ (by omega)
 omega
theorem KM(p:aO)(b:Bool)(c_ lt:List (aO×Nat)):(jM (xG p b c_ lt)).length<=41000:=by
 have a_:(cut 50 p).length<=50:=by simp only[cut,List.length_take];omega
 have aa:=dg.xu (cut 50 p)
 have ad:=KL c_
 have aw:=KL lt
 have aQ:=dg.oQ 0
 have bS:=dg.oQ 1
 show(dg.cV (cut 50 p)++(if b then gI.ct 1 else gI.ct 0++(j7 (hx c_)++j7 (hx lt)))).length<=_
 rw[List.length_append]
 split
 · omega
 · rw[List.length_append,List.length_append];omega
theorem WL(p:aO)(b:Bool)(c_ lt:List (aO×Nat)):pS (xG p b c_ lt)/\(jM (xG p b c_ lt)).length<=1000000:=by
 have KN:∀l,∀e∈hx l,fit e.2:=λl e he=>by
  obtain⟨y,_,rfl⟩:=List.mem_map.1 he
  exact(KF (y.2 %27)).1
 have a_:(cut 50 p).length<=50:=by simp only[cut,List.length_take];omega
 refine⟨⟨by show(cut 50 p).length<=_;omega,by show(hx c_).length<=_;rw[rr];omega,by show(hx lt).length<=_;rw[rr];omega,KN c_,KN lt⟩,Nat.le_trans (KM p b c_ lt) (by omega)⟩
end Go.Proofs.dQ
namespace Go.Proofs.dQ
open Go aB Go.Proofs df Go.Proofs.cD Go.ChangeShapes Go.WideShapes Go.ChangeAt Go.RowKit Go.ChangeMaps
set_option maxRecDepth 100000
set_option maxHeartbeats 1000000
theorem Aw{W:World}{a:Addr}{m j:Nat}{v:Value}(h:W.cell? ((a.add m).add j)=some v):∃c el fz,W.heap[a.block]? =some (.cells c el fz)/\c[a.off+m+j]? =some v/\(m=0->j=0->a.spot=none):=by
 have af:((a.add m).add j).block=a.block:=by
  unfold Addr.add
  split<;>split<;>rfl
 have a7:((a.add m).add j).off=a.off+m+j:=by
  unfold Addr.add
  split<;>split<;>simp_all
 unfold World.cell? at h
 rw[af,a7] at h
 split at h
 · rename_i c el fz ab
   split at h
   · cases h
   · rename_i hs
     refine⟨c,el,fz,ab,h,λaa ad=>?_⟩
     subst aa;subst ad
     simpa[Addr.add] using hs
 · cases h
def pV(rows:List (dY×List I×Nat))(μ:bg)(h:J)(B:Nat):Prop:=∀(k:Nat) (x:dY×List I×Nat),rows[k]? =some x->μ (B+k)=some x.1/\h.get (B+k)=some (.cells x.2.1 x.2.2 .ro 0 0)/\B+k<h.n
theorem EF{r1 r2:List (dY×List I×Nat)}{μ:bg}{h:J}{B:Nat}(ai:pV (r1++r2) μ h B):pV r1 μ h B/\pV r2 μ h (B+r1.length):=by
 refine⟨λk x av=>ai k x ?_,λk x av=>?_⟩
 · rw[List.getElem?_append_left (List.getElem?_eq_some_iff.1 av).1];exact av
 · have:=ai (r1.length+k) x (by rw[List.getElem?_append_right (by omega),Nat.add_sub_cancel_left];exact av)
   rw[Nat.add_assoc];exact this
theorem KO{rows:List (dY×List I×Nat)}:pV rows (oq Tryz.prog.globals.size (rows.map (·.1))) (qK Tryz.prog.globals.size (rows.map (·.2))) Tryz.prog.globals.size:=by
 intro k x av
 refine⟨Pc av,Pd av,?_⟩
 have:=(List.getElem?_eq_some_iff.1 av).1
 rw[Ca,List.length_map];omega
theorem WM{P:Program}{W:World}{base:Nat}{t e:TypeId}(aU:P.underlying t=some (.slice e)){a:Addr}{len cap:Nat}(h:Cell.okWide P W .any base t (.slice (some a) len cap)):∃c el fz,W.heap[a.block]? =some (.cells c el fz):=by
 simp only[Cell.okWide,aU,Cell.ok] at h
 obtain⟨_,_,_,_,row,cells,hs,_⟩:=h
 unfold World.shape? at hs
 cases af:W.heap[a.block]? with
 |none=>simp[af] at hs
 |some o=>
  rw[af] at hs
  cases o with
  |cells c el fz=>exact⟨c,el,fz,rfl⟩
  |_=>cases hs
theorem WN{P:Program}{W:World}{r:Reach}{base u e:Nat}{v:Value}(hu:P.underlying u=some (.slice e))(h:Cell.okWide P W r base u v):∃a len cap,v=.slice a len cap:=by
 simp only[Cell.okWide,hu] at h
 cases v<;>simp_all [Cell.ok]
theorem KP{x y:I}:∀(o:Nat) (cs:List I),takeN 2 (ho o cs)=some [x,y]->nth o cs=some x/\nth (o+1) cs=some y
 |0,[],h=>by cases h
 |0,[a],h=>by cases h
 |0,a::b::l,h=>by cases h;exact⟨rfl,rfl⟩
 |o+1,[],h=>by cases h
 |o+1,a::l,h=>KP o l h
theorem WO{h:J}{b o:Nat}{x y:I}(aq:aB.loadCells h b o 2=some [x,y]):au h b (o+0)=some x/\au h b (o+1)=some y:=by
 unfold aB.loadCells at aq
 unfold au
 split at aq
 · exact KP o _ aq
 · cases aq
def xH(d:aO×Nat):List I:=[.str d.1,.int .u8 (Int.ofNat d.2)]
def xI(d:aO×Nat):List Value:=[.string ⟨d.1.toArray⟩,.int .u8 (Int.ofNat d.2)]
theorem KQ:Tryz.prog.underlying 36=some (.slice 117):=by kernel_rfl
theorem WQ:∃f0 f1:Field,Tryz.prog.underlying 117=some (.struct #[f0,f1])/\f0.type=9/\f1.type=5/\f0.offset=0/\f1.offset=1:=by
 obtain⟨cc,kF⟩:∃cc,Tryz.prog.underlying 117=some (.struct cc):=by
  have:(match Tryz.prog.underlying 117 with|some (.struct _)=>true|_=>false)=true:=by kernel_rfl
  revert this
  cases Tryz.prog.underlying 117 with
  |none=>intro h;cases h
  |some d=>cases d<;>intro h<;>first|exact⟨_,rfl⟩|cases h
 have k:(match Tryz.prog.underlying 117 with|some (.struct cc)=>cc.toList.map λf=>(f.type,f.offset)|_=>[])=[(9,0),(5,1)]:=by kernel_rfl
 rw[kF] at k
 simp only at k
 obtain⟨l⟩:=cc
 match l,k with
 |[f0,f1],k=>
  simp only[List.map_cons,List.map_nil,List.cons.injEq,Prod.mk.injEq] at k
  exact⟨f0,f1,kF,k.1.1,k.2.1.1,k.1.2,k.2.1.2⟩
theorem KR{H:Type}{enc:TypeId×Value->H}{W:World}{sp:Nat->Bool}{held:Bool}{fuel:Nat}{na:Option Addr}{len cap:Nat}{x:DataW H×List MemPlace}(h:DataW.trod enc Tryz.prog W 0 sp held fuel 36 [.slice na len cap]=some x):
  (na=none/\len=0/\cap=0)\/∃a,na=some a/\len<=cap/\∃aW:List (aO×Nat),aW.length=len/\(∀d∈aW,d.2<256)/\∀i (ae:i<aW.length) (j:Nat) (v:Value),(xI aW[i])[j]? =some v->W.cell? ((a.add (i*2)).add j)=some v:=by
 have ou:Tryz.prog.cellsOf 117=2:=by kernel_rfl
 have WR:Tryz.prog.cellsOf 9=1:=by kernel_rfl
 have ke:Tryz.prog.cellsOf 5=1:=by kernel_rfl
 have uZ:Tryz.prog.underlying 5=some (.int .u8):=by kernel_rfl
 rcases DataW.trod_slice KQ h with⟨h0,_⟩|⟨a,WS,BL,elems,rest,n,_,h0,_,af,aq,hm,hlen,nr,_,_⟩
 · cases h0;exact .inl ⟨rfl,rfl,rfl⟩
 · cases h0
   right
   refine⟨a,rfl,aq,?_⟩
   have each:∀i,i<len->∃d:aO×Nat,d.2<256/\W.cells? 0 (a.add (i*2)) 2=some (xI d):=by
    intro i ae
    have he:=nr i ae
    rw[List.getElem?_eq_getElem (by omega),ou,Option.bind_eq_some_iff] at he
    obtain⟨cs,g_,a2⟩:=he
    obtain⟨f0,f1,hs,t0,t1,nk,cH⟩:=WQ
    obtain⟨rp,fy,k,_,ft,iR,bQ⟩:=trod_struct2 hs a2
    rw[ou] at ft
    obtain⟨v0,v1,rfl⟩:∃v0 v1,cs=[v0,v1]:=by
     match cs,ft with
     |[v0,v1],_=>exact⟨v0,v1,rfl⟩
    rw[t0,nk,WR] at iR
    rw[t1,cH,ke] at bQ
    obtain⟨s,dt,_,_⟩:=DataW.trod_string u6 iR
    obtain⟨dn,ax,_,hw⟩:=DataW.trod_int uZ bQ
    have EG:v0=.string s:=by simpa using dt
    have rV:v1=.int .u8 dn:=by simpa using ax
    simp only[Lit.wf,Bool.and_eq_true,decide_eq_true_eq] at hw
    have cM:IntKind.u8.min=0:=rfl
    have ic:IntKind.u8.max=255:=rfl
    rw[cM,ic] at hw
    refine⟨(s.data.toList,dn.toNat),by show dn.toNat<256;omega,?_⟩
    rw[g_,EG,rV]
    have:dn=Int.ofNat dn.toNat:=by show dn=(dn.toNat:Int);omega
    rw[this]
    rfl
   let f:Nat->aO×Nat:=λi=>if ae:i<len then(each i ae).choose else([],0)
   have hf:∀i (ae:i<len),f i=(each i ae).choose:=λi ae=>by simp[f,ae]
   refine⟨(List.range len).map f,by simp,λd aA=>?_,λi ae j v aC=>?_⟩
   · obtain⟨i,ae,rfl⟩:=List.mem_map.1 aA
     have dV:i<len:=by simpa using ae
     rw[hf i dV]
     exact(each i dV).choose_spec.1
   · have dV:i<len:=by simpa using ae
     have e:((List.range len).map f)[i]=(each i dV).choose:=by rw[<-hf i dV];simp
     rw[e] at aC
     have g_:=(each i dV).choose_spec.2
     have aG:j<2:=by
      have:=(List.getElem?_eq_some_iff.1 aC).1
      simpa[xI] using this
     have:=World.cells?_some g_
     exact(this.2.2 j aG).trans aC
theorem WT(μ:bg)(d:aO×Nat)(t:Nat)(a:I)(u:Value)(h:(xH d)[t]? =some a)(hu:(xI d)[t]? =some u):a9 μ a u:=by
 match t,h,hu with
 |0,h,hu=>cases h;cases hu;exact⟨_,rfl,rfl⟩
 |1,h,hu=>cases h;cases hu;exact rfl
 |t+2,h,hu=>cases h
theorem WU{H:Type}{enc:TypeId×Value->H}{W:World}{sp:Nat->Bool}{held:Bool}{fuel:Nat}{na:Option Addr}{len cap:Nat}{x:DataW H×List MemPlace}(h:DataW.trod enc Tryz.prog W 0 sp held fuel 36 [.slice na len cap]=some x)(h0:len≠0):
  ∃aW rows,(∀d∈aW,d.2<256)/\(∀x∈rows,tW W x.1 x.2.1 x.2.2)/\∀B,∃v,∀(μ:bg) (h:J),pV rows μ h B->ku h.n h v aW/\a9 μ v (.slice na len cap):=by
 rcases KR h with⟨_,e,_⟩|⟨a,rfl,hle,aW,aq,gL,ag⟩
 · exact absurd e h0
 · obtain⟨c,el,fz,af,jV,hs⟩:=Aw (ag 0 (by omega) 0 _ rfl)
   have xJ:=hs (by omega) rfl
   have hle:a.off<=c.size:=by
    have:=(Array.getElem?_eq_some_iff.1 jV).1;omega
   refine⟨aW,[(⟨a.block,a.off,c.size-a.off⟩,fk xH aW,el)],gL,λx ab=>?_,λB=>⟨.slice B 0 len (.exact cap),λμ h ai=>?_⟩⟩
   · obtain rfl:x=_:=by simpa using ab
     refine⟨c,fz,af,λμ t v aC=>?_,by simp;omega⟩
     have mg:(aW.flatMap xH)[t]? =some v:=aC
     rw[zu (w:=2) λd=>rfl] at mg
     split at mg
     · rename_i aU
       have ae:t/2<aW.length:=Nat.div_lt_of_lt_mul (by rw[Nat.mul_comm];exact aU)
       rw[List.getElem?_eq_getElem ae] at mg
       have EH:(xH aW[t/2])[t %2]? =some v:=mg
       have aG:t %2<(xI aW[t/2]).length:=by
        show t %2<2
        omega
       obtain⟨c',qi,WV,gz,ab,_⟩:=Aw (ag (t/2) ae (t %2) _ (List.getElem?_eq_getElem aG))
       rw[af] at gz
       cases gz
       have e:a.off+t/2*2+t %2=a.off+t:=by omega
       rw[e] at ab
       exact⟨_,ab,WT _ _ _ _ _ EH (List.getElem?_eq_getElem aG)⟩
     · cases mg
   · obtain⟨aa,ad,aw⟩:=ai 0 _ rfl
     simp only[Nat.add_zero] at ad
     refine⟨.inr ⟨B,0,.exact cap,by rw[aq],aw,λi ae=>WO (CC (enc:=xH) (w:=2) (rest:=[]) (λ_=>rfl) (by rw[List.append_nil];exact ad) ae (by omega))⟩,⟨_,aa,?_⟩⟩
     obtain⟨bb,off,spot⟩:=a
     simp only at xJ
     subst xJ
     rfl
end Go.Proofs.dQ
