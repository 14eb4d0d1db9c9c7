/-
  PROVED HERE: contracts of functions (Dx). No condition beside each statement's own.
-/
import Derived.Test.YtfooahfebojldaaGreatDoorDk
import Derived.Test.YtfooahfebojldaaGreatDoorAed
import Derived.Deep.Strs
import Derived.DataReads
set_option linter.unusedVariables false
set_option linter.unusedSimpArgs false
namespace Go.Proofs.cn
open Go aw Go.Proofs cu Go.Proofs.b0
set_option maxRecDepth 100000
set_option maxHeartbeats 1000000
abbrev hl(a b:Nat)(d:Nat):Prop:=a<=d/\d<b
def D3(G n B:Nat)(M h:J):Prop:=∀b o,M.get b=some o->Nat.blt b G=false->h.get (b-G+n)=ju G n o/\b-G+n<B
theorem J4:∀(m:Nat) (l ws:List I),takeN m l=some ws->ws.length=m/\∀i,i<m->l[i]? =ws[i]?
 |0,l,ws,h=>by cases h;exact⟨rfl,λi ae=>by omega⟩
 |m+1,[],ws,h=>by cases h
 |m+1,a::l,ws,h=>by
  simp only[takeN] at h
  split at h
  · rename_i r ai
    cases h
    obtain⟨aa,ad⟩:=J4 m l r ai
    refine⟨by simp[aa],λi ae=>?_⟩
    cases i with
    |zero=>rfl
    |succ i=>simpa using ad i (by omega)
  · cases h
def uN(G:Nat)(M:J):I->Option (List I)
 |.a0=>some []
 |.slice b 0 (l+1) .dead=>none
 |.slice b 0 (l+1) aE=>match Nat.blt b G,M.get b with
  |false,some (.cells cs _ _ _ _)=>takeN (l+1) cs
  |_,_=>none
 |_=>none
theorem D4{G n B:Nat}{M h:J}(aj:D3 G n B M h){v:I}{ws:List I}(ai:uN G M v=some ws):q4 (hl n B) h (fx G n v) (ic G n ws):=by
 unfold uN at ai
 split at ai
 · cases ai;exact .inl ⟨rfl,rfl⟩
 · cases ai
 · rename_i b l aE U9
   split at ai
   · rename_i cs el k a9 up aa ad
     obtain⟨bG,bF⟩:=J4 _ _ _ ai
     obtain⟨al,au⟩:=aj _ _ ad aa
     refine .inr ⟨b-G+n,0,aE,by simp only[fx,aa,sC,bG],⟨by omega,au⟩,λi ae=>?_,by rw[sC];omega,U9⟩
     rw[sC] at ae
     refine Cq al ?_
     have e:=bF i (by omega)
     rw[CX,show 0+i*1=i by omega,e,List.getElem?_eq_getElem ae]
     simp only[CY,List.getElem_map,Option.map_some]
   · cases ai
 · cases ai
def z4:List I->Option (List aJ)
 |[]=>some []
 |.str s::l=>(z4 l).map (s::·)
 |_=>none
theorem J5{G n:Nat}:∀{l:List I} {r:List aJ},z4 l=some r->ic G n l=r.map .str
 |[],r,h=>by cases h;rfl
 |v::l,r,h=>by
  cases v with
  |str s=>
   simp only[z4,Option.map_eq_some_iff] at h
   obtain⟨q,aa,rfl⟩:=h
   simp only[ic,fx,J5 aa,List.map_cons]
  |_=>cases h
def D5(G:Nat):I->Option Nat
 |.ptr b 0=>match Nat.blt b G with
  |true=>none
  |false=>some b
 |_=>none
theorem U_{G n:Nat}{v:I}{b:Nat}(h:D5 G v=some b):Nat.blt b G=false/\fx G n v=.ptr (b-G+n) 0:=by
 unfold D5 at h
 split at h
 · split at h
   · cases h
   · rename_i aa;cases h;exact⟨aa,by simp only[fx,aa]⟩
 · cases h
def D6:Option ca->Option (Nat×aJ×I×I×I)
 |some (.cells [.int .i64 (.ofNat k),.str bP,dF,cB,dg] el _ _ _)=>match Nat.beq el 51 with
  |true=>some (k,bP,dF,cB,dg)
  |false=>none
 |_=>none
theorem Va{o:Option ca}{k:Nat}{bP:aJ}{dF cB dg:I}(h:D6 o=some (k,bP,dF,cB,dg)):∃b3 a9 up,o=some (.cells [.int .i64 (Int.ofNat k),.str bP,dF,cB,dg] 51 b3 a9 up):=by
 unfold D6 at h
 split at h
 · split at h
   · rename_i af
     cases h
     rw[Nat.eq_of_beq_eq_true af]
     exact⟨_,_,_,rfl⟩
   · cases h
 · cases h
def z5(f:I->Option aZ):List I->Option (List aZ)
 |[]=>some []
 |v::l=>(f v).bind λt=>(z5 f l).map (t::·)
def z6(f:I->Option aZ)(v:I):Option (Option aZ):=match v with
 |.bd=>some none
 |v=>(f v).map some
def uO(G:Nat)(M:J):Nat->I->Option aZ
 |0,_=>none
 |f+1,v=>(D5 G v).bind λb=>(D6 (M.get b)).bind λx=>((uN G M x.2.2.1).bind z4).bind λaW=>((uN G M x.2.2.2.1).bind (z5 (uO G M f))).bind λxs=>(z6 (uO G M f) x.2.2.2.2).map λrt=>.mk x.1 x.2.1 aW xs rt
theorem J6{G n B:Nat}{h:J}{f:I->Option aZ}(hf:∀v t,f v=some t->kp (hl n B) h t (fx G n v)):∀{l:List I} {ts:List aZ},z5 f l=some ts->mA (hl n B) h ts (ic G n l)
 |[],ts,e=>by cases e;rfl
 |v::l,ts,e=>by
  simp only[z5,Option.bind_eq_some_iff,Option.map_eq_some_iff] at e
  obtain⟨t,aa,r,ad,rfl⟩:=e
  exact⟨_,_,rfl,hf v t aa,J6 hf ad⟩
theorem J7{G n B:Nat}{h:J}{f:I->Option aZ}(hf:∀v t,f v=some t->kp (hl n B) h t (fx G n v)){v:I}{ot:Option aZ}(e:z6 f v=some ot):hH (hl n B) h ot (fx G n v):=by
 unfold z6 at e
 split at e
 · cases e;rfl
 · obtain⟨t,aa,rfl⟩:=Option.map_eq_some_iff.1 e
   exact hf _ t aa
theorem D7{G n B:Nat}{M h:J}(aj:D3 G n B M h):∀(f:Nat) (v:I) (t:aZ),uO G M f v=some t->kp (hl n B) h t (fx G n v)
 |0,v,t,e=>by cases e
 |f+1,v,t,e=>by
  simp only[uO,Option.bind_eq_some_iff,Option.map_eq_some_iff] at e
  obtain⟨b,aa,⟨k,bP,dF,cB,dg⟩,ad,aW,⟨wn,ar,aM⟩,xs,⟨Vb,bS,cK⟩,rt,ew,rfl⟩:=e
  obtain⟨aa,gS⟩:=U_ (n:=n) aa
  obtain⟨b3,a9,up,ad⟩:=Va ad
  obtain⟨al,au⟩:=aj _ _ ad aa
  have aG:=D4 aj ar
  rw[J5 aM] at aG
  exact⟨b-G+n,fx G n dF,fx G n cB,fx G n dg,ic G n Vb,b3,a9,up,gS,⟨by omega,au⟩,al,aG,D4 aj bS,J6 (D7 aj f) cK,J7 (D7 aj f) ew⟩
noncomputable def z7:J:=iV kg.n kg.l
noncomputable def z8:List I:=(uN Tryz.prog.globals.size z7 kg.v).getD []
theorem Vc:uN Tryz.prog.globals.size z7 kg.v=some z8:=by kernel_rfl
theorem Vd:z8.length=27:=by kernel_rfl
def xl(f:I->Option aZ):List I->Option (List (Option aZ))
 |[]=>some []
 |v::l=>(z6 f v).bind λt=>(xl f l).map (t::·)
theorem J8{G n B:Nat}{h:J}{f:I->Option aZ}(hf:∀v t,f v=some t->kp (hl n B) h t (fx G n v)):∀{l:List I} {ts:List (Option aZ)},xl f l=some ts->ts.length=l.length/\∀i (aa:i<l.length),hH (hl n B) h ((ts[i]?).getD none) (fx G n l[i])
 |[],ts,e=>by cases e;exact⟨rfl,λi aa=>by simp at aa⟩
 |v::l,ts,e=>by
  simp only[xl,Option.bind_eq_some_iff,Option.map_eq_some_iff] at e
  obtain⟨t,aa,r,ad,rfl⟩:=e
  obtain⟨bG,bF⟩:=J8 hf ad
  refine⟨by simp[bG],λi ae=>?_⟩
  cases i with
  |zero=>exact J7 hf aa
  |succ i=>simpa using bF i (by simpa using ae)
noncomputable def z9:List (Option aZ):=(xl (uO Tryz.prog.globals.size z7 9) z8).getD []
theorem Ve:xl (uO Tryz.prog.globals.size z7 9) z8=some z9:=by kernel_rfl
noncomputable def s5(k:Nat):Option aZ:=(z9[k]?).getD none
def D8(o:Option aZ):Bool:=Nat.ble (dA o) 60&&(Nat.ble (ur o) 1000&&Nat.ble (ja o).length 400)
theorem Vf:(z9.all D8)=true:=by kernel_rfl
theorem J9(k:Nat):fit (s5 k)/\(ja (s5 k)).length<=400:=by
 have key:D8 (s5 k)=true:=by
  unfold s5
  cases h:z9[k]? with
  |none=>rfl
  |some o=>exact List.all_eq_true.1 Vf o (List.mem_of_getElem? h)
 simp only[D8,Bool.and_eq_true,Nat.ble_eq] at key
 refine⟨⟨by omega,λt aQ=>?_⟩,key.2.2⟩
 have:=key.2.1
 rw[aQ] at this
 rw[ur] at this
 omega
theorem Vg{G N:Nat}{l:List (Nat×ca)}{h g:J}(an:(qL G l&&qJ N l)=true)(aj:g=⟨(m6 G h.n h l).t,h.n+(N-G)⟩):D3 G h.n g.n (iV N l) g/\Ext h.n h g:=by
 rw[Bool.and_eq_true] at an
 have aG:g.n=h.n+(N-G):=by rw[aj]
 have eV:∀c,g.get c=if c<h.n then h.get c else match(iV N l).get (G+(c-h.n)) with
  |some o=>ju G h.n o
  |none=>h.get c:=λc=>by rw[aj];exact C7 G h.n N h l (C8 an.1) c
 refine⟨λb o af aa=>?_,by omega,λd az=>by rw[eV,if_pos az]⟩
 have ad:G<=b:=Nat.le_of_not_lt λar=>by
  have aM:Nat.blt b G=true:=by rw[Nat.blt_eq];exact ar
  rw[aM] at aa;cases aa
 refine⟨?_,?_⟩
 · rw[eV,if_neg (by omega),show G+(b-G+h.n-h.n)=b by omega,af]
 · have ar:b<N:=by
     rw[zq] at af
     rcases C4 (h1 N) l b with⟨o',bG,bF⟩|⟨bG,bF⟩
     · exact C5 an.2 _ _ bG
     · rw[af,C6] at bF;cases bF
   omega
theorem Vh:(qL Tryz.prog.globals.size kg.l&&qJ kg.n kg.l)=true:=by kernel_rfl
theorem Vi(n:Nat):∃b,fx Tryz.prog.globals.size n kg.v=.slice b 0 27 (.aN 1):=⟨5503-Tryz.prog.globals.size+n,by kernel_rfl⟩
theorem Vj(h:J):bW 69 [] h=some (fx Tryz.prog.globals.size h.n kg.v,⟨(m6 Tryz.prog.globals.size h.n h kg.l).t,h.n+(kg.n-Tryz.prog.globals.size)⟩):=by kernel_rfl
theorem Vk(m:Nat)(h:J):∃b g vs,Y (m+1) (.fn 69) [] h=.ret (.slice b 0 27 (.aN 1)) g/\Ext h.n h g/\q4 (hl h.n g.n) g (.slice b 0 27 (.aN 1)) vs/\vs.length=27/\∀i (ae:i<vs.length),hH (hl h.n g.n) g (s5 i) vs[i]:=by
 have e:=Vj h
 obtain⟨g,aj⟩:∃g:J,g=⟨(m6 Tryz.prog.globals.size h.n h kg.l).t,h.n+(kg.n-Tryz.prog.globals.size)⟩:=⟨_,rfl⟩
 obtain⟨jI,ab⟩:=Vg Vh aj
 have kn:=D4 jI Vc
 obtain⟨bG,bF⟩:=J8 (D7 jI 9) Ve
 obtain⟨b,ui⟩:=Vi h.n
 rw[ui] at kn e
 rw[<-aj] at e
 refine⟨b,g,_,?_,ab,kn,by rw[sC,Vd],λi ae=>?_⟩
 · show e4 Tryz.prog bW (m+1) _ _ _=_
   simp only[e4,e]
 · rw[sC] at ae
   have:=bF i ae
   simp only[CY,List.getElem_map]
   exact this
end Go.Proofs.cn
namespace Go.Proofs.cn
open Go aw Go.Proofs cu Go.Proofs.b0
set_option maxRecDepth 100000
set_option maxHeartbeats 1000000
theorem Vl(m:Nat)(v:I)(h:J){R:av->Prop}(H:∃aI:Nat,∃bw:Nat,∃cH:Nat,∃c1:cf,∃al:J,(Y m) (.fn 69) [] h=.ret (.slice aI bw cH c1) al/\bm Tryz.prog Tryz.f46 (Y m) [1,1,1,0,1,0] (ao.mk [(0,v),(3,.slice aI bw cH c1),(4,.a0),(5,.int .i64 (.ofNat 0))] [] .none al) (λcE cF=>∃v1:I,∃au:J,∃bq:Env,cE=.exit 0/\cF=ao.mk bq [] .none au/\cl [(4,v1)] bq/\R (.ret v1 au))):
  R (Y (m+1) (.fn 46) [v] h):=
 dd (intr:=bW) [(6,.b1 .hz),(4000,.gw [0,3,4,5] [(.exit 0,[(4,.o)])])] [(0,.o v)] Tryz.func46 (by kernel_rfl) (by kernel_rfl) (by kernel_rfl) rfl (Eq.mp (by kernel_rfl) H)
theorem Vm(call:aP->List I->J->av)(b:Nat)(off:Nat)(N:Nat)(gB:Nat)(to:Nat)(ha:Nat)(i:Nat)(aE:cf)(lP:cf)(w:I)(h:J){Q:bu->ao->Prop}(H:(i<N->(i<40->i<N/\∃s1:List UInt8,ay (h.room 30) b (off+i*2+0)=some (.str s1)/\i<N/\∃s2:List UInt8,ay (h.room 30) b (off+i*2+0)=some (.str s2)/\∃aI:Nat,gP hp (.int .i64 (.ofNat (List.length s2))) [.int .i64 (.ofNat 30)]=some (.int .i64 (.ofNat aI))/\∃bI:List UInt8,eu Tryz.prog (h.room 30) 9 (.str s1) none (some (.int .i64 (.ofNat aI))) none=some (.str bI)/\i<N/\∃bw:Nat,ay (h.room 30) b (off+i*2+1)=some (.int .u8 (.ofNat bw))/\∃cH:Nat,fp Tryz.prog 5 3 (.int .u8 (.ofNat bw)) (h.room 30)=gg.val (.int .i64 (.ofNat cH)) (h.room 30)/\∃cZ:Nat,arith .rem .i64 (.ofNat cH) (.ofNat ha)=some (.int .i64 (.ofNat cZ))/\cZ<ha/\∃eG:Nat,ay (h.room 30) gB (to+cZ*1)=some (.ptr eG 0)/\∃fg:Nat,∃iE:Nat,∃al:J,fW Tryz.prog (J.set (h.room 30) (h.n+27) (some (.cells [.str bI,.ptr eG 0] 53 .own 0 0))) 22 (some 22) w (.slice (h.n+27) 0 1 (.exact 1))=some (.slice fg 0 iE (.aN 2),al)/\I.sound w=true/\ay (J.set (h.room 30) (h.n+27) (some (.cells [.str bI,.ptr eG 0] 53 .own 0 0))) b (off+i*2+0)=some (.str s1)/\ay (J.set (h.room 30) (h.n+27) (some (.cells [.str bI,.ptr eG 0] 53 .own 0 0))) b (off+i*2+0)=some (.str s2)/\gP hp (.int .i64 (.ofNat (List.length s2))) [.int .i64 (.ofNat 30)]=some (.int .i64 (.ofNat aI))/\eu Tryz.prog (J.set (h.room 30) (h.n+27) (some (.cells [.str bI,.ptr eG 0] 53 .own 0 0))) 9 (.str s1) none (some (.int .i64 (.ofNat aI))) none=some (.str bI)/\ay (J.set (h.room 30) (h.n+27) (some (.cells [.str bI,.ptr eG 0] 53 .own 0 0))) b (off+i*2+1)=some (.int .u8 (.ofNat bw))/\fp Tryz.prog 5 3 (.int .u8 (.ofNat bw)) (J.set (h.room 30) (h.n+27) (some (.cells [.str bI,.ptr eG 0] 53 .own 0 0)))=gg.val (.int .i64 (.ofNat cH)) (J.set (h.room 30) (h.n+27) (some (.cells [.str bI,.ptr eG 0] 53 .own 0 0)))/\ay (J.set (h.room 30) (h.n+27) (some (.cells [.str bI,.ptr eG 0] 53 .own 0 0))) gB (to+cZ*1)=some (.ptr eG 0)/\i+1<9223372036854775808/\Q .nrm (ao.mk [(0,.slice b off N aE),(3,.slice gB to ha lP),(4,.slice fg 0 iE (.aN 2)),(5,.int .i64 (.ofNat (i+1)))] [] .none al))/\(¬i<40->Q (.exit 0) (ao.mk [(0,.slice b off N aE),(3,.slice gB to ha lP),(4,w),(5,.int .i64 (.ofNat i))] [] .none h)))/\(¬i<N->Q (.exit 0) (ao.mk [(0,.slice b off N aE),(3,.slice gB to ha lP),(4,w),(5,.int .i64 (.ofNat i))] [] .none h))):
  bm Tryz.prog Tryz.f46 call [1,1,1,0,1,0,0] ⟨[(0,.slice b off N aE),(3,.slice gB to ha lP),(4,w),(5,.int .i64 (.ofNat i))],[],.none,h⟩ Q:=
 e9 [(36,.b1 (.n .u8)),(45,.b1 (.wv (.aN 2))),(42,.b1 .p)] [0,3,4,5] [(0,.v (.slice b off N aE)),(3,.v (.slice gB to ha lP)),(4,.o w),(5,.v (.int .i64 (.ofNat i)))] rfl (Eq.mp (by kernel_rfl) H)
theorem Vn(call:aP->List I->J->av)(b:Nat)(off:Nat)(N:Nat)(gB:Nat)(to:Nat)(ha:Nat)(i:Nat)(aE:cf)(lP:cf)(w:I)(h:J){Q:bu->ao->Prop}(H:(i<N->(i<40->i<N/\∃s1:List UInt8,ay (h.room 30) b (off+i*2+0)=some (.str s1)/\i<N/\∃s2:List UInt8,ay (h.room 30) b (off+i*2+0)=some (.str s2)/\∃aI:Nat,gP hp (.int .i64 (.ofNat (List.length s2))) [.int .i64 (.ofNat 30)]=some (.int .i64 (.ofNat aI))/\∃bI:List UInt8,eu Tryz.prog (h.room 30) 9 (.str s1) none (some (.int .i64 (.ofNat aI))) none=some (.str bI)/\i<N/\∃bw:Nat,ay (h.room 30) b (off+i*2+1)=some (.int .u8 (.ofNat bw))/\∃cH:Nat,fp Tryz.prog 5 3 (.int .u8 (.ofNat bw)) (h.room 30)=gg.val (.int .i64 (.ofNat cH)) (h.room 30)/\∃cZ:Nat,arith .rem .i64 (.ofNat cH) (.ofNat ha)=some (.int .i64 (.ofNat cZ))/\cZ<ha/\ay (h.room 30) gB (to+cZ*1)=some .bd/\∃eG:Nat,∃fg:Nat,∃al:J,fW Tryz.prog (J.set (h.room 30) (h.n+27) (some (.cells [.str bI,.bd] 53 .own 0 0))) 22 (some 22) w (.slice (h.n+27) 0 1 (.exact 1))=some (.slice eG 0 fg (.aN 2),al)/\I.sound w=true/\ay (J.set (h.room 30) (h.n+27) (some (.cells [.str bI,.bd] 53 .own 0 0))) b (off+i*2+0)=some (.str s1)/\ay (J.set (h.room 30) (h.n+27) (some (.cells [.str bI,.bd] 53 .own 0 0))) b (off+i*2+0)=some (.str s2)/\gP hp (.int .i64 (.ofNat (List.length s2))) [.int .i64 (.ofNat 30)]=some (.int .i64 (.ofNat aI))/\eu Tryz.prog (J.set (h.room 30) (h.n+27) (some (.cells [.str bI,.bd] 53 .own 0 0))) 9 (.str s1) none (some (.int .i64 (.ofNat aI))) none=some (.str bI)/\ay (J.set (h.room 30) (h.n+27) (some (.cells [.str bI,.bd] 53 .own 0 0))) b (off+i*2+1)=some (.int .u8 (.ofNat bw))/\fp Tryz.prog 5 3 (.int .u8 (.ofNat bw)) (J.set (h.room 30) (h.n+27) (some (.cells [.str bI,.bd] 53 .own 0 0)))=gg.val (.int .i64 (.ofNat cH)) (J.set (h.room 30) (h.n+27) (some (.cells [.str bI,.bd] 53 .own 0 0)))/\ay (J.set (h.room 30) (h.n+27) (some (.cells [.str bI,.bd] 53 .own 0 0))) gB (to+cZ*1)=some .bd/\i+1<9223372036854775808/\Q .nrm (ao.mk [(0,.slice b off N aE),(3,.slice gB to ha lP),(4,.slice eG 0 fg (.aN 2)),(5,.int .i64 (.ofNat (i+1)))] [] .none al))/\(¬i<40->Q (.exit 0) (ao.mk [(0,.slice b off N aE),(3,.slice gB to ha lP),(4,w),(5,.int .i64 (.ofNat i))] [] .none h)))/\(¬i<N->Q (.exit 0) (ao.mk [(0,.slice b off N aE),(3,.slice gB to ha lP),(4,w),(5,.int .i64 (.ofNat i))] [] .none h))):
  bm Tryz.prog Tryz.f46 call [1,1,1,0,1,0,0] ⟨[(0,.slice b off N aE),(3,.slice gB to ha lP),(4,w),(5,.int .i64 (.ofNat i))],[],.none,h⟩ Q:=
 e9 [(36,.b1 (.n .u8)),(45,.b1 (.wv (.aN 2))),(42,.b1 (.is .bd))] [0,3,4,5] [(0,.v (.slice b off N aE)),(3,.v (.slice gB to ha lP)),(4,.o w),(5,.v (.int .i64 (.ofNat i)))] rfl (Eq.mp (by kernel_rfl) H)
theorem D9(call:aP->List I->J->av)(i:Nat)(v:I)(x:I)(w:I)(h:J){Q:bu->ao->Prop}(H:∃aI:Nat,cb Tryz.prog h 36 v=some (.int .i64 (.ofNat aI))/\(i<aI->¬i<40/\Q (.exit 0) (ao.mk [(4,w)] [] .none h))/\(¬i<aI->Q (.exit 0) (ao.mk [(4,w)] [] .none h))):
  bm Tryz.prog Tryz.f46 call [1,1,1,0,1,0,0] ⟨[(0,v),(3,x),(4,w),(5,.int .i64 (.ofNat i))],[],.none,h⟩ Q:=
 e9 [(1014,.f)] [4] [(0,.o v),(3,.o x),(4,.o w),(5,.v (.int .i64 (.ofNat i)))] rfl (Eq.mp (by kernel_rfl) H)
theorem Vo(call:aP->List I->J->av)(p:List UInt8)(b:Bool)(vv:I)(bE:I)(h:J){Q:bu->ao->Prop}(H:I.bC vv=true/\I.bC bE=true/\∃s1:List UInt8,ay (J.room (J.push (J.push h (.cells [.str p,.bool b,vv,bE] 38 .own 0 0)) (.cells [.str [],.bool false,.a0,.a0] 24 .own 0 0)) 17) h.n (0+0)=some (.str s1)/\∃s2:List UInt8,ay (J.room (J.push (J.push h (.cells [.str p,.bool b,vv,bE] 38 .own 0 0)) (.cells [.str [],.bool false,.a0,.a0] 24 .own 0 0)) 17) h.n (0+0)=some (.str s2)/\∃aI:Nat,gP hp (.int .i64 (.ofNat (List.length s2))) [.int .i64 (.ofNat 50)]=some (.int .i64 (.ofNat aI))/\∃bI:List UInt8,eu Tryz.prog (J.room (J.push (J.push h (.cells [.str p,.bool b,vv,bE] 38 .own 0 0)) (.cells [.str [],.bool false,.a0,.a0] 24 .own 0 0)) 17) 9 (.str s1) none (some (.int .i64 (.ofNat aI))) none=some (.str bI)/\∃a4:Bool,ay (J.room (J.push (J.push h (.cells [.str p,.bool b,vv,bE] 38 .own 0 0)) (.cells [.str [],.bool false,.a0,.a0] 24 .own 0 0)) 17) h.n (0+1)=some (.bool a4)/\∃v1:I,ay (J.room (J.push (J.push h (.cells [.str p,.bool b,vv,bE] 38 .own 0 0)) (.cells [.str [],.bool false,.a0,.a0] 24 .own 0 0)) 17) h.n (0+2)=some v1/\∃v2:I,∃al:J,call (.fn 46) [v1] (J.room (J.push (J.push h (.cells [.str p,.bool b,vv,bE] 38 .own 0 0)) (.cells [.str [],.bool false,.a0,.a0] 24 .own 0 0)) 17)=.ret v2 al/\∃cX:I,ay al h.n (0+3)=some cX/\∃v4:I,∃au:J,call (.fn 46) [cX] al=.ret v4 au/\I.bC v2=true/\I.bC v4=true/\I.bC v2=true/\I.bC v4=true/\∃a7:J,aw.storeCells au (J.n (J.push h (.cells [.str p,.bool b,vv,bE] 38 .own 0 0))) 0 [.str bI,.bool a4,v2,v4]=some a7/\ay au h.n (0+0)=some (.str s1)/\ay al h.n (0+0)=some (.str s1)/\ay au h.n (0+0)=some (.str s2)/\ay al h.n (0+0)=some (.str s2)/\gP hp (.int .i64 (.ofNat (List.length s2))) [.int .i64 (.ofNat 50)]=some (.int .i64 (.ofNat aI))/\gP hp (.int .i64 (.ofNat (List.length s2))) [.int .i64 (.ofNat 50)]=some (.int .i64 (.ofNat aI))/\eu Tryz.prog au 9 (.str s1) none (some (.int .i64 (.ofNat aI))) none=some (.str bI)/\eu Tryz.prog al 9 (.str s1) none (some (.int .i64 (.ofNat aI))) none=some (.str bI)/\ay au h.n (0+1)=some (.bool a4)/\ay al h.n (0+1)=some (.bool a4)/\I.sound v1=true/\I.sound cX=true/\ay (J.room (J.push (J.push h (.cells [.str p,.bool b,vv,bE] 38 .own 0 0)) (.cells [.str [],.bool false,.a0,.a0] 24 .own 0 0)) 17) h.n (0+3)=some cX/\I.sound v2=true/\I.sound v4=true/\Q .ret (ao.mk [(2,.ptr (J.n (J.push h (.cells [.str p,.bool b,vv,bE] 38 .own 0 0))) 0)] [] .none a7)):
  bm Tryz.prog Tryz.f16 call [] ⟨[(0,.agg [.str p,.bool b,vv,bE])],[],.none,h⟩ Q:=
 e9 [] [2] [(0,.ee [.v (.str p),.v (.bool b),.o vv,.o bE])] rfl (Eq.mp (by kernel_rfl) H)
theorem mc(a b:Nat):gP hp (.int .i64 (Int.ofNat a)) [.int .i64 (Int.ofNat b)]=some (.int .i64 (Int.ofNat (min a b))):=by
 simp only[gP,hp,if_true]
 by_cases h:b<a
 · rw[if_pos (kM h),Nat.min_eq_right (by omega)]
 · rw[if_neg (by rw[o4 h];simp),Nat.min_eq_left (by omega)]
theorem uP:Tryz.prog.underlying 9=some .string:=by kernel_rfl
theorem nq{h:J}(k:Nat)(s:aJ):eu Tryz.prog h 9 (.str s) none (some (.int .i64 (Int.ofNat (min s.length k)))) none=some (.str (s.take (min s.length k))):=Ci uP (by omega)
theorem z_(n:Nat)(aG:n<256)(h:J):fp Tryz.prog 5 3 (.int .u8 (Int.ofNat n)) h=.val (.int .i64 (Int.ofNat n)) h:=y7 (ka:=.u8) (by kernel_rfl) cT.DP (rk n (by omega))
theorem J_(a b:Nat)(af:0<b):arith .rem .i64 (Int.ofNat a) (Int.ofNat b)=some (.int .i64 (Int.ofNat (a %b))):=by
 have aa:¬Int.ofNat b=0:=λh=>by have ad:(b:Int)=0:=h;omega
 simp only[arith]
 rw[if_neg aa]
 rfl
def jQ(B:Nat)(h:J)(v:I)(l:List (aJ×Nat)):Prop:=(v=.a0/\l=[])\/∃b off aE,v=.slice b off l.length aE/\b<B/\(∀i (ae:i<l.length),ay h b (off+i*2+0)=some (.str l[i].1)/\ay h b (off+i*2+1)=some (.int .u8 (Int.ofNat l[i].2)))
theorem jQ.ext{B:Nat}{h g:J}{v:I}{l:List (aJ×Nat)}(x:Ext B h g)(o:jQ B h v l):jQ B g v l:=by
 rcases o with o|⟨b,off,aE,aa,ad,ar⟩
 · exact .inl o
 · exact .inr ⟨b,off,aE,aa,ad,λi ae=>⟨gv x ad (ar i ae).1,gv x ad (ar i ae).2⟩⟩
theorem jQ.le{B C:Nat}{h:J}{v:I}{l:List (aJ×Nat)}(e:B<=C)(o:jQ B h v l):jQ C h v l:=by
 rcases o with o|⟨b,off,aE,aa,ad,ar⟩
 · exact .inl o
 · exact .inr ⟨b,off,aE,aa,by omega,ar⟩
theorem jQ.cell{B:Nat}{h:J}{v:I}{l:List (aJ×Nat)}(o:jQ B h v l):v.bC=true:=by
 rcases o with⟨rfl,_⟩|⟨b,off,aE,rfl,_⟩<;>rfl
theorem jQ.snd{B:Nat}{h:J}{v:I}{l:List (aJ×Nat)}(o:jQ B h v l):I.sound v=true:=by
 rcases o with⟨rfl,_⟩|⟨b,off,aE,rfl,_⟩<;>rfl
noncomputable def kq(x:aJ×Nat):ez:=(x.1.take (min x.1.length 30),s5 (x.2 %27))
noncomputable def gY(l:List (aJ×Nat)):List ez:=(l.take 40).map kq
theorem q5(l:List (aJ×Nat)):(gY l).length=min l.length 40:=by simp[gY,Nat.min_comm]
def q6:Option Nat->I
 |none=>.bd
 |some r=>.ptr r 0
def uQ(d:aJ×Option Nat):List I:=[.str d.1,q6 d.2]
theorem Ka:se Tryz.prog uQ 2 53 22:=⟨uM.hu,uM.fM,uM.info,uM.zero,uM.size,λd=>rfl,λd=>by
 obtain⟨a,b⟩:=d
 cases b<;>rfl,uM.pos⟩
theorem Vp{a b:Nat}{h:J}{ot:Option aZ}{v:I}(aB:hH (hl a b) h ot v):∃u,v=q6 u:=by
 rcases(hH.at (λd az=>az.2) _ _ aB).ux with rfl|⟨R,rfl⟩
 · exact⟨none,rfl⟩
 · exact⟨some R,rfl⟩
structure s6(A B:Nat)(l:List (aJ×Nat))(i:Nat)(y:J)(w:I)(aS:List (aJ×Option Nat)):Prop where
 o:jH uQ 2 53 B y w aS
 n:aS.length=i
 d:∀j (aD:j<aS.length),∃an:j<l.length,aS[j].1=(kq l[j]).1/\hH (hl A B) y (kq l[j]).2 (q6 aS[j].2)
theorem s6.row{A B:Nat}{l:List (aJ×Nat)}{i:Nat}{y:J}{w:I}{aS:List (aJ×Option Nat)}(p:s6 A B l i y w aS)(ae:i=min l.length 40)(h8:A<=B)(bM:B<=y.n):gl (hl A y.n) y w (gY l):=by
 have aG:=p.n
 rcases p.o with⟨rfl,rfl⟩|⟨b,rfl,ad,ar,aM,bS⟩
 · refine .inl ⟨rfl,?_⟩
   have:(gY l).length=0:=by rw[q5];simp at aG;omega
   exact List.length_eq_zero_iff.1 this
 · refine .inr ⟨b,0,.aN 2,by rw[q5,<-ae,aG],⟨by omega,bS⟩,λj aD=>?_,by rw[q5];omega,by simp⟩
   rw[q5] at aD
   obtain⟨an,aC,ax⟩:=p.d j (by omega)
   obtain⟨_,_,eH⟩:=jH.load Ka (.inr ⟨b,rfl,ad,ar,aM,bS⟩:jH uQ 2 53 B y (.slice b 0 aS.length (.aN 2)) aS)
   have e:(gY l)[j]'(by rw[q5];omega)=kq l[j]:=by simp[gY]
   rw[e]
   refine⟨q6 aS[j].2,?_,hH.bZ (λd az=>⟨⟨az.1,by omega⟩,rfl⟩) _ _ ax⟩
   rw[eH j (by omega)]
   simp only[uQ,aC]
theorem s6.add{A B:Nat}{l:List (aJ×Nat)}{i:Nat}{y:J}{w:I}{aS:List (aJ×Option Nat)}(p:s6 A B l i y w aS)(ae:i<l.length)(xm:i<40)(bM:B<=y.n){u:Option Nat}(aQ:hH (hl A B) y (kq l[i]).2 (q6 u)):
  ∃g,fW Tryz.prog ((y.room 30).set (y.n+27) (some (.cells [.str (kq l[i]).1,q6 u] 53 .own 0 0))) 22 (some 22) w (.slice (y.n+27) 0 1 (.exact 1))=some (.slice (y.n+30) 0 (i+1) (.aN 2),g)/\Ext B y g/\s6 A B l (i+1) g (.slice (y.n+30) 0 (i+1) (.aN 2)) (aS++[((kq l[i]).1,u)]):=by
 obtain⟨ij,nr⟩:∃ij,ij=(y.room 30).set (y.n+27) (some (.cells [.str (kq l[i]).1,q6 u] 53 .own 0 0)):=⟨_,rfl⟩
 have D_:ij.n=y.n+30:=by rw[nr];simp
 have hG:Ext y.n y ij:=by rw[nr];exact Ext.gK (by omega) (Ext.room _ _ _)
 have Vq:Ext B y ij:=by rw[nr];exact Ext.gK (by omega) (Ext.room _ _ _)
 have hs:ho ij 2 (.slice (y.n+27) 0 1 (.exact 1))=some (1,uQ ((kq l[i]).1,u)):=by
  have:aw.loadCells ij (y.n+27) 0 (1*2)=some [.str (kq l[i]).1,q6 u]:=by rw[nr];exact n1 (h_ rfl) rfl
  simp only[ho,this,uQ]
 have aG:=p.n
 obtain⟨g,e,al,fH,Ea,Eb⟩:=JX Ka (B:=B) (d:=((kq l[i]).1,u)) (jH.mono p.o hG (Nat.le_refl _)) (by omega) hs (by omega)
 rw[<-nr]
 rw[D_,List.length_append,List.length_singleton,aG] at e
 have eh:Ext B y g:=Vq.trans (Nat.le_refl _) Ea
 refine⟨g,e,eh,.inr ⟨y.n+30,by rw[List.length_append,List.length_singleton,aG],by simp,by rw[<-D_];exact al,by omega,by omega⟩,by simp[aG],λj aD=>?_⟩
 rw[List.length_append,List.length_singleton] at aD
 by_cases jj:j<aS.length
 · obtain⟨an,aC,ax⟩:=p.d j jj
   rw[List.getElem_append_left jj]
   exact⟨an,aC,hH.bZ (λd az=>⟨az,eh.get d az.2⟩) _ _ ax⟩
 · obtain rfl:j=i:=by omega
   rw[List.getElem_append_right (by omega)]
   refine⟨ae,?_,?_⟩
   · simp
   · simp only[List.getElem_singleton]
     exact hH.bZ (λd az=>⟨az,eh.get d az.2⟩) _ _ aQ
theorem Kb(m:Nat){B:Nat}{h:J}{v:I}{l:List (aJ×Nat)}(bM:B<=h.n)(aB:jQ B h v l)(iQ:∀x∈l,x.2<256):∃v' g,Y (m+2) (.fn 46) [v] h=.ret v' g/\Ext h.n h g/\gl (hl h.n g.n) g v' (gY l):=by
 obtain⟨gB,T,vs,Vr,xT,st,XU,Vs⟩:=Vk m h
 have j9:=xT.n
 have Vt:jQ T.n T v l:=(aB.ext (xT.le bM)).le (by omega)
 obtain⟨Vu,to,lP,hc,⟨_,Ec⟩,gj,_,_⟩:∃b off aE,I.slice gB 0 27 (.aN 1)=.slice b off vs.length aE/\(h.n<=b/\b<T.n)/\(∀i (ae:i<vs.length),ay T b (off+i*1)=some vs[i])/\0<vs.length/\aE≠ .dead:=by
  rcases st with⟨e,_⟩|e
  · cases e
  · exact e
 obtain⟨rfl,rfl,_,rfl⟩:gB=Vu/\0=to/\27=vs.length/\cf.aN 1=lP:=by injection hc with a b c d;exact⟨a,b,c,d⟩
 refine Vl (m+1) v h (R:=λx=>∃v' g,x=.ret v' g/\Ext h.n h g/\gl (hl h.n g.n) g v' (gY l)) ⟨gB,0,27,.aN 1,T,Vr,?_⟩
 refine bm.loop (by kernel_rfl) (λk s=>∃i w aS y Γ,s=⟨Γ,[],.none,y⟩/\cl [(0,v),(3,.slice gB 0 27 (.aN 1)),(4,w),(5,.int .i64 (Int.ofNat i))] Γ/\min l.length 40-i=k/\i<=min l.length 40/\Ext T.n T y/\s6 h.n T.n l i y w aS) ?_ (min l.length 40) _ (by omega) ⟨0,.a0,[],T,_,rfl,⟨rfl,rfl,rfl,rfl,trivial⟩,by omega,by omega,Ext.refl _ _,.inl ⟨rfl,rfl⟩,rfl,λj aD=>by simp at aD⟩
 rintro k s ⟨i,w,aS,y,Γ,rfl,cG,aq,ae,ab,a2⟩
 have Aa:=ab.n
 have fin:i=min l.length 40->∀bV,cl [(4,w)] bV->∃(v1:I) (au:J) (bq:Env),bu.exit 0=.exit 0/\(⟨bV,[],.none,y⟩:ao)=⟨bq,[],.none,au⟩/\cl [(4,v1)] bq/\∃v' g,av.ret v1 au=.ret v' g/\Ext h.n h g/\gl (hl h.n g.n) g v' (gY l):=λe bV aj=>⟨w,y,bV,rfl,rfl,aj,w,y,rfl,xT.trans (Nat.le_refl _) (ab.le (by omega)),a2.row e j9 (by omega)⟩
 rcases Vt with⟨rfl,rfl⟩|⟨b,off,aE,rfl,af,kn⟩
 · refine bm.pre (D9 (Y (m+1)) i .a0 _ w y ⟨0,by rfl,λah=>absurd ah (by omega),λ_=>fin (by simp at ae⊢;omega) _ ⟨rfl,trivial⟩⟩) cG rfl rfl rfl
 · by_cases cJ:i<l.length
   · by_cases xm:i<40
     · have ai:Ext T.n T (y.room 30):=ab.hC
       have mF:=gv ai af (kn i cJ).1
       have bq:=gv ai af (kn i cJ).2
       have hm:l[i].2 %27<vs.length:=by omega
       have Ed:=Vs _ hm
       obtain⟨u,hu⟩:=Vp Ed
       rw[hu] at Ed
       have lt:=gv ai Ec (gj _ hm)
       rw[hu] at lt
       have Ab:=iQ l[i] (List.getElem_mem cJ)
       obtain⟨g,fJ,eh,a6⟩:=a2.add cJ xm Aa (u:=u) (hH.bZ (λd az=>⟨az,ab.get d az.2⟩) _ _ Ed)
       have hs:∀o,Ext T.n T ((y.room 30).set (y.n+27) o):=λo=>Ext.gK (by omega) ai
       have sV:∃j,j<k/\∃jm w aS eE Γ,(⟨[(0,.slice b off l.length aE),(3,.slice gB 0 27 (.aN 1)),(4,.slice (y.n+30) 0 (i+1) (.aN 2)),(5,.int .i64 (Int.ofNat (i+1)))],[],.none,g⟩:ao)=⟨Γ,[],.none,eE⟩/\cl [(0,.slice b off l.length aE),(3,.slice gB 0 27 (.aN 1)),(4,w),(5,.int .i64 (Int.ofNat jm))] Γ/\min l.length 40-jm=j/\jm<=min l.length 40/\Ext T.n T eE/\s6 h.n T.n l jm eE w aS:=⟨_,(by show min l.length 40-(i+1)<k;omega),i+1,_,_,g,_,rfl,⟨rfl,rfl,rfl,rfl,trivial⟩,rfl,by omega,ab.trans (Nat.le_refl _) eh,a6⟩
       cases u with
       |none=>exact bm.pre (Vn (Y (m+1)) b off _ gB 0 27 i aE _ w y ⟨λ_=>⟨λ_=>⟨cJ,_,mF,cJ,_,mF,_,mc _ _,_,nq _ _,cJ,_,bq,_,z_ _ Ab _,_,J_ _ 27 (by omega),by omega,lt,_,_,g,fJ,a2.o.sound,gv (hs _) af (kn i cJ).1,gv (hs _) af (kn i cJ).1,mc _ _,nq _ _,gv (hs _) af (kn i cJ).2,z_ _ Ab _,(gv (hs _) Ec (gj _ hm)).trans (by rw[hu];rfl),by omega,sV⟩,λah=>absurd xm ah⟩,λah=>absurd cJ ah⟩) cG rfl rfl rfl
       |some R=>exact bm.pre (Vm (Y (m+1)) b off _ gB 0 27 i aE _ w y ⟨λ_=>⟨λ_=>⟨cJ,_,mF,cJ,_,mF,_,mc _ _,_,nq _ _,cJ,_,bq,_,z_ _ Ab _,_,J_ _ 27 (by omega),by omega,R,lt,_,_,g,fJ,a2.o.sound,gv (hs _) af (kn i cJ).1,gv (hs _) af (kn i cJ).1,mc _ _,nq _ _,gv (hs _) af (kn i cJ).2,z_ _ Ab _,(gv (hs _) Ec (gj _ hm)).trans (by rw[hu];rfl),by omega,sV⟩,λah=>absurd xm ah⟩,λah=>absurd cJ ah⟩) cG rfl rfl rfl
     · refine bm.pre (D9 (Y (m+1)) i _ _ w y ⟨l.length,by rfl,λ_=>⟨xm,fin (by omega) _ ⟨rfl,trivial⟩⟩,λah=>absurd cJ ah⟩) cG rfl rfl rfl
   · refine bm.pre (D9 (Y (m+1)) i _ _ w y ⟨l.length,by rfl,λah=>absurd ah cJ,λ_=>fin (by omega) _ ⟨rfl,trivial⟩⟩) cG rfl rfl rfl
end Go.Proofs.cn
namespace Go.Proofs.cn
open Go aw Go.Proofs cu Go.Proofs.b0
set_option maxRecDepth 100000
set_option maxHeartbeats 1000000
theorem Vv{Γ:Env}{y:J}{a:Nat}{cs:List I}(Vw:aw.loadCells y a 0 4=some cs)(ad:eX 2 Γ=some (.ptr a 0):=by kernel_rfl):m1 Tryz.prog (dx Tryz.f16) Tryz.f16 Γ y=some (.agg cs):=by
 have e:(Tryz.f16).results.toList=[.cell 2 24]:=by kernel_rfl
 have a_:Nat.testBit (dx Tryz.f16) 2=true:=by kernel_rfl
 have au:k6 Tryz.prog 24=some true:=by kernel_rfl
 have fu:cV Tryz.prog 24=some 4:=by kernel_rfl
 unfold m1
 rw[e]
 simp only[lR,n0,a_,ad,au,fu,Vw]
theorem Vx{p p':aJ}{b j0:Bool}{v w v' w':I}(aB:v.bC=true)(hw:w.bC=true):eB 0 [.str p,.bool b,v,w] [.str p',.bool j0,v',w']=some [.str p,.bool b,v,w]:=tR [.str p,.bool b,v,w] _ (by simp[I.bC] at*;exact⟨aB,hw⟩) (Nat.le_refl _)
abbrev Kc(p:aJ)(b:Bool)(v w:I):ca:=.cells [.str p,.bool b,v,w] 38 .own 0 0
def cut(k:Nat)(p:aJ):aJ:=p.take (min p.length k)
noncomputable def xn(p:aJ)(b:Bool)(c6 lt:List (aJ×Nat)):hY:=⟨cut 50 p,b,gY c6,gY lt⟩
structure mB(B:Nat)(h:J)(vv bE:I)(c6 lt:List (aJ×Nat)):Prop where
 v:jQ B h vv c6
 t:jQ B h bE lt
 qT:∀x∈c6,x.2<256
 t8:∀x∈lt,x.2<256
theorem mB.ext{B:Nat}{h g:J}{vv bE:I}{c6 lt:List (aJ×Nat)}(x:Ext B h g)(o:mB B h vv bE c6 lt):mB B g vv bE c6 lt:=⟨o.v.ext x,o.t.ext x,o.qT,o.t8⟩
theorem mB.le{B C:Nat}{h:J}{vv bE:I}{c6 lt:List (aJ×Nat)}(e:B<=C)(o:mB B h vv bE c6 lt):mB C h vv bE c6 lt:=⟨o.v.le e,o.t.le e,o.qT,o.t8⟩
theorem gl.snd{F:Nat->Prop}{h:J}{v:I}{l:List ez}(ai:gl F h v l):I.sound v=true:=by rcases ai with⟨rfl,_⟩|⟨b,off,aE,rfl,_⟩<;>rfl
theorem Vy(m:Nat){B:Nat}{h:J}{p:aJ}{b:Bool}{vv bE:I}{c6 lt:List (aJ×Nat)}(bM:B<=h.n)(hm:mB B h vv bE c6 lt):∃v1 v2 g,Y (m+4) (.fn 16) [.agg [.str p,.bool b,vv,bE]] h=.ret (.agg [.str (cut 50 p),.bool b,v1,v2]) g/\Ext h.n h g/\gl (hl h.n g.n) g v1 (gY c6)/\gl (hl h.n g.n) g v2 (gY lt):=by
 obtain⟨dy,hV⟩:∃x,x=h.push (Kc p b vv bE):=⟨_,rfl⟩
 obtain⟨dq,gW⟩:∃x,x=dy.push (mz [] false .a0 .a0):=⟨_,rfl⟩
 obtain⟨H,cR⟩:∃x,x=dq.room 17:=⟨_,rfl⟩
 have aI:dy.n=h.n+1:=by rw[hV];rfl
 have ml:H.n=h.n+19:=by rw[cR];simp;rw[gW];simp;omega
 have dG:Ext h.n h H:=by rw[cR];refine Ext.hC ?_;rw[gW];refine Ext.lp (by omega) ?_;rw[hV];exact Ext.push (Nat.le_refl _) _
 have aR:H.get h.n=some (Kc p b vv bE):=by rw[cR];refine tT ?_;rw[gW];refine sd (by omega) ?_;rw[hV];exact eZ rfl
 have a3:H.get (h.n+1)=some (mz [] false .a0 .a0):=by rw[cR];refine tT ?_;rw[gW];exact eZ aI.symm
 have uR:mB H.n H vv bE c6 lt:=(hm.ext (dG.le bM)).le (by omega)
 obtain⟨s7,al,c1,bb,r1⟩:=Kb (m+1) (Nat.le_refl _) uR.v uR.qT
 have Kd:=bb.n
 obtain⟨s8,au,c2,bz,r2⟩:=Kb (m+1) Kd (uR.t.ext bb) uR.t8
 have zF:=bz.n
 have fl:∀d,d<H.n->al.get d=H.get d:=λd az=>bb.get d az
 have eE:∀d,d<H.n->au.get d=H.get d:=λd az=>(bz.get d (by omega)).trans (fl d az)
 obtain⟨a7,nV⟩:∃a7,a7=au.set (h.n+1) (some (mz (cut 50 p) b s7 s8)):=⟨_,rfl⟩
 have bI:aw.storeCells au (h.n+1) 0 [.str (cut 50 p),.bool b,s7,s8]=some a7:=by rw[nV];exact ia ((eE _ (by omega)).trans a3) rfl (Vx r1.cell r2.cell)
 have cH:a7.n=au.n:=by rw[nV];simp
 have eH:∀d,d≠h.n+1->a7.get d=au.get d:=λd az=>by rw[nV];exact o8 az rfl
 have res:Ext h.n h a7/\gl (hl h.n a7.n) a7 s7 (gY c6)/\gl (hl h.n a7.n) a7 s8 (gY lt):=by
  refine⟨⟨by omega,λd az=>(eH d (by omega)).trans ((eE d (by omega)).trans (dG.get d az))⟩,?_,?_⟩
  · exact gl.bZ (λd az=>⟨⟨by omega,by omega⟩,(eH d (by omega)).trans (bz.get d az.2)⟩) r1
  · exact gl.bZ (λd az=>⟨⟨by omega,by omega⟩,eH d (by omega)⟩) r2
 have Ee:=mc p.length 50
 have hz:∀g:J,eu Tryz.prog g 9 (.str p) none (some (.int .i64 (Int.ofNat (min p.length 50)))) none=some (.str (cut 50 p)):=λg=>nq 50 p
 refine⟨s7,s8,a7,?_,res⟩
 refine Hz (R:=λx=>x=.ret (.agg [.str (cut 50 p),.bool b,s7,s8]) a7) (intr:=bW) (n:=m+3) (args:=[.agg [.str p,.bool b,vv,bE]]) Tryz.func16 (by kernel_rfl) (by kernel_rfl) (by kernel_rfl) (Q:=λe st=>e=.ret/\st=⟨[(2,.ptr (h.n+1) 0)],[],.none,a7⟩) (Vo (Y (m+3)) p b vv bE h ?_) λe st bh=>?_
 · subst cR
   subst gW
   subst hV
   exact⟨hm.v.cell,hm.t.cell,p,ba aR rfl,p,ba aR rfl,_,Ee,_,hz _,b,ba aR rfl,vv,ba aR rfl,s7,al,c1,bE,ba ((fl _ (by omega)).trans aR) rfl,s8,au,c2,r1.cell,r2.cell,r1.cell,r2.cell,a7,bI,ba ((eE _ (by omega)).trans aR) rfl,ba ((fl _ (by omega)).trans aR) rfl,ba ((eE _ (by omega)).trans aR) rfl,ba ((fl _ (by omega)).trans aR) rfl,Ee,Ee,hz _,hz _,ba ((eE _ (by omega)).trans aR) rfl,ba ((fl _ (by omega)).trans aR) rfl,hm.v.snd,hm.t.snd,ba aR rfl,r1.snd,r2.snd,rfl,rfl⟩
 · obtain⟨rfl,rfl⟩:=bh
   exact .inl ⟨.inl rfl,rfl,_,Vv (n1 (by rw[nV];exact h_ rfl) rfl),rfl⟩
end Go.Proofs.cn
namespace Go.Proofs.cn
open Go aw Go.Proofs cu Go.Proofs.b0
set_option maxRecDepth 100000
set_option maxHeartbeats 1000000
theorem xo(m:Nat)(h:J):Y (m+1) (.fn 12) [] h=.ret (.bool true) h:=by
 have e:bW 12 [] h=some (.bool true,h):=by kernel_rfl
 show e4 Tryz.prog bW (m+1) _ _ _=_
 simp only[e4,e]
theorem Ef{k:Nat}:∀l:List aJ,(∀x∈l,x.length<=k)->l.flatten.length<=l.length*k
 |[],_=>by simp
 |x::l,h=>by
  have aa:=h x (by simp)
  have ad:=Ef l λy aU=>h y (by simp[aU])
  rw[List.flatten_cons,List.length_append,List.length_cons,Nat.succ_mul]
  omega
theorem Ke(l:List (aJ×Nat)):(k3 (gY l)).length<=20000:=by
 unfold k3
 have aa:=cT.pB (gY l).length
 have ad:=Ef (k:=450) ((gY l).map dE) λx ab=>by
  obtain⟨e,he,rfl⟩:=List.mem_map.1 ab
  obtain⟨y,_,rfl⟩:=List.mem_map.1 he
  have ar:=cT.xb (kq y).1
  have aM:=(J9 (y.2 %27)).2
  have bS:(kq y).1.length<=30:=by simp only[kq,List.length_take];omega
  unfold dE
  rw[List.length_append]
  have cK:(kq y).2=s5 (y.2 %27):=rfl
  rw[cK]
  omega
 rw[List.length_map,q5] at ad
 rw[List.length_append]
 have:min l.length 40*450<=40*450:=Nat.mul_le_mul_right _ (by omega)
 omega
theorem Kf(p:aJ)(b:Bool)(c6 lt:List (aJ×Nat)):(jb (xn p b c6 lt)).length<=41000:=by
 have a6:(cut 50 p).length<=50:=by simp only[cut,List.length_take];omega
 have aa:=cT.xb (cut 50 p)
 have ad:=Ke c6
 have ar:=Ke lt
 have aM:=cT.pB 0
 have bS:=cT.pB 1
 show(cT.cS (cut 50 p)++(if b then dV.b_ 1 else dV.b_ 0++(k3 (gY c6)++k3 (gY lt)))).length<=_
 rw[List.length_append]
 split
 · omega
 · rw[List.length_append,List.length_append];omega
theorem Vz(p:aJ)(b:Bool)(c6 lt:List (aJ×Nat)):np (xn p b c6 lt)/\(jb (xn p b c6 lt)).length<=1000000:=by
 have xp:∀l,∀e∈gY l,fit e.2:=λl e he=>by
  obtain⟨y,_,rfl⟩:=List.mem_map.1 he
  exact(J9 (y.2 %27)).1
 have a6:(cut 50 p).length<=50:=by simp only[cut,List.length_take];omega
 refine⟨⟨by show(cut 50 p).length<=_;omega,by show(gY c6).length<=_;rw[q5];omega,by show(gY lt).length<=_;rw[q5];omega,xp c6,xp lt⟩,Nat.le_trans (Kf p b c6 lt) (by omega)⟩
end Go.Proofs.cn
namespace Go.Proofs.cn
open Go aw Go.Proofs cu Go.Proofs.b0 Go.ChangeShapes Go.WideShapes Go.ChangeAt Go.RowKit Go.ChangeMaps
set_option maxRecDepth 100000
set_option maxHeartbeats 1000000
theorem Ac{W:World}{a:Addr}{m j:Nat}{v:Value}(h:W.cell? ((a.add m).add j)=some v):∃c el fz,W.heap[a.block]? =some (.cells c el fz)/\c[a.off+m+j]? =some v/\(m=0->j=0->a.spot=none):=by
 have af:((a.add m).add j).block=a.block:=by
  unfold Addr.add
  split<;>split<;>rfl
 have a2:((a.add m).add j).off=a.off+m+j:=by
  unfold Addr.add
  split<;>split<;>simp_all
 unfold World.cell? at h
 rw[af,a2] at h
 split at h
 · rename_i c el fz ab
   split at h
   · cases h
   · rename_i hs
     refine⟨c,el,fz,ab,h,λaa ad=>?_⟩
     subst aa;subst ad
     simpa[Addr.add] using hs
 · cases h
def ns(rows:List (dL×List I×Nat))(μ:a8)(h:J)(B:Nat):Prop:=∀(k:Nat) (x:dL×List I×Nat),rows[k]? =some x->μ (B+k)=some x.1/\h.get (B+k)=some (.cells x.2.1 x.2.2 .ro 0 0)/\B+k<h.n
theorem Ad{r1 r2:List (dL×List I×Nat)}{μ:a8}{h:J}{B:Nat}(ai:ns (r1++r2) μ h B):ns r1 μ h B/\ns r2 μ h (B+r1.length):=by
 refine⟨λk x aq=>ai k x ?_,λk x aq=>?_⟩
 · rw[List.getElem?_append_left (List.getElem?_eq_some_iff.1 aq).1];exact aq
 · have:=ai (r1.length+k) x (by rw[List.getElem?_append_right (by omega),Nat.add_sub_cancel_left];exact aq)
   rw[Nat.add_assoc];exact this
theorem VA{rows:List (dL×List I×Nat)}:ns rows (o2 Tryz.prog.globals.size (rows.map (·.1))) (r3 Tryz.prog.globals.size (rows.map (·.2))) Tryz.prog.globals.size:=by
 intro k x aq
 refine⟨OQ aq,OR aq,?_⟩
 have:=(List.getElem?_eq_some_iff.1 aq).1
 rw[BV,List.length_map];omega
theorem VB{P:Program}{W:World}{base:Nat}{t e:TypeId}(aQ:P.underlying t=some (.slice e)){a:Addr}{len cap:Nat}(h:Cell.okWide P W .any base t (.slice (some a) len cap)):∃c el fz,W.heap[a.block]? =some (.cells c el fz):=by
 simp only[Cell.okWide,aQ,Cell.ok] at h
 obtain⟨_,_,_,_,row,cells,hs,_⟩:=h
 unfold World.shape? at hs
 cases af:W.heap[a.block]? with
 |none=>simp[af] at hs
 |some o=>
  rw[af] at hs
  cases o with
  |cells c el fz=>exact⟨c,el,fz,rfl⟩
  |_=>cases hs
theorem Kg{x y:I}:∀(o:Nat) (cs:List I),takeN 2 (g0 o cs)=some [x,y]->nth o cs=some x/\nth (o+1) cs=some y
 |0,[],h=>by cases h
 |0,[a],h=>by cases h
 |0,a::b::l,h=>by cases h;exact⟨rfl,rfl⟩
 |o+1,[],h=>by cases h
 |o+1,a::l,h=>Kg o l h
theorem VC{h:J}{b o:Nat}{x y:I}(an:aw.loadCells h b o 2=some [x,y]):ay h b (o+0)=some x/\ay h b (o+1)=some y:=by
 unfold aw.loadCells at an
 unfold ay
 split at an
 · exact Kg o _ an
 · cases an
def xq(d:aJ×Nat):List I:=[.str d.1,.int .u8 (Int.ofNat d.2)]
def xr(d:aJ×Nat):List Value:=[.string ⟨d.1.toArray⟩,.int .u8 (Int.ofNat d.2)]
theorem Kh:Tryz.prog.underlying 36=some (.slice 117):=by kernel_rfl
theorem VD:∃f0 f1:Field,Tryz.prog.underlying 117=some (.struct #[f0,f1])/\f0.type=9/\f1.type=5/\f0.offset=0/\f1.offset=1:=by
 obtain⟨b2,j3⟩:∃b2,Tryz.prog.underlying 117=some (.struct b2):=by
  have:(match Tryz.prog.underlying 117 with|some (.struct _)=>true|_=>false)=true:=by kernel_rfl
  revert this
  cases Tryz.prog.underlying 117 with
  |none=>intro h;cases h
  |some d=>cases d<;>intro h<;>first|exact⟨_,rfl⟩|cases h
 have k:(match Tryz.prog.underlying 117 with|some (.struct b2)=>b2.toList.map λf=>(f.type,f.offset)|_=>[])=[(9,0),(5,1)]:=by kernel_rfl
 rw[j3] at k
 simp only at k
 obtain⟨l⟩:=b2
 match l,k with
 |[f0,f1],k=>
  simp only[List.map_cons,List.map_nil,List.cons.injEq,Prod.mk.injEq] at k
  exact⟨f0,f1,j3,k.1.1,k.2.1.1,k.1.2,k.2.1.2⟩
theorem Ki{H:Type}{enc:TypeId×Value->H}{W:World}{sp:Nat->Bool}{held:Bool}{fuel:Nat}{nt:Option Addr}{len cap:Nat}{x:DataW H×List MemPlace}(h:DataW.trod enc Tryz.prog W 0 sp held fuel 36 [.slice nt len cap]=some x):
  (nt=none/\len=0/\cap=0)\/∃a,nt=some a/\len<=cap/\∃aS:List (aJ×Nat),aS.length=len/\(∀d∈aS,d.2<256)/\∀i (ae:i<aS.length) (j:Nat) (v:Value),(xr aS[i])[j]? =some v->W.cell? ((a.add (i*2)).add j)=some v:=by
 have qw:Tryz.prog.cellsOf 117=2:=by kernel_rfl
 have VE:Tryz.prog.cellsOf 9=1:=by kernel_rfl
 have jC:Tryz.prog.cellsOf 5=1:=by kernel_rfl
 have w_:Tryz.prog.underlying 5=some (.int .u8):=by kernel_rfl
 rcases DataW.trod_slice Kh h with⟨h0,_⟩|⟨a,VF,Bv,elems,rest,n,_,h0,_,af,an,hm,hlen,mQ,_,_⟩
 · cases h0;exact .inl ⟨rfl,rfl,rfl⟩
 · cases h0
   right
   refine⟨a,rfl,an,?_⟩
   have each:∀i,i<len->∃d:aJ×Nat,d.2<256/\W.cells? 0 (a.add (i*2)) 2=some (xr d):=by
    intro i ae
    have he:=mQ i ae
    rw[List.getElem?_eq_getElem (by omega),qw,Option.bind_eq_some_iff] at he
    obtain⟨cs,gG,aU⟩:=he
    obtain⟨f0,f1,hs,t0,t1,mJ,c0⟩:=VD
    obtain⟨Eg,fl,k,_,fj,rr,bG⟩:=trod_struct2 hs aU
    rw[qw] at fj
    obtain⟨v0,v1,rfl⟩:∃v0 v1,cs=[v0,v1]:=by
     match cs,fj with
     |[v0,v1],_=>exact⟨v0,v1,rfl⟩
    rw[t0,mJ,VE] at rr
    rw[t1,c0,jC] at bG
    obtain⟨s,dt,_,_⟩:=DataW.trod_string uP rr
    obtain⟨c7,aC,_,hw⟩:=DataW.trod_int w_ bG
    have Eh:v0=.string s:=by simpa using dt
    have rB:v1=.int .u8 c7:=by simpa using aC
    simp only[Lit.wf,Bool.and_eq_true,decide_eq_true_eq] at hw
    have cm:IntKind.u8.min=0:=rfl
    have fY:IntKind.u8.max=255:=rfl
    rw[cm,fY] at hw
    refine⟨(s.data.toList,c7.toNat),by show c7.toNat<256;omega,?_⟩
    rw[gG,Eh,rB]
    have:c7=Int.ofNat c7.toNat:=by show c7=(c7.toNat:Int);omega
    rw[this]
    rfl
   let f:Nat->aJ×Nat:=λi=>if ae:i<len then(each i ae).choose else([],0)
   have hf:∀i (ae:i<len),f i=(each i ae).choose:=λi ae=>by simp[f,ae]
   refine⟨(List.range len).map f,by simp,λd az=>?_,λi ae j v aB=>?_⟩
   · obtain⟨i,ae,rfl⟩:=List.mem_map.1 az
     have dY:i<len:=by simpa using ae
     rw[hf i dY]
     exact(each i dY).choose_spec.1
   · have dY:i<len:=by simpa using ae
     have e:((List.range len).map f)[i]=(each i dY).choose:=by rw[<-hf i dY];simp
     rw[e] at aB
     have gG:=(each i dY).choose_spec.2
     have aD:j<2:=by
      have:=(List.getElem?_eq_some_iff.1 aB).1
      simpa[xr] using this
     have:=World.cells?_some gG
     exact(this.2.2 j aD).trans aB
theorem VG(μ:a8)(d:aJ×Nat)(t:Nat)(a:I)(u:Value)(h:(xq d)[t]? =some a)(hu:(xr d)[t]? =some u):a1 μ a u:=by
 match t,h,hu with
 |0,h,hu=>cases h;cases hu;exact⟨_,rfl,rfl⟩
 |1,h,hu=>cases h;cases hu;exact rfl
 |t+2,h,hu=>cases h
theorem VH{H:Type}{enc:TypeId×Value->H}{W:World}{sp:Nat->Bool}{held:Bool}{fuel:Nat}{nt:Option Addr}{len cap:Nat}{x:DataW H×List MemPlace}(h:DataW.trod enc Tryz.prog W 0 sp held fuel 36 [.slice nt len cap]=some x)(h0:len≠0):
  ∃aS rows,(∀d∈aS,d.2<256)/\(∀x∈rows,tJ W x.1 x.2.1 x.2.2)/\∀B,∃v,∀(μ:a8) (h:J),ns rows μ h B->jQ h.n h v aS/\a1 μ v (.slice nt len cap):=by
 rcases Ki h with⟨_,e,_⟩|⟨a,rfl,hle,aS,an,iQ,ag⟩
 · exact absurd e h0
 · obtain⟨c,el,fz,af,j4,hs⟩:=Ac (ag 0 (by omega) 0 _ rfl)
   have xt:=hs (by omega) rfl
   have hle:a.off<=c.size:=by
    have:=(Array.getElem?_eq_some_iff.1 j4).1;omega
   refine⟨aS,[(⟨a.block,a.off,c.size-a.off⟩,eJ xq aS,el)],iQ,λx ab=>?_,λB=>⟨.slice B 0 len (.exact cap),λμ h ai=>?_⟩⟩
   · obtain rfl:x=_:=by simpa using ab
     refine⟨c,fz,af,λμ t v aB=>?_,by simp;omega⟩
     have kj:(aS.flatMap xq)[t]? =some v:=aB
     rw[y9 (w:=2) λd=>rfl] at kj
     split at kj
     · rename_i aQ
       have ae:t/2<aS.length:=Nat.div_lt_of_lt_mul (by rw[Nat.mul_comm];exact aQ)
       rw[List.getElem?_eq_getElem ae] at kj
       have Ei:(xq aS[t/2])[t %2]? =some v:=kj
       have aD:t %2<(xr aS[t/2]).length:=by
        show t %2<2
        omega
       obtain⟨c',p5,VI,hK,ab,_⟩:=Ac (ag (t/2) ae (t %2) _ (List.getElem?_eq_getElem aD))
       rw[af] at hK
       cases hK
       have e:a.off+t/2*2+t %2=a.off+t:=by omega
       rw[e] at ab
       exact⟨_,ab,VG _ _ _ _ _ Ei (List.getElem?_eq_getElem aD)⟩
     · cases kj
   · obtain⟨aa,ad,ar⟩:=ai 0 _ rfl
     simp only[Nat.add_zero] at ad
     refine⟨.inr ⟨B,0,.exact cap,by rw[an],ar,λi ae=>VC (Cp (enc:=xq) (w:=2) (rest:=[]) (λ_=>rfl) (by rw[List.append_nil];exact ad) ae (by omega))⟩,⟨_,aa,?_⟩⟩
     obtain⟨a5,off,spot⟩:=a
     simp only at xt
     subst xt
     rfl
end Go.Proofs.cn
