/-
  PROVED HERE: contracts of functions (Dx). No condition beside each statement's own.
-/
import Derived.Test.YtfooahfebojldaaGreatDoorDk
import Derived.Test.YtfooahfebojldaaGreatDoorAed
import Derived.Deep.Strs
import Derived.DataReads
set_option linter.unusedVariables false
set_option linter.unusedSimpArgs false
namespace Go.Proofs.cN
open Go ay Go.Proofs cS Go.Proofs.cf
set_option maxRecDepth 100000
set_option maxHeartbeats 1000000
abbrev ia(a b:Nat)(d:Nat):Prop:=a<=d/\d<b
def H3(G n B:Nat)(M h:aa):Prop:=∀b o,M.get b=some o->Nat.blt b G=false->h.get (b-G+n)=kO G n o/\b-G+n<B
theorem O2:∀(m:Nat) (l ws:List J),takeN m l=some ws->ws.length=m/\∀i,i<m->l[i]? =ws[i]?
 |0,l,ws,h=>by cases h;exact⟨rfl,λi af=>by omega⟩
 |m+1,[],ws,h=>by cases h
 |m+1,a::l,ws,h=>by
  simp only[takeN] at h
  split at h
  · rename_i r ai
    cases h
    obtain⟨ab,ae⟩:=O2 m l r ai
    refine⟨by simp[ab],λi af=>?_⟩
    cases i with
    |zero=>rfl
    |succ i=>simpa using ae i (by omega)
  · cases h
def xd(G:Nat)(M:aa):J->Option (List J)
 |.az=>some []
 |.slice b 0 (l+1) .dead=>none
 |.slice b 0 (l+1) aG=>match Nat.blt b G,M.get b with
  |false,some (.cells cs _ _ _ _)=>takeN (l+1) cs
  |_,_=>none
 |_=>none
theorem H4{G n B:Nat}{M h:aa}(ao:H3 G n B M h){v:J}{ws:List J}(ai:xd G M v=some ws):q8 (ia n B) h (gE G n v) (jK G n ws):=by
 unfold xd at ai
 split at ai
 · cases ai;exact .inl ⟨rfl,rfl⟩
 · cases ai
 · rename_i b l aG abr
   split at ai
   · rename_i cs el k aW up ab ae
     obtain⟨bz,bA⟩:=O2 _ _ _ ai
     obtain⟨al,ak⟩:=ao _ _ ae ab
     refine .inr ⟨b-G+n,0,aG,by simp only[gE,ab,uw,bz],⟨by omega,ak⟩,λi af=>?_,by rw[uw];omega,abr⟩
     rw[uw] at af
     refine BX al ?_
     have e:=bA i (by omega)
     rw[F_,show 0+i*1=i by omega,e,List.getElem?_eq_getElem af]
     simp only[Ga,List.getElem_map,Option.map_some]
   · cases ai
 · cases ai
def Dg:List J->Option (List aL)
 |[]=>some []
 |.str s::l=>(Dg l).map (s::·)
 |_=>none
theorem O3{G n:Nat}:∀{l:List J} {r:List aL},Dg l=some r->jK G n l=r.map .str
 |[],r,h=>by cases h;rfl
 |v::l,r,h=>by
  cases v with
  |str s=>
   simp only[Dg,Option.map_eq_some_iff] at h
   obtain⟨q,ab,rfl⟩:=h
   simp only[jK,gE,O3 ab,List.map_cons]
  |_=>cases h
def H5(G:Nat):J->Option Nat
 |.ptr b 0=>match Nat.blt b G with
  |true=>none
  |false=>some b
 |_=>none
theorem abt{G n:Nat}{v:J}{b:Nat}(h:H5 G v=some b):Nat.blt b G=false/\gE G n v=.ptr (b-G+n) 0:=by
 unfold H5 at h
 split at h
 · split at h
   · cases h
   · rename_i ab;cases h;exact⟨ab,by simp only[gE,ab]⟩
 · cases h
def H6:Option b3->Option (Nat×aL×J×J×J)
 |some (.cells [.int .i64 (.ofNat k),.str bZ,b5,bJ,dy] el _ _ _)=>match Nat.beq el 51 with
  |true=>some (k,bZ,b5,bJ,dy)
  |false=>none
 |_=>none
theorem abu{o:Option b3}{k:Nat}{bZ:aL}{b5 bJ dy:J}(h:H6 o=some (k,bZ,b5,bJ,dy)):∃cd aW up,o=some (.cells [.int .i64 (Int.ofNat k),.str bZ,b5,bJ,dy] 51 cd aW up):=by
 unfold H6 at h
 split at h
 · split at h
   · rename_i ag
     cases h
     rw[Nat.eq_of_beq_eq_true ag]
     exact⟨_,_,_,rfl⟩
   · cases h
 · cases h
def Dh(f:J->Option a3):List J->Option (List a3)
 |[]=>some []
 |v::l=>(f v).bind λt=>(Dh f l).map (t::·)
def Di(f:J->Option a3)(v:J):Option (Option a3):=match v with
 |.bc=>some none
 |v=>(f v).map some
def xe(G:Nat)(M:aa):Nat->J->Option a3
 |0,_=>none
 |f+1,v=>(H5 G v).bind λb=>(H6 (M.get b)).bind λx=>((xd G M x.2.2.1).bind Dg).bind λns=>((xd G M x.2.2.2.1).bind (Dh (xe G M f))).bind λxs=>(Di (xe G M f) x.2.2.2.2).map λrt=>.mk x.1 x.2.1 ns xs rt
theorem O4{G n B:Nat}{h:aa}{f:J->Option a3}(hf:∀v t,f v=some t->hx (ia n B) h t (gE G n v)):∀{l:List J} {ts:List a3},Dh f l=some ts->g_ (ia n B) h ts (jK G n l)
 |[],ts,e=>by cases e;rfl
 |v::l,ts,e=>by
  simp only[Dh,Option.bind_eq_some_iff,Option.map_eq_some_iff] at e
  obtain⟨t,ab,r,ae,rfl⟩:=e
  exact⟨_,_,rfl,hf v t ab,O4 hf ae⟩
theorem O5{G n B:Nat}{h:aa}{f:J->Option a3}(hf:∀v t,f v=some t->hx (ia n B) h t (gE G n v)){v:J}{ot:Option a3}(e:Di f v=some ot):ha (ia n B) h ot (gE G n v):=by
 unfold Di at e
 split at e
 · cases e;rfl
 · obtain⟨t,ab,rfl⟩:=Option.map_eq_some_iff.1 e
   exact hf _ t ab
theorem H7{G n B:Nat}{M h:aa}(ao:H3 G n B M h):∀(f:Nat) (v:J) (t:a3),xe G M f v=some t->hx (ia n B) h t (gE G n v)
 |0,v,t,e=>by cases e
 |f+1,v,t,e=>by
  simp only[xe,Option.bind_eq_some_iff,Option.map_eq_some_iff] at e
  obtain⟨b,ab,⟨k,bZ,b5,bJ,dy⟩,ae,ns,⟨wn,av,aK⟩,xs,⟨nU,bU,cB⟩,rt,eo,rfl⟩:=e
  obtain⟨ab,h5⟩:=abt (n:=n) ab
  obtain⟨cd,aW,up,ae⟩:=abu ae
  obtain⟨al,ak⟩:=ao _ _ ae ab
  have aJ:=H4 ao av
  rw[O3 aK] at aJ
  exact⟨b-G+n,gE G n b5,gE G n bJ,gE G n dy,jK G n nU,cd,aW,up,h5,⟨by omega,ak⟩,al,aJ,H4 ao bU,O4 (H7 ao f) cB,O5 (H7 ao f) eo⟩
noncomputable def Dj:aa:=kn lC.n lC.l
noncomputable def Dk:List J:=(xd Tryz.prog.globals.size Dj lC.v).getD []
theorem abv:xd Tryz.prog.globals.size Dj lC.v=some Dk:=by kernel_rfl
theorem abw:Dk.length=27:=by kernel_rfl
def z0(f:J->Option a3):List J->Option (List (Option a3))
 |[]=>some []
 |v::l=>(Di f v).bind λt=>(z0 f l).map (t::·)
theorem O6{G n B:Nat}{h:aa}{f:J->Option a3}(hf:∀v t,f v=some t->hx (ia n B) h t (gE G n v)):∀{l:List J} {ts:List (Option a3)},z0 f l=some ts->ts.length=l.length/\∀i (ab:i<l.length),ha (ia n B) h ((ts[i]?).getD none) (gE G n l[i])
 |[],ts,e=>by cases e;exact⟨rfl,λi ab=>by simp at ab⟩
 |v::l,ts,e=>by
  simp only[z0,Option.bind_eq_some_iff,Option.map_eq_some_iff] at e
  obtain⟨t,ab,r,ae,rfl⟩:=e
  obtain⟨bz,bA⟩:=O6 hf ae
  refine⟨by simp[bz],λi af=>?_⟩
  cases i with
  |zero=>exact O5 hf ab
  |succ i=>simpa using bA i (by simpa using af)
noncomputable def Dl:List (Option a3):=(z0 (xe Tryz.prog.globals.size Dj 9) Dk).getD []
theorem abx:z0 (xe Tryz.prog.globals.size Dj 9) Dk=some Dl:=by kernel_rfl
noncomputable def va(k:Nat):Option a3:=(Dl[k]?).getD none
def H8(o:Option a3):Bool:=Nat.ble (dw o) 60&&(Nat.ble (oG o) 1000&&Nat.ble (jN o).length 400)
theorem aby:(Dl.all H8)=true:=by kernel_rfl
theorem O7(k:Nat):fit (va k)/\(jN (va k)).length<=400:=by
 have key:H8 (va k)=true:=by
  unfold va
  cases h:Dl[k]? with
  |none=>rfl
  |some o=>exact List.all_eq_true.1 aby o (List.mem_of_getElem? h)
 simp only[H8,Bool.and_eq_true,Nat.ble_eq] at key
 refine⟨⟨by omega,λt a2=>?_⟩,key.2.2⟩
 have:=key.2.1
 rw[a2] at this
 rw[oG] at this
 omega
theorem abz{G N:Nat}{l:List (Nat×b3)}{h g:aa}(aw:(sq G l&&so N l)=true)(ao:g=⟨(oE G h.n h l).t,h.n+(N-G)⟩):H3 G h.n g.n (kn N l) g/\Ext h.n h g:=by
 rw[Bool.and_eq_true] at aw
 have aJ:g.n=h.n+(N-G):=by rw[ao]
 have fR:∀c,g.get c=if c<h.n then h.get c else match(kn N l).get (G+(c-h.n)) with
  |some o=>kO G h.n o
  |none=>h.get c:=λc=>by rw[ao];exact Gj G h.n N h l (Gk aw.1) c
 refine⟨λb o ag ab=>?_,by omega,λd aq=>by rw[fR,if_pos aq]⟩
 have ae:G<=b:=Nat.le_of_not_lt λav=>by
  have aK:Nat.blt b G=true:=by rw[Nat.blt_eq];exact av
  rw[aK] at ab;cases ab
 refine⟨?_,?_⟩
 · rw[fR,if_neg (by omega),show G+(b-G+h.n-h.n)=b by omega,ag]
 · have av:b<N:=by
     rw[Cc] at ag
     rcases Gg (iE N) l b with⟨o',bz,bA⟩|⟨bz,bA⟩
     · exact Gh aw.2 _ _ bz
     · rw[ag,Gi] at bA;cases bA
   omega
theorem abA:(sq Tryz.prog.globals.size lC.l&&so lC.n lC.l)=true:=by kernel_rfl
theorem abB(n:Nat):∃b,gE Tryz.prog.globals.size n lC.v=.slice b 0 27 (.aM 1):=⟨5503-Tryz.prog.globals.size+n,by kernel_rfl⟩
theorem abC(h:aa):b7 69 [] h=some (gE Tryz.prog.globals.size h.n lC.v,⟨(oE Tryz.prog.globals.size h.n h lC.l).t,h.n+(lC.n-Tryz.prog.globals.size)⟩):=by kernel_rfl
theorem abD(m:Nat)(h:aa):∃b g vs,Y (m+1) (.fn 69) [] h=.ret (.slice b 0 27 (.aM 1)) g/\Ext h.n h g/\q8 (ia h.n g.n) g (.slice b 0 27 (.aM 1)) vs/\vs.length=27/\∀i (af:i<vs.length),ha (ia h.n g.n) g (va i) vs[i]:=by
 have e:=abC h
 obtain⟨g,ao⟩:∃g:aa,g=⟨(oE Tryz.prog.globals.size h.n h lC.l).t,h.n+(lC.n-Tryz.prog.globals.size)⟩:=⟨_,rfl⟩
 obtain⟨k6,ad⟩:=abz abA ao
 have lL:=H4 k6 abv
 obtain⟨bz,bA⟩:=O6 (H7 k6 9) abx
 obtain⟨b,wv⟩:=abB h.n
 rw[wv] at lL e
 rw[<-ao] at e
 refine⟨b,g,_,?_,ad,lL,by rw[uw,abw],λi af=>?_⟩
 · show e_ Tryz.prog b7 (m+1) _ _ _=_
   simp only[e_,e]
 · rw[uw] at af
   have:=bA i af
   simp only[Ga,List.getElem_map]
   exact this
end Go.Proofs.cN
namespace Go.Proofs.cN
open Go ay Go.Proofs cS Go.Proofs.cf
set_option maxRecDepth 100000
set_option maxHeartbeats 1000000
theorem abE(m:Nat)(v:J)(h:aa){R:ax->Prop}(H:∃aQ:Nat,∃bw:Nat,∃cl:Nat,∃c1:cj,∃al:aa,(Y m) (.fn 69) [] h=.ret (.slice aQ bw cl c1) al/\bB Tryz.prog Tryz.f46 (Y m) [1,1,1,0,1,0] (ar.mk [(0,v),(3,.slice aQ bw cl c1),(4,.az),(5,.int .i64 (.ofNat 0))] [] .none al) (λc6 c0=>∃v1:J,∃ak:aa,∃bD:Env,c6=.exit 0/\c0=ar.mk bD [] .none ak/\cZ [(4,v1)] bD/\R (.ret v1 ak))):
  R (Y (m+1) (.fn 46) [v] h):=
 dH (intr:=b7) [(6,.bW .ih),(4000,.fw [0,3,4,5] [(.exit 0,[(4,.o)])])] [(0,.o v)] Tryz.func46 (by kernel_rfl) (by kernel_rfl) (by kernel_rfl) rfl (Eq.mp (by kernel_rfl) H)
theorem abF(call:aO->List J->aa->ax)(b:Nat)(off:Nat)(N:Nat)(hO:Nat)(to:Nat)(ix:Nat)(i:Nat)(aG:cj)(m9:cj)(w:J)(h:aa){Q:bK->ar->Prop}(H:(i<N->(i<40->i<N/\∃s1:List UInt8,aA (h.room 30) b (off+i*2+0)=some (.str s1)/\i<N/\∃s2:List UInt8,aA (h.room 30) b (off+i*2+0)=some (.str s2)/\∃aQ:Nat,iA jy (.int .i64 (.ofNat (List.length s2))) [.int .i64 (.ofNat 30)]=some (.int .i64 (.ofNat aQ))/\∃bV:List UInt8,dR Tryz.prog (h.room 30) 9 (.str s1) none (some (.int .i64 (.ofNat aQ))) none=some (.str bV)/\i<N/\∃bw:Nat,aA (h.room 30) b (off+i*2+1)=some (.int .u8 (.ofNat bw))/\∃cl:Nat,ea Tryz.prog 5 3 (.int .u8 (.ofNat bw)) (h.room 30)=fj.val (.int .i64 (.ofNat cl)) (h.room 30)/\∃cC:Nat,arith .rem .i64 (.ofNat cl) (.ofNat ix)=some (.int .i64 (.ofNat cC))/\cC<ix/\∃c5:Nat,aA (h.room 30) hO (to+cC*1)=some (.ptr c5 0)/\∃dV:Nat,∃fo:Nat,∃al:aa,gl Tryz.prog (aa.set (h.room 30) (h.n+27) (some (.cells [.str bV,.ptr c5 0] 53 .own 0 0))) 22 (some 22) w (.slice (h.n+27) 0 1 (.exact 1))=some (.slice dV 0 fo (.aM 2),al)/\J.sound w=true/\aA (aa.set (h.room 30) (h.n+27) (some (.cells [.str bV,.ptr c5 0] 53 .own 0 0))) b (off+i*2+0)=some (.str s1)/\aA (aa.set (h.room 30) (h.n+27) (some (.cells [.str bV,.ptr c5 0] 53 .own 0 0))) b (off+i*2+0)=some (.str s2)/\iA jy (.int .i64 (.ofNat (List.length s2))) [.int .i64 (.ofNat 30)]=some (.int .i64 (.ofNat aQ))/\dR Tryz.prog (aa.set (h.room 30) (h.n+27) (some (.cells [.str bV,.ptr c5 0] 53 .own 0 0))) 9 (.str s1) none (some (.int .i64 (.ofNat aQ))) none=some (.str bV)/\aA (aa.set (h.room 30) (h.n+27) (some (.cells [.str bV,.ptr c5 0] 53 .own 0 0))) b (off+i*2+1)=some (.int .u8 (.ofNat bw))/\ea Tryz.prog 5 3 (.int .u8 (.ofNat bw)) (aa.set (h.room 30) (h.n+27) (some (.cells [.str bV,.ptr c5 0] 53 .own 0 0)))=fj.val (.int .i64 (.ofNat cl)) (aa.set (h.room 30) (h.n+27) (some (.cells [.str bV,.ptr c5 0] 53 .own 0 0)))/\aA (aa.set (h.room 30) (h.n+27) (some (.cells [.str bV,.ptr c5 0] 53 .own 0 0))) hO (to+cC*1)=some (.ptr c5 0)/\i+1<9223372036854775808/\Q .nrm (ar.mk [(0,.slice b off N aG),(3,.slice hO to ix m9),(4,.slice dV 0 fo (.aM 2)),(5,.int .i64 (.ofNat (i+1)))] [] .none al))/\(¬i<40->Q (.exit 0) (ar.mk [(0,.slice b off N aG),(3,.slice hO to ix m9),(4,w),(5,.int .i64 (.ofNat i))] [] .none h)))/\(¬i<N->Q (.exit 0) (ar.mk [(0,.slice b off N aG),(3,.slice hO to ix m9),(4,w),(5,.int .i64 (.ofNat i))] [] .none h))):
  bB Tryz.prog Tryz.f46 call [1,1,1,0,1,0,0] ⟨[(0,.slice b off N aG),(3,.slice hO to ix m9),(4,w),(5,.int .i64 (.ofNat i))],[],.none,h⟩ Q:=
 gN [(36,.bW (.n .u8)),(45,.bW (.ub (.aM 2))),(42,.bW .p)] [0,3,4,5] [(0,.v (.slice b off N aG)),(3,.v (.slice hO to ix m9)),(4,.o w),(5,.v (.int .i64 (.ofNat i)))] rfl (Eq.mp (by kernel_rfl) H)
theorem abG(call:aO->List J->aa->ax)(b:Nat)(off:Nat)(N:Nat)(hO:Nat)(to:Nat)(ix:Nat)(i:Nat)(aG:cj)(m9:cj)(w:J)(h:aa){Q:bK->ar->Prop}(H:(i<N->(i<40->i<N/\∃s1:List UInt8,aA (h.room 30) b (off+i*2+0)=some (.str s1)/\i<N/\∃s2:List UInt8,aA (h.room 30) b (off+i*2+0)=some (.str s2)/\∃aQ:Nat,iA jy (.int .i64 (.ofNat (List.length s2))) [.int .i64 (.ofNat 30)]=some (.int .i64 (.ofNat aQ))/\∃bV:List UInt8,dR Tryz.prog (h.room 30) 9 (.str s1) none (some (.int .i64 (.ofNat aQ))) none=some (.str bV)/\i<N/\∃bw:Nat,aA (h.room 30) b (off+i*2+1)=some (.int .u8 (.ofNat bw))/\∃cl:Nat,ea Tryz.prog 5 3 (.int .u8 (.ofNat bw)) (h.room 30)=fj.val (.int .i64 (.ofNat cl)) (h.room 30)/\∃cC:Nat,arith .rem .i64 (.ofNat cl) (.ofNat ix)=some (.int .i64 (.ofNat cC))/\cC<ix/\aA (h.room 30) hO (to+cC*1)=some .bc/\∃c5:Nat,∃dV:Nat,∃al:aa,gl Tryz.prog (aa.set (h.room 30) (h.n+27) (some (.cells [.str bV,.bc] 53 .own 0 0))) 22 (some 22) w (.slice (h.n+27) 0 1 (.exact 1))=some (.slice c5 0 dV (.aM 2),al)/\J.sound w=true/\aA (aa.set (h.room 30) (h.n+27) (some (.cells [.str bV,.bc] 53 .own 0 0))) b (off+i*2+0)=some (.str s1)/\aA (aa.set (h.room 30) (h.n+27) (some (.cells [.str bV,.bc] 53 .own 0 0))) b (off+i*2+0)=some (.str s2)/\iA jy (.int .i64 (.ofNat (List.length s2))) [.int .i64 (.ofNat 30)]=some (.int .i64 (.ofNat aQ))/\dR Tryz.prog (aa.set (h.room 30) (h.n+27) (some (.cells [.str bV,.bc] 53 .own 0 0))) 9 (.str s1) none (some (.int .i64 (.ofNat aQ))) none=some (.str bV)/\aA (aa.set (h.room 30) (h.n+27) (some (.cells [.str bV,.bc] 53 .own 0 0))) b (off+i*2+1)=some (.int .u8 (.ofNat bw))/\ea Tryz.prog 5 3 (.int .u8 (.ofNat bw)) (aa.set (h.room 30) (h.n+27) (some (.cells [.str bV,.bc] 53 .own 0 0)))=fj.val (.int .i64 (.ofNat cl)) (aa.set (h.room 30) (h.n+27) (some (.cells [.str bV,.bc] 53 .own 0 0)))/\aA (aa.set (h.room 30) (h.n+27) (some (.cells [.str bV,.bc] 53 .own 0 0))) hO (to+cC*1)=some .bc/\i+1<9223372036854775808/\Q .nrm (ar.mk [(0,.slice b off N aG),(3,.slice hO to ix m9),(4,.slice c5 0 dV (.aM 2)),(5,.int .i64 (.ofNat (i+1)))] [] .none al))/\(¬i<40->Q (.exit 0) (ar.mk [(0,.slice b off N aG),(3,.slice hO to ix m9),(4,w),(5,.int .i64 (.ofNat i))] [] .none h)))/\(¬i<N->Q (.exit 0) (ar.mk [(0,.slice b off N aG),(3,.slice hO to ix m9),(4,w),(5,.int .i64 (.ofNat i))] [] .none h))):
  bB Tryz.prog Tryz.f46 call [1,1,1,0,1,0,0] ⟨[(0,.slice b off N aG),(3,.slice hO to ix m9),(4,w),(5,.int .i64 (.ofNat i))],[],.none,h⟩ Q:=
 gN [(36,.bW (.n .u8)),(45,.bW (.ub (.aM 2))),(42,.bW (.is .bc))] [0,3,4,5] [(0,.v (.slice b off N aG)),(3,.v (.slice hO to ix m9)),(4,.o w),(5,.v (.int .i64 (.ofNat i)))] rfl (Eq.mp (by kernel_rfl) H)
theorem H9(call:aO->List J->aa->ax)(i:Nat)(v:J)(x:J)(w:J)(h:aa){Q:bK->ar->Prop}(H:∃aQ:Nat,cO Tryz.prog h 36 v=some (.int .i64 (.ofNat aQ))/\(i<aQ->¬i<40/\Q (.exit 0) (ar.mk [(4,w)] [] .none h))/\(¬i<aQ->Q (.exit 0) (ar.mk [(4,w)] [] .none h))):
  bB Tryz.prog Tryz.f46 call [1,1,1,0,1,0,0] ⟨[(0,v),(3,x),(4,w),(5,.int .i64 (.ofNat i))],[],.none,h⟩ Q:=
 gN [(1014,.f)] [4] [(0,.o v),(3,.o x),(4,.o w),(5,.v (.int .i64 (.ofNat i)))] rfl (Eq.mp (by kernel_rfl) H)
theorem abH(call:aO->List J->aa->ax)(p:List UInt8)(b:Bool)(vv:J)(vt:J)(h:aa){Q:bK->ar->Prop}(H:J.bF vv=true/\J.bF vt=true/\∃s1:List UInt8,aA (aa.room (aa.push (aa.push h (.cells [.str p,.bool b,vv,vt] 38 .own 0 0)) (.cells [.str [],.bool false,.az,.az] 24 .own 0 0)) 17) h.n (0+0)=some (.str s1)/\∃s2:List UInt8,aA (aa.room (aa.push (aa.push h (.cells [.str p,.bool b,vv,vt] 38 .own 0 0)) (.cells [.str [],.bool false,.az,.az] 24 .own 0 0)) 17) h.n (0+0)=some (.str s2)/\∃aQ:Nat,iA jy (.int .i64 (.ofNat (List.length s2))) [.int .i64 (.ofNat 50)]=some (.int .i64 (.ofNat aQ))/\∃bV:List UInt8,dR Tryz.prog (aa.room (aa.push (aa.push h (.cells [.str p,.bool b,vv,vt] 38 .own 0 0)) (.cells [.str [],.bool false,.az,.az] 24 .own 0 0)) 17) 9 (.str s1) none (some (.int .i64 (.ofNat aQ))) none=some (.str bV)/\∃bh:Bool,aA (aa.room (aa.push (aa.push h (.cells [.str p,.bool b,vv,vt] 38 .own 0 0)) (.cells [.str [],.bool false,.az,.az] 24 .own 0 0)) 17) h.n (0+1)=some (.bool bh)/\∃v1:J,aA (aa.room (aa.push (aa.push h (.cells [.str p,.bool b,vv,vt] 38 .own 0 0)) (.cells [.str [],.bool false,.az,.az] 24 .own 0 0)) 17) h.n (0+2)=some v1/\∃v2:J,∃al:aa,call (.fn 46) [v1] (aa.room (aa.push (aa.push h (.cells [.str p,.bool b,vv,vt] 38 .own 0 0)) (.cells [.str [],.bool false,.az,.az] 24 .own 0 0)) 17)=.ret v2 al/\∃dr:J,aA al h.n (0+3)=some dr/\∃v4:J,∃ak:aa,call (.fn 46) [dr] al=.ret v4 ak/\J.bF v2=true/\J.bF v4=true/\J.bF v2=true/\J.bF v4=true/\∃aS:aa,ay.storeCells ak (aa.n (aa.push h (.cells [.str p,.bool b,vv,vt] 38 .own 0 0))) 0 [.str bV,.bool bh,v2,v4]=some aS/\aA ak h.n (0+0)=some (.str s1)/\aA al h.n (0+0)=some (.str s1)/\aA ak h.n (0+0)=some (.str s2)/\aA al h.n (0+0)=some (.str s2)/\iA jy (.int .i64 (.ofNat (List.length s2))) [.int .i64 (.ofNat 50)]=some (.int .i64 (.ofNat aQ))/\iA jy (.int .i64 (.ofNat (List.length s2))) [.int .i64 (.ofNat 50)]=some (.int .i64 (.ofNat aQ))/\dR Tryz.prog ak 9 (.str s1) none (some (.int .i64 (.ofNat aQ))) none=some (.str bV)/\dR Tryz.prog al 9 (.str s1) none (some (.int .i64 (.ofNat aQ))) none=some (.str bV)/\aA ak h.n (0+1)=some (.bool bh)/\aA al h.n (0+1)=some (.bool bh)/\J.sound v1=true/\J.sound dr=true/\aA (aa.room (aa.push (aa.push h (.cells [.str p,.bool b,vv,vt] 38 .own 0 0)) (.cells [.str [],.bool false,.az,.az] 24 .own 0 0)) 17) h.n (0+3)=some dr/\J.sound v2=true/\J.sound v4=true/\Q .ret (ar.mk [(2,.ptr (aa.n (aa.push h (.cells [.str p,.bool b,vv,vt] 38 .own 0 0))) 0)] [] .none aS)):
  bB Tryz.prog Tryz.f16 call [] ⟨[(0,.agg [.str p,.bool b,vv,vt])],[],.none,h⟩ Q:=
 gN [] [2] [(0,.ej [.v (.str p),.v (.bool b),.o vv,.o vt])] rfl (Eq.mp (by kernel_rfl) H)
theorem tW(a b:Nat):iA jy (.int .i64 (Int.ofNat a)) [.int .i64 (Int.ofNat b)]=some (.int .i64 (Int.ofNat (min a b))):=by
 simp only[iA,jy,if_true]
 by_cases h:b<a
 · rw[if_pos (kj h),Nat.min_eq_right (by omega)]
 · rw[if_neg (by rw[mH h];simp),Nat.min_eq_left (by omega)]
theorem xf:Tryz.prog.underlying 9=some .string:=by kernel_rfl
theorem z1{h:aa}(k:Nat)(s:aL):dR Tryz.prog h 9 (.str s) none (some (.int .i64 (Int.ofNat (min s.length k)))) none=some (.str (s.take (min s.length k))):=yE xf (by omega)
theorem Dm(n:Nat)(aJ:n<256)(h:aa):ea Tryz.prog 5 3 (.int .u8 (Int.ofNat n)) h=.val (.int .i64 (Int.ofNat n)) h:=v3 (ka:=.u8) (by kernel_rfl) cW.CD (rF n (by omega))
theorem O8(a b:Nat)(ag:0<b):arith .rem .i64 (Int.ofNat a) (Int.ofNat b)=some (.int .i64 (Int.ofNat (a %b))):=by
 have ab:¬Int.ofNat b=0:=λh=>by have ae:(b:Int)=0:=h;omega
 simp only[arith]
 rw[if_neg ab]
 rfl
def ld(B:Nat)(h:aa)(v:J)(l:List (aL×Nat)):Prop:=(v=.az/\l=[])\/∃b off aG,v=.slice b off l.length aG/\b<B/\(∀i (af:i<l.length),aA h b (off+i*2+0)=some (.str l[i].1)/\aA h b (off+i*2+1)=some (.int .u8 (Int.ofNat l[i].2)))
theorem ld.ext{B:Nat}{h g:aa}{v:J}{l:List (aL×Nat)}(x:Ext B h g)(o:ld B h v l):ld B g v l:=by
 rcases o with o|⟨b,off,aG,ab,ae,av⟩
 · exact .inl o
 · exact .inr ⟨b,off,aG,ab,ae,λi af=>⟨hJ x ae (av i af).1,hJ x ae (av i af).2⟩⟩
theorem ld.le{B C:Nat}{h:aa}{v:J}{l:List (aL×Nat)}(e:B<=C)(o:ld B h v l):ld C h v l:=by
 rcases o with o|⟨b,off,aG,ab,ae,av⟩
 · exact .inl o
 · exact .inr ⟨b,off,aG,ab,by omega,av⟩
theorem ld.cell{B:Nat}{h:aa}{v:J}{l:List (aL×Nat)}(o:ld B h v l):v.bF=true:=by
 rcases o with⟨rfl,_⟩|⟨b,off,aG,rfl,_⟩<;>rfl
theorem ld.snd{B:Nat}{h:aa}{v:J}{l:List (aL×Nat)}(o:ld B h v l):J.sound v=true:=by
 rcases o with⟨rfl,_⟩|⟨b,off,aG,rfl,_⟩<;>rfl
noncomputable def lQ(x:aL×Nat):dQ:=(x.1.take (min x.1.length 30),va (x.2 %27))
noncomputable def iM(l:List (aL×Nat)):List dQ:=(l.take 40).map lQ
theorem sS(l:List (aL×Nat)):(iM l).length=min l.length 40:=by simp[iM,Nat.min_comm]
def sU:Option Nat->J
 |none=>.bc
 |some r=>.ptr r 0
def xg(d:aL×Option Nat):List J:=[.str d.1,sU d.2]
theorem O9:sa Tryz.prog xg 2 53 22:=⟨sP.hu,sP.gU,sP.info,sP.zero,sP.size,λd=>rfl,λd=>by
 obtain⟨a,b⟩:=d
 cases b<;>rfl,sP.pos⟩
theorem abI{a b:Nat}{h:aa}{ot:Option a3}{v:J}(aH:ha (ia a b) h ot v):∃u,v=sU u:=by
 rcases(ha.at (λd aq=>aq.2) _ _ aH).wE with rfl|⟨R,rfl⟩
 · exact⟨none,rfl⟩
 · exact⟨some R,rfl⟩
structure vb(A B:Nat)(l:List (aL×Nat))(i:Nat)(y:aa)(w:J)(aV:List (aL×Option Nat)):Prop where
 o:f_ xg 2 53 B y w aV
 n:aV.length=i
 d:∀j (aI:j<aV.length),∃aw:j<l.length,aV[j].1=(lQ l[j]).1/\ha (ia A B) y (lQ l[j]).2 (sU aV[j].2)
theorem vb.row{A B:Nat}{l:List (aL×Nat)}{i:Nat}{y:aa}{w:J}{aV:List (aL×Option Nat)}(p:vb A B l i y w aV)(af:i=min l.length 40)(jH:A<=B)(bN:B<=y.n):gR (ia A y.n) y w (iM l):=by
 have aJ:=p.n
 rcases p.o with⟨rfl,rfl⟩|⟨b,rfl,ae,av,aK,bU⟩
 · refine .inl ⟨rfl,?_⟩
   have:(iM l).length=0:=by rw[sS];simp at aJ;omega
   exact List.length_eq_zero_iff.1 this
 · refine .inr ⟨b,0,.aM 2,by rw[sS,<-af,aJ],⟨by omega,bU⟩,λj aI=>?_,by rw[sS];omega,by simp⟩
   rw[sS] at aI
   obtain⟨aw,aE,aC⟩:=p.d j (by omega)
   obtain⟨_,_,c8⟩:=f_.load O9 (.inr ⟨b,rfl,ae,av,aK,bU⟩:f_ xg 2 53 B y (.slice b 0 aV.length (.aM 2)) aV)
   have e:(iM l)[j]'(by rw[sS];omega)=lQ l[j]:=by simp[iM]
   rw[e]
   refine⟨sU aV[j].2,?_,ha.bM (λd aq=>⟨⟨aq.1,by omega⟩,rfl⟩) _ _ aC⟩
   rw[c8 j (by omega)]
   simp only[xg,aE]
theorem vb.add{A B:Nat}{l:List (aL×Nat)}{i:Nat}{y:aa}{w:J}{aV:List (aL×Option Nat)}(p:vb A B l i y w aV)(af:i<l.length)(z2:i<40)(bN:B<=y.n){u:Option Nat}(a2:ha (ia A B) y (lQ l[i]).2 (sU u)):
  ∃g,gl Tryz.prog ((y.room 30).set (y.n+27) (some (.cells [.str (lQ l[i]).1,sU u] 53 .own 0 0))) 22 (some 22) w (.slice (y.n+27) 0 1 (.exact 1))=some (.slice (y.n+30) 0 (i+1) (.aM 2),g)/\Ext B y g/\vb A B l (i+1) g (.slice (y.n+30) 0 (i+1) (.aM 2)) (aV++[((lQ l[i]).1,u)]):=by
 obtain⟨vc,z3⟩:∃vc,vc=(y.room 30).set (y.n+27) (some (.cells [.str (lQ l[i]).1,sU u] 53 .own 0 0)):=⟨_,rfl⟩
 have O_:vc.n=y.n+30:=by rw[z3];simp
 have iY:Ext y.n y vc:=by rw[z3];exact Ext.e3 (by omega) (Ext.room _ _ _)
 have abJ:Ext B y vc:=by rw[z3];exact Ext.e3 (by omega) (Ext.room _ _ _)
 have hs:hP vc 2 (.slice (y.n+27) 0 1 (.exact 1))=some (1,xg ((lQ l[i]).1,u)):=by
  have:ay.loadCells vc (y.n+27) 0 (1*2)=some [.str (lQ l[i]).1,sU u]:=by rw[z3];exact hq (dN rfl) rfl
  simp only[hP,this,xg]
 have aJ:=p.n
 obtain⟨g,e,al,eW,u1,nT⟩:=C3 O9 (B:=B) (d:=((lQ l[i]).1,u)) (f_.mono p.o iY (Nat.le_refl _)) (by omega) hs (by omega)
 rw[<-z3]
 rw[O_,List.length_append,List.length_singleton,aJ] at e
 have gr:Ext B y g:=abJ.trans (Nat.le_refl _) u1
 refine⟨g,e,gr,.inr ⟨y.n+30,by rw[List.length_append,List.length_singleton,aJ],by simp,by rw[<-O_];exact al,by omega,by omega⟩,by simp[aJ],λj aI=>?_⟩
 rw[List.length_append,List.length_singleton] at aI
 by_cases lV:j<aV.length
 · obtain⟨aw,aE,aC⟩:=p.d j lV
   rw[List.getElem_append_left lV]
   exact⟨aw,aE,ha.bM (λd aq=>⟨aq,gr.get d aq.2⟩) _ _ aC⟩
 · obtain rfl:j=i:=by omega
   rw[List.getElem_append_right (by omega)]
   refine⟨af,?_,?_⟩
   · simp
   · simp only[List.getElem_singleton]
     exact ha.bM (λd aq=>⟨aq,gr.get d aq.2⟩) _ _ a2
theorem Pa(m:Nat){B:Nat}{h:aa}{v:J}{l:List (aL×Nat)}(bN:B<=h.n)(aH:ld B h v l)(fG:∀x∈l,x.2<256):∃v' g,Y (m+2) (.fn 46) [v] h=.ret v' g/\Ext h.n h g/\gR (ia h.n g.n) g v' (iM l):=by
 obtain⟨hO,T,vs,hb,xT,st,adM,abK⟩:=abD m h
 have lv:=xT.n
 have abL:ld T.n T v l:=(aH.ext (xT.le bN)).le (by omega)
 obtain⟨abM,to,m9,iB,⟨_,H_⟩,g3,_,_⟩:∃b off aG,J.slice hO 0 27 (.aM 1)=.slice b off vs.length aG/\(h.n<=b/\b<T.n)/\(∀i (af:i<vs.length),aA T b (off+i*1)=some vs[i])/\0<vs.length/\aG≠ .dead:=by
  rcases st with⟨e,_⟩|e
  · cases e
  · exact e
 obtain⟨rfl,rfl,_,rfl⟩:hO=abM/\0=to/\27=vs.length/\cj.aM 1=m9:=by injection iB with a b c d;exact⟨a,b,c,d⟩
 refine abE (m+1) v h (R:=λx=>∃v' g,x=.ret v' g/\Ext h.n h g/\gR (ia h.n g.n) g v' (iM l)) ⟨hO,0,27,.aM 1,T,hb,?_⟩
 refine bB.loop (by kernel_rfl) (λk s=>∃i w aV y Γ,s=⟨Γ,[],.none,y⟩/\cZ [(0,v),(3,.slice hO 0 27 (.aM 1)),(4,w),(5,.int .i64 (Int.ofNat i))] Γ/\min l.length 40-i=k/\i<=min l.length 40/\Ext T.n T y/\vb h.n T.n l i y w aV) ?_ (min l.length 40) _ (by omega) ⟨0,.az,[],T,_,rfl,⟨rfl,rfl,rfl,rfl,trivial⟩,by omega,by omega,Ext.refl _ _,.inl ⟨rfl,rfl⟩,rfl,λj aI=>by simp at aI⟩
 rintro k s ⟨i,w,aV,y,Γ,rfl,dk,au,af,ad,a8⟩
 have abN:=ad.n
 have fin:i=min l.length 40->∀cA,cZ [(4,w)] cA->∃(v1:J) (ak:aa) (bD:Env),bK.exit 0=.exit 0/\(⟨cA,[],.none,y⟩:ar)=⟨bD,[],.none,ak⟩/\cZ [(4,v1)] bD/\∃v' g,ax.ret v1 ak=.ret v' g/\Ext h.n h g/\gR (ia h.n g.n) g v' (iM l):=λe cA ao=>⟨w,y,cA,rfl,rfl,ao,w,y,rfl,xT.trans (Nat.le_refl _) (ad.le (by omega)),a8.row e lv (by omega)⟩
 rcases abL with⟨rfl,rfl⟩|⟨b,off,aG,rfl,ag,lL⟩
 · refine bB.pre (H9 (Y (m+1)) i .az _ w y ⟨0,by rfl,λaj=>absurd aj (by omega),λ_=>fin (by simp at af⊢;omega) _ ⟨rfl,trivial⟩⟩) dk rfl rfl rfl
 · by_cases dL:i<l.length
   · by_cases z2:i<40
     · have ai:Ext T.n T (y.room 30):=ad.hI
       have rm:=hJ ai ag (lL i dL).1
       have bD:=hJ ai ag (lL i dL).2
       have hm:l[i].2 %27<vs.length:=by omega
       have Ia:=abK _ hm
       obtain⟨u,hu⟩:=abI Ia
       rw[hu] at Ia
       have lt:=hJ ai H_ (g3 _ hm)
       rw[hu] at lt
       have Dn:=fG l[i] (List.getElem_mem dL)
       obtain⟨g,gg,gr,aY⟩:=a8.add dL z2 abN (u:=u) (ha.bM (λd aq=>⟨aq,ad.get d aq.2⟩) _ _ Ia)
       have hs:∀o,Ext T.n T ((y.room 30).set (y.n+27) o):=λo=>Ext.e3 (by omega) ai
       have zh:∃j,j<k/\∃tB w aV dq Γ,(⟨[(0,.slice b off l.length aG),(3,.slice hO 0 27 (.aM 1)),(4,.slice (y.n+30) 0 (i+1) (.aM 2)),(5,.int .i64 (Int.ofNat (i+1)))],[],.none,g⟩:ar)=⟨Γ,[],.none,dq⟩/\cZ [(0,.slice b off l.length aG),(3,.slice hO 0 27 (.aM 1)),(4,w),(5,.int .i64 (Int.ofNat tB))] Γ/\min l.length 40-tB=j/\tB<=min l.length 40/\Ext T.n T dq/\vb h.n T.n l tB dq w aV:=⟨_,(by show min l.length 40-(i+1)<k;omega),i+1,_,_,g,_,rfl,⟨rfl,rfl,rfl,rfl,trivial⟩,rfl,by omega,ad.trans (Nat.le_refl _) gr,aY⟩
       cases u with
       |none=>exact bB.pre (abG (Y (m+1)) b off _ hO 0 27 i aG _ w y ⟨λ_=>⟨λ_=>⟨dL,_,rm,dL,_,rm,_,tW _ _,_,z1 _ _,dL,_,bD,_,Dm _ Dn _,_,O8 _ 27 (by omega),by omega,lt,_,_,g,gg,a8.o.sound,hJ (hs _) ag (lL i dL).1,hJ (hs _) ag (lL i dL).1,tW _ _,z1 _ _,hJ (hs _) ag (lL i dL).2,Dm _ Dn _,(hJ (hs _) H_ (g3 _ hm)).trans (by rw[hu];rfl),by omega,zh⟩,λaj=>absurd z2 aj⟩,λaj=>absurd dL aj⟩) dk rfl rfl rfl
       |some R=>exact bB.pre (abF (Y (m+1)) b off _ hO 0 27 i aG _ w y ⟨λ_=>⟨λ_=>⟨dL,_,rm,dL,_,rm,_,tW _ _,_,z1 _ _,dL,_,bD,_,Dm _ Dn _,_,O8 _ 27 (by omega),by omega,R,lt,_,_,g,gg,a8.o.sound,hJ (hs _) ag (lL i dL).1,hJ (hs _) ag (lL i dL).1,tW _ _,z1 _ _,hJ (hs _) ag (lL i dL).2,Dm _ Dn _,(hJ (hs _) H_ (g3 _ hm)).trans (by rw[hu];rfl),by omega,zh⟩,λaj=>absurd z2 aj⟩,λaj=>absurd dL aj⟩) dk rfl rfl rfl
     · refine bB.pre (H9 (Y (m+1)) i _ _ w y ⟨l.length,by rfl,λ_=>⟨z2,fin (by omega) _ ⟨rfl,trivial⟩⟩,λaj=>absurd dL aj⟩) dk rfl rfl rfl
   · refine bB.pre (H9 (Y (m+1)) i _ _ w y ⟨l.length,by rfl,λaj=>absurd aj dL,λ_=>fin (by omega) _ ⟨rfl,trivial⟩⟩) dk rfl rfl rfl
end Go.Proofs.cN
namespace Go.Proofs.cN
open Go ay Go.Proofs cS Go.Proofs.cf
set_option maxRecDepth 100000
set_option maxHeartbeats 1000000
theorem abO{Γ:Env}{y:aa}{a:Nat}{cs:List J}(HV:ay.loadCells y a 0 4=some cs)(ae:fy 2 Γ=some (.ptr a 0):=by kernel_rfl):k5 Tryz.prog (dh Tryz.f16) Tryz.f16 Γ y=some (.agg cs):=by
 have e:(Tryz.f16).results.toList=[.cell 2 24]:=by kernel_rfl
 have bf:Nat.testBit (dh Tryz.f16) 2=true:=by kernel_rfl
 have ak:lf Tryz.prog 24=some true:=by kernel_rfl
 have eS:dm Tryz.prog 24=some 4:=by kernel_rfl
 unfold k5
 rw[e]
 simp only[mn,oy,bf,ae,ak,eS,HV]
theorem Ib{p p':aL}{b b':Bool}{v w v' w':J}(aH:v.bF=true)(hw:w.bF=true):eP 0 [.str p,.bool b,v,w] [.str p',.bool b',v',w']=some [.str p,.bool b,v,w]:=vY [.str p,.bool b,v,w] _ (by simp[J.bF] at*;exact⟨aH,hw⟩) (Nat.le_refl _)
abbrev sV(p:aL)(b:Bool)(v w:J):b3:=.cells [.str p,.bool b,v,w] 38 .own 0 0
def cut(k:Nat)(p:aL):aL:=p.take (min p.length k)
noncomputable def z4(p:aL)(b:Bool)(dz lt:List (aL×Nat)):fN:=⟨cut 50 p,b,iM dz,iM lt⟩
structure m_(B:Nat)(h:aa)(vv vt:J)(dz lt:List (aL×Nat)):Prop where
 v:ld B h vv dz
 t:ld B h vt lt
 lI:∀x∈dz,x.2<256
 t8:∀x∈lt,x.2<256
theorem m_.ext{B:Nat}{h g:aa}{vv vt:J}{dz lt:List (aL×Nat)}(x:Ext B h g)(o:m_ B h vv vt dz lt):m_ B g vv vt dz lt:=⟨o.v.ext x,o.t.ext x,o.lI,o.t8⟩
theorem m_.le{B C:Nat}{h:aa}{vv vt:J}{dz lt:List (aL×Nat)}(e:B<=C)(o:m_ B h vv vt dz lt):m_ C h vv vt dz lt:=⟨o.v.le e,o.t.le e,o.lI,o.t8⟩
theorem gR.snd{F:Nat->Prop}{h:aa}{v:J}{l:List dQ}(ai:gR F h v l):J.sound v=true:=by rcases ai with⟨rfl,_⟩|⟨b,off,aG,rfl,_⟩<;>rfl
theorem Pb(m:Nat){B:Nat}{h:aa}{p:aL}{b:Bool}{vv vt:J}{dz lt:List (aL×Nat)}(bN:B<=h.n)(hm:m_ B h vv vt dz lt):∃v1 v2 g,Y (m+4) (.fn 16) [.agg [.str p,.bool b,vv,vt]] h=.ret (.agg [.str (cut 50 p),.bool b,v1,v2]) g/\Ext h.n h g/\gR (ia h.n g.n) g v1 (iM dz)/\gR (ia h.n g.n) g v2 (iM lt):=by
 obtain⟨di,gW⟩:∃x,x=h.push (sV p b vv vt):=⟨_,rfl⟩
 obtain⟨da,fM⟩:∃x,x=di.push (eV [] false .az .az):=⟨_,rfl⟩
 obtain⟨H,dG⟩:∃x,x=da.room 17:=⟨_,rfl⟩
 have aQ:di.n=h.n+1:=by rw[gW];rfl
 have j4:H.n=h.n+19:=by rw[dG];simp;rw[fM];simp;omega
 have fe:Ext h.n h H:=by rw[dG];refine Ext.hI ?_;rw[fM];refine Ext.jJ (by omega) ?_;rw[gW];exact Ext.push (Nat.le_refl _) _
 have aR:H.get h.n=some (sV p b vv vt):=by rw[dG];refine dX ?_;rw[fM];refine h6 (by omega) ?_;rw[gW];exact dA rfl
 have aT:H.get (h.n+1)=some (eV [] false .az .az):=by rw[dG];refine dX ?_;rw[fM];exact dA aQ.symm
 have Dp:m_ H.n H vv vt dz lt:=(hm.ext (fe.le bN)).le (by omega)
 obtain⟨na,al,c1,bj,ba⟩:=Pa (m+1) (Nat.le_refl _) Dp.v Dp.lI
 have Ic:=bj.n
 obtain⟨nb,ak,c2,bo,bt⟩:=Pa (m+1) Ic (Dp.t.ext bj) Dp.t8
 have qX:=bo.n
 have gi:∀d,d<H.n->al.get d=H.get d:=λd aq=>bj.get d aq
 have dq:∀d,d<H.n->ak.get d=H.get d:=λd aq=>(bo.get d (by omega)).trans (gi d aq)
 obtain⟨aS,hh⟩:∃aS,aS=ak.set (h.n+1) (some (eV (cut 50 p) b na nb)):=⟨_,rfl⟩
 have bV:ay.storeCells ak (h.n+1) 0 [.str (cut 50 p),.bool b,na,nb]=some aS:=by rw[hh];exact dY ((dq _ (by omega)).trans aT) rfl (Ib ba.cell bt.cell)
 have cl:aS.n=ak.n:=by rw[hh];simp
 have c8:∀d,d≠h.n+1->aS.get d=ak.get d:=λd aq=>by rw[hh];exact eh aq rfl
 have res:Ext h.n h aS/\gR (ia h.n aS.n) aS na (iM dz)/\gR (ia h.n aS.n) aS nb (iM lt):=by
  refine⟨⟨by omega,λd aq=>(c8 d (by omega)).trans ((dq d (by omega)).trans (fe.get d aq))⟩,?_,?_⟩
  · exact gR.bM (λd aq=>⟨⟨by omega,by omega⟩,(c8 d (by omega)).trans (bo.get d aq.2)⟩) ba
  · exact gR.bM (λd aq=>⟨⟨by omega,by omega⟩,c8 d (by omega)⟩) bt
 have Ie:=tW p.length 50
 have ih:∀g:aa,dR Tryz.prog g 9 (.str p) none (some (.int .i64 (Int.ofNat (min p.length 50)))) none=some (.str (cut 50 p)):=λg=>z1 50 p
 refine⟨na,nb,aS,?_,res⟩
 refine Lv (R:=λx=>x=.ret (.agg [.str (cut 50 p),.bool b,na,nb]) aS) (intr:=b7) (n:=m+3) (args:=[.agg [.str p,.bool b,vv,vt]]) Tryz.func16 (by kernel_rfl) (by kernel_rfl) (by kernel_rfl) (Q:=λe st=>e=.ret/\st=⟨[(2,.ptr (h.n+1) 0)],[],.none,aS⟩) (abH (Y (m+3)) p b vv vt h ?_) λe st a1=>?_
 · subst dG
   subst fM
   subst gW
   exact⟨hm.v.cell,hm.t.cell,p,aB aR rfl,p,aB aR rfl,_,Ie,_,ih _,b,aB aR rfl,vv,aB aR rfl,na,al,c1,vt,aB ((gi _ (by omega)).trans aR) rfl,nb,ak,c2,ba.cell,bt.cell,ba.cell,bt.cell,aS,bV,aB ((dq _ (by omega)).trans aR) rfl,aB ((gi _ (by omega)).trans aR) rfl,aB ((dq _ (by omega)).trans aR) rfl,aB ((gi _ (by omega)).trans aR) rfl,Ie,Ie,ih _,ih _,aB ((dq _ (by omega)).trans aR) rfl,aB ((gi _ (by omega)).trans aR) rfl,hm.v.snd,hm.t.snd,aB aR rfl,ba.snd,bt.snd,rfl,rfl⟩
 · obtain⟨rfl,rfl⟩:=a1
   exact .inl ⟨.inl rfl,rfl,_,abO (hq (by rw[hh];exact dN rfl) rfl),rfl⟩
end Go.Proofs.cN
namespace Go.Proofs.cN
open Go ay Go.Proofs cS Go.Proofs.cf
set_option maxRecDepth 100000
set_option maxHeartbeats 1000000
theorem Pc(m:Nat)(h:aa):Y (m+1) (.fn 12) [] h=.ret (.bool true) h:=by
 have e:b7 12 [] h=some (.bool true,h):=by kernel_rfl
 show e_ Tryz.prog b7 (m+1) _ _ _=_
 simp only[e_,e]
theorem Pd{k:Nat}:∀l:List aL,(∀x∈l,x.length<=k)->l.flatten.length<=l.length*k
 |[],_=>by simp
 |x::l,h=>by
  have ab:=h x (by simp)
  have ae:=Pd l λy a6=>h y (by simp[a6])
  rw[List.flatten_cons,List.length_append,List.length_cons,Nat.succ_mul]
  omega
theorem Pe(l:List (aL×Nat)):(k_ (iM l)).length<=20000:=by
 unfold k_
 have ab:=cW.wR (iM l).length
 have ae:=Pd (k:=450) ((iM l).map ei) λx ad=>by
  obtain⟨e,he,rfl⟩:=List.mem_map.1 ad
  obtain⟨y,_,rfl⟩:=List.mem_map.1 he
  have av:=cW.NH (lQ y).1
  have aK:=(O7 (y.2 %27)).2
  have bU:(lQ y).1.length<=30:=by simp only[lQ,List.length_take];omega
  unfold ei
  rw[List.length_append]
  have cB:(lQ y).2=va (y.2 %27):=rfl
  rw[cB]
  omega
 rw[List.length_map,sS] at ae
 rw[List.length_append]
 have:min l.length 40*450<=40*450:=Nat.mul_le_mul_right _ (by omega)
 omega
theorem Pf(p:aL)(b:Bool)(dz lt:List (aL×Nat)):(e7 (z4 p b dz lt)).length<=41000:=by
 have aY:(cut 50 p).length<=50:=by simp only[cut,List.length_take];omega
 have ab:=cW.NH (cut 50 p)
 have ae:=Pe dz
 have av:=Pe lt
 have aK:=cW.wR 0
 have bU:=cW.wR 1
 show(cW.dC (cut 50 p)++(if b then ed.cM 1 else ed.cM 0++(k_ (iM dz)++k_ (iM lt)))).length<=_
 rw[List.length_append]
 split
 · omega
 · rw[List.length_append,List.length_append];omega
theorem Pg(p:aL)(b:Bool)(dz lt:List (aL×Nat)):la (z4 p b dz lt)/\(e7 (z4 p b dz lt)).length<=1000000:=by
 have iN:∀l,∀e∈iM l,fit e.2:=λl e he=>by
  obtain⟨y,_,rfl⟩:=List.mem_map.1 he
  exact(O7 (y.2 %27)).1
 have aY:(cut 50 p).length<=50:=by simp only[cut,List.length_take];omega
 refine⟨⟨by show(cut 50 p).length<=_;omega,by show(iM dz).length<=_;rw[sS];omega,by show(iM lt).length<=_;rw[sS];omega,iN dz,iN lt⟩,Nat.le_trans (Pf p b dz lt) (by omega)⟩
end Go.Proofs.cN
namespace Go.Proofs.cN
open Go ay Go.Proofs cS Go.Proofs.cf Go.ChangeShapes Go.WideShapes Go.ChangeAt Go.RowKit Go.ChangeMaps
set_option maxRecDepth 100000
set_option maxHeartbeats 1000000
theorem Ph{W:World}{a:Addr}{m j:Nat}{v:Value}(h:W.cell? ((a.add m).add j)=some v):∃c el fz,W.heap[a.block]? =some (.cells c el fz)/\c[a.off+m+j]? =some v/\(m=0->j=0->a.spot=none):=by
 have ag:((a.add m).add j).block=a.block:=by
  unfold Addr.add
  split<;>split<;>rfl
 have a8:((a.add m).add j).off=a.off+m+j:=by
  unfold Addr.add
  split<;>split<;>simp_all
 unfold World.cell? at h
 rw[ag,a8] at h
 split at h
 · rename_i c el fz ad
   split at h
   · cases h
   · rename_i hs
     refine⟨c,el,fz,ad,h,λab ae=>?_⟩
     subst ab;subst ae
     simpa[Addr.add] using hs
 · cases h
def vd(rows:List (eX×List J×Nat))(μ:bl)(h:aa)(B:Nat):Prop:=∀(k:Nat) (x:eX×List J×Nat),rows[k]? =some x->μ (B+k)=some x.1/\h.get (B+k)=some (.cells x.2.1 x.2.2 .ro 0 0)/\B+k<h.n
theorem Pj{ba bt:List (eX×List J×Nat)}{μ:bl}{h:aa}{B:Nat}(ai:vd (ba++bt) μ h B):vd ba μ h B/\vd bt μ h (B+ba.length):=by
 refine⟨λk x au=>ai k x ?_,λk x au=>?_⟩
 · rw[List.getElem?_append_left (List.getElem?_eq_some_iff.1 au).1];exact au
 · have:=ai (ba.length+k) x (by rw[List.getElem?_append_right (by omega),Nat.add_sub_cancel_left];exact au)
   rw[Nat.add_assoc];exact this
theorem abP{rows:List (eX×List J×Nat)}:vd rows (r8 Tryz.prog.globals.size (rows.map (·.1))) (tI Tryz.prog.globals.size (rows.map (·.2))) Tryz.prog.globals.size:=by
 intro k x au
 refine⟨T7 au,T8 au,?_⟩
 have:=(List.getElem?_eq_some_iff.1 au).1
 rw[E5,List.length_map];omega
theorem abQ{P:Program}{W:World}{base:Nat}{t e:TypeId}(a2:P.underlying t=some (.slice e)){a:Addr}{len cap:Nat}(h:Cell.okWide P W .any base t (.slice (some a) len cap)):∃c el fz,W.heap[a.block]? =some (.cells c el fz):=by
 simp only[Cell.okWide,a2,Cell.ok] at h
 obtain⟨_,_,_,_,row,cells,hs,_⟩:=h
 unfold World.shape? at hs
 cases ag:W.heap[a.block]? with
 |none=>simp[ag] at hs
 |some o=>
  rw[ag] at hs
  cases o with
  |cells c el fz=>exact⟨c,el,fz,rfl⟩
  |_=>cases hs
theorem Pk{P:Program}{W:World}{r:Reach}{base u e:Nat}{v:Value}(hu:P.underlying u=some (.slice e))(h:Cell.okWide P W r base u v):∃a len cap,v=.slice a len cap:=by
 simp only[Cell.okWide,hu] at h
 cases v<;>simp_all [Cell.ok]
theorem abR{P:Program}{W:World}{r:Reach}{base u:Nat}{v:Value}(hu:P.underlying u=some .bool)(h:Cell.okWide P W r base u v):∃b,v=.bool b:=by
 simp only[Cell.okWide,hu] at h
 cases v<;>simp_all [Cell.ok]
theorem Pl{x y:J}:∀(o:Nat) (cs:List J),takeN 2 (iO o cs)=some [x,y]->nth o cs=some x/\nth (o+1) cs=some y
 |0,[],h=>by cases h
 |0,[a],h=>by cases h
 |0,a::b::l,h=>by cases h;exact⟨rfl,rfl⟩
 |o+1,[],h=>by cases h
 |o+1,a::l,h=>Pl o l h
theorem abS{h:aa}{b o:Nat}{x y:J}(aw:ay.loadCells h b o 2=some [x,y]):aA h b (o+0)=some x/\aA h b (o+1)=some y:=by
 unfold ay.loadCells at aw
 unfold aA
 split at aw
 · exact Pl o _ aw
 · cases aw
def z5(d:aL×Nat):List J:=[.str d.1,.int .u8 (Int.ofNat d.2)]
def z6(d:aL×Nat):List Value:=[.string ⟨d.1.toArray⟩,.int .u8 (Int.ofNat d.2)]
theorem Dq:Tryz.prog.underlying 36=some (.slice 117):=by kernel_rfl
theorem abT:∃f0 f1:Field,Tryz.prog.underlying 117=some (.struct #[f0,f1])/\f0.type=9/\f1.type=5/\f0.offset=0/\f1.offset=1:=by
 obtain⟨ct,nr⟩:∃ct,Tryz.prog.underlying 117=some (.struct ct):=by
  have:(match Tryz.prog.underlying 117 with|some (.struct _)=>true|_=>false)=true:=by kernel_rfl
  revert this
  cases Tryz.prog.underlying 117 with
  |none=>intro h;cases h
  |some d=>cases d<;>intro h<;>first|exact⟨_,rfl⟩|cases h
 have k:(match Tryz.prog.underlying 117 with|some (.struct ct)=>ct.toList.map λf=>(f.type,f.offset)|_=>[])=[(9,0),(5,1)]:=by kernel_rfl
 rw[nr] at k
 simp only at k
 obtain⟨l⟩:=ct
 match l,k with
 |[f0,f1],k=>
  simp only[List.map_cons,List.map_nil,List.cons.injEq,Prod.mk.injEq] at k
  exact⟨f0,f1,nr,k.1.1,k.2.1.1,k.1.2,k.2.1.2⟩
theorem Pm{H:Type}{enc:TypeId×Value->H}{W:World}{sp:Nat->Bool}{held:Bool}{fuel:Nat}{m2:Option Addr}{len cap:Nat}{x:DataW H×List MemPlace}(h:DataW.trod enc Tryz.prog W 0 sp held fuel 36 [.slice m2 len cap]=some x):
  (m2=none/\len=0/\cap=0)\/∃a,m2=some a/\len<=cap/\∃aV:List (aL×Nat),aV.length=len/\(∀d∈aV,d.2<256)/\∀i (af:i<aV.length) (j:Nat) (v:Value),(z6 aV[i])[j]? =some v->W.cell? ((a.add (i*2)).add j)=some v:=by
 have ow:Tryz.prog.cellsOf 117=2:=by kernel_rfl
 have abU:Tryz.prog.cellsOf 9=1:=by kernel_rfl
 have pe:Tryz.prog.cellsOf 5=1:=by kernel_rfl
 have q5:Tryz.prog.underlying 5=some (.int .u8):=by kernel_rfl
 rcases DataW.trod_slice Dq h with⟨h0,_⟩|⟨a,adN,Kr,elems,rest,n,_,h0,_,ag,aw,hm,hlen,xQ,_,_⟩
 · cases h0;exact .inl ⟨rfl,rfl,rfl⟩
 · cases h0
   right
   refine⟨a,rfl,aw,?_⟩
   have each:∀i,i<len->∃d:aL×Nat,d.2<256/\W.cells? 0 (a.add (i*2)) 2=some (z6 d):=by
    intro i af
    have he:=xQ i af
    rw[List.getElem?_eq_getElem (by omega),ow,Option.bind_eq_some_iff] at he
    obtain⟨cs,iR,a6⟩:=he
    obtain⟨f0,f1,hs,t0,t1,gx,cT⟩:=abT
    obtain⟨adO,gi,k,_,hd,te,bz⟩:=trod_struct2 hs a6
    rw[ow] at hd
    obtain⟨v0,v1,rfl⟩:∃v0 v1,cs=[v0,v1]:=by
     match cs,hd with
     |[v0,v1],_=>exact⟨v0,v1,rfl⟩
    rw[t0,gx,abU] at te
    rw[t1,cT,pe] at bz
    obtain⟨s,dW,_,_⟩:=DataW.trod_string xf te
    obtain⟨dI,aE,_,hw⟩:=DataW.trod_int q5 bz
    have abV:v0=.string s:=by simpa using dW
    have xX:v1=.int .u8 dI:=by simpa using aE
    simp only[Lit.wf,Bool.and_eq_true,decide_eq_true_eq] at hw
    have cE:IntKind.u8.min=0:=rfl
    have hB:IntKind.u8.max=255:=rfl
    rw[cE,hB] at hw
    refine⟨(s.data.toList,dI.toNat),by show dI.toNat<256;omega,?_⟩
    rw[iR,abV,xX]
    have:dI=Int.ofNat dI.toNat:=by show dI=(dI.toNat:Int);omega
    rw[this]
    rfl
   let f:Nat->aL×Nat:=λi=>if af:i<len then(each i af).choose else([],0)
   have hf:∀i (af:i<len),f i=(each i af).choose:=λi af=>by simp[f,af]
   refine⟨(List.range len).map f,by simp,λd aq=>?_,λi af j v aH=>?_⟩
   · obtain⟨i,af,rfl⟩:=List.mem_map.1 aq
     have eQ:i<len:=by simpa using af
     rw[hf i eQ]
     exact(each i eQ).choose_spec.1
   · have eQ:i<len:=by simpa using af
     have e:((List.range len).map f)[i]=(each i eQ).choose:=by rw[<-hf i eQ];simp
     rw[e] at aH
     have iR:=(each i eQ).choose_spec.2
     have aI:j<2:=by
      have:=(List.getElem?_eq_some_iff.1 aH).1
      simpa[z6] using this
     have:=World.cells?_some iR
     exact(this.2.2 j aI).trans aH
theorem abW(μ:bl)(d:aL×Nat)(t:Nat)(a:J)(u:Value)(h:(z5 d)[t]? =some a)(hu:(z6 d)[t]? =some u):bd μ a u:=by
 match t,h,hu with
 |0,h,hu=>cases h;cases hu;exact⟨_,rfl,rfl⟩
 |1,h,hu=>cases h;cases hu;exact rfl
 |t+2,h,hu=>cases h
theorem abX{H:Type}{enc:TypeId×Value->H}{W:World}{sp:Nat->Bool}{held:Bool}{fuel:Nat}{m2:Option Addr}{len cap:Nat}{x:DataW H×List MemPlace}(h:DataW.trod enc Tryz.prog W 0 sp held fuel 36 [.slice m2 len cap]=some x)(h0:len≠0):
  ∃aV rows,(∀d∈aV,d.2<256)/\(∀x∈rows,yr W x.1 x.2.1 x.2.2)/\∀B,∃v,∀(μ:bl) (h:aa),vd rows μ h B->ld h.n h v aV/\bd μ v (.slice m2 len cap):=by
 rcases Pm h with⟨_,e,_⟩|⟨a,rfl,hle,aV,aw,fG,ah⟩
 · exact absurd e h0
 · obtain⟨c,el,fz,ag,mu,hs⟩:=Ph (ah 0 (by omega) 0 _ rfl)
   have Pn:=hs (by omega) rfl
   have hle:a.off<=c.size:=by
    have:=(Array.getElem?_eq_some_iff.1 mu).1;omega
   refine⟨aV,[(⟨a.block,a.off,c.size-a.off⟩,fU z5 aV,el)],fG,λx ad=>?_,λB=>⟨.slice B 0 len (.exact cap),λμ h ai=>?_⟩⟩
   · obtain rfl:x=_:=by simpa using ad
     refine⟨c,fz,ag,λμ t v aH=>?_,by simp;omega⟩
     have uL:(aV.flatMap z5)[t]? =some v:=aH
     rw[FC (w:=2) λd=>rfl] at uL
     split at uL
     · rename_i a2
       have af:t/2<aV.length:=Nat.div_lt_of_lt_mul (by rw[Nat.mul_comm];exact a2)
       rw[List.getElem?_eq_getElem af] at uL
       have u9:(z5 aV[t/2])[t %2]? =some v:=uL
       have aI:t %2<(z6 aV[t/2]).length:=by
        show t %2<2
        omega
       obtain⟨c',rK,adP,iF,ad,_⟩:=Ph (ah (t/2) af (t %2) _ (List.getElem?_eq_getElem aI))
       rw[ag] at iF
       cases iF
       have e:a.off+t/2*2+t %2=a.off+t:=by omega
       rw[e] at ad
       exact⟨_,ad,abW _ _ _ _ _ u9 (List.getElem?_eq_getElem aI)⟩
     · cases uL
   · obtain⟨ab,ae,av⟩:=ai 0 _ rfl
     simp only[Nat.add_zero] at ae
     refine⟨.inr ⟨B,0,.exact cap,by rw[aw],av,λi af=>abS (FE (enc:=z5) (w:=2) (rest:=[]) (λ_=>rfl) (by rw[List.append_nil];exact ae) af (by omega))⟩,⟨_,ab,?_⟩⟩
     obtain⟨bg,off,spot⟩:=a
     simp only at Pn
     subst Pn
     rfl
theorem Po{H:Type}{enc:TypeId×Value->H}{W:World}{sp:Nat->Bool}{held:Bool}{fuel base:Nat}{m2:Option Addr}{len cap:Nat}{x:DataW H×List MemPlace}(h:DataW.trod enc Tryz.prog W 0 sp held fuel 36 [.slice m2 len cap]=some x)
  (cR:Cell.okWide Tryz.prog W .any base 36 (.slice m2 len cap)):
  ∃aV rows,(∀d∈aV,d.2<256)/\(∀x∈rows,yr W x.1 x.2.1 x.2.2)/\∀(μ:bl) (h:aa) (B:Nat),vd rows μ h B->∃v,ld h.n h v aV/\bd μ v (.slice m2 len cap):=by
 by_cases h0:len=0
 · subst h0
   rcases Pm h with⟨rfl,_,rfl⟩|⟨a,rfl,_⟩
   · exact⟨[],[],by simp,by simp,λμ h B _=>⟨.az,.inl ⟨rfl,rfl⟩,rfl⟩⟩
   · obtain⟨c,el,fz,ag⟩:=abQ Dq cR
     refine⟨[],[(⟨a.block,0,c.size⟩,[],el)],by simp,λx ad=>?_,λμ h B ai=>?_⟩
     · have:x=(⟨a.block,0,c.size⟩,[],el):=by simpa using ad
       subst this
       exact⟨c,fz,ag,λμ j v aI=>by simp at aI,Nat.zero_add _⟩
     · obtain⟨ab,ae,av⟩:=ai 0 _ rfl
       exact⟨.slice B 0 0 .dead,.inr ⟨B,0,.dead,rfl,av,λi af=>by simp at af⟩,⟨_,ab,rfl,a,cap,rfl⟩⟩
 · obtain⟨aV,rows,ab,ae,av⟩:=abX h h0
   exact⟨aV,rows,ab,ae,λμ h B ai=>let⟨v,k⟩:=av B;⟨v,k μ h ai⟩⟩
theorem abY:∃f0 f1 f2 f3:Field,Tryz.prog.underlying 38=some (.struct #[f0,f1,f2,f3])/\f2.type=36/\f3.type=36/\f2.offset=2/\f3.offset=3:=by
 obtain⟨ct,nr⟩:∃ct,Tryz.prog.underlying 38=some (.struct ct):=by
  have:(match Tryz.prog.underlying 38 with|some (.struct _)=>true|_=>false)=true:=by kernel_rfl
  revert this
  cases Tryz.prog.underlying 38 with
  |none=>intro h;cases h
  |some d=>cases d<;>intro h<;>first|exact⟨_,rfl⟩|cases h
 have k:(match Tryz.prog.underlying 38 with|some (.struct ct)=>ct.toList.map λf=>(f.type,f.offset)|_=>[])=[(9,0),(4,1),(36,2),(36,3)]:=by kernel_rfl
 rw[nr] at k
 simp only at k
 obtain⟨l⟩:=ct
 match l,k with
 |[f0,f1,f2,f3],k=>
  simp only[List.map_cons,List.map_nil,List.cons.injEq,Prod.mk.injEq] at k
  exact⟨f0,f1,f2,f3,nr,k.2.2.1.1,k.2.2.2.1.1,k.2.2.1.2,k.2.2.2.1.2⟩
theorem Pp{H:Type}{enc:TypeId×Value->H}{W:World}{base:Nat}{sp:Nat->Bool}{held:Bool}{fuel:Nat}{v:Value}{x:DataW H×List MemPlace}(aH:Value.okWide Tryz.prog W .any base 38 v)(h:DataW.trod enc Tryz.prog W 0 sp held fuel 38 v.cells.toList=some x):
  ∃(p:aL) (b:Bool) (dz lt:List (aL×Nat)) (rows:List (eX×List J×Nat)),(∀x∈rows,yr W x.1 x.2.1 x.2.2)/\
   ∀(μ:bl) (h:aa) (B:Nat),vd rows μ h B->∃w d,m_ h.n h w d dz lt/\bd μ (.agg [.str p,.bool b,w,d]) v:=by
 obtain⟨cs,rfl,aw,ah⟩:=T9 (ts:=[9,4,36,36]) (by kernel_rfl) (by kernel_rfl) (by kernel_rfl) aH
 obtain⟨gQ,c1,c2,c3,rfl⟩:∃gQ c1 c2 c3,cs=[gQ,c1,c2,c3]:=by
  match cs,aw with
  |[gQ,c1,c2,c3],_=>exact⟨gQ,c1,c2,c3,rfl⟩
 obtain⟨s,rfl⟩:=Ua xf (ah 0 gQ _ rfl rfl)
 obtain⟨b,rfl⟩:=abR (u:=4) (by kernel_rfl) (ah 1 c1 _ rfl rfl)
 have bA:=ah 2 c2 _ rfl rfl
 have c8:=ah 3 c3 _ rfl rfl
 obtain⟨eu,bT,da,rfl⟩:=Pk Dq bA
 obtain⟨jj,fu,kD,rfl⟩:=Pk Dq c8
 obtain⟨f0,f1,f2,f3,hs,t2,t3,dE,abZ⟩:=abY
 have an:DataW.trod enc Tryz.prog W 0 sp held fuel 38 [.string s,.bool b,.slice eu bT da,.slice jj fu kD]=some x:=h
 obtain⟨xs,m,_,_,_,h2,hf⟩:=DataW.trod_struct hs an
 have ak:=hf 2 f2 rfl
 have aS:=hf 3 f3 rfl
 have adQ:xs.length=4:=h2
 rw[List.getElem?_eq_getElem (by omega),t2,dE,(by kernel_rfl:Tryz.prog.cellsOf 36=1)] at ak
 rw[List.getElem?_eq_getElem (by omega),t3,abZ,(by kernel_rfl:Tryz.prog.cellsOf 36=1)] at aS
 obtain⟨dz,ba,gv,aR,aT⟩:=Po ak bA
 obtain⟨lt,bt,bP,eR,ll⟩:=Po aS c8
 refine⟨s.data.toList,b,dz,lt,ba++bt,λx ad=>?_,λμ h B ai=>?_⟩
 · rcases List.mem_append.1 ad with ad|ad
   · exact aR x ad
   · exact eR x ad
 · obtain⟨aE,aC⟩:=Pj ai
   obtain⟨w,dI,eS⟩:=aT μ h B aE
   obtain⟨d,kg,ab0⟩:=ll μ h _ aC
   exact⟨w,d,⟨dI,kg,gv,bP⟩,⟨_,rfl,_,_,rfl,⟨s,rfl,rfl⟩,_,_,rfl,rfl,_,_,rfl,eS,_,_,rfl,ab0,rfl⟩⟩
end Go.Proofs.cN
