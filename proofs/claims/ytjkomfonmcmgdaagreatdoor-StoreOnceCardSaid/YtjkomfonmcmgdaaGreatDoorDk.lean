/-
  PROVED HERE: contracts of functions (Dk). No condition beside each statement's own.
-/
import Derived.Test.YtjkomfonmcmgdaaGreatDoorDj
set_option linter.unusedVariables false
set_option linter.unusedSimpArgs false
set_option maxRecDepth 100000
set_option maxHeartbeats 1000000
namespace Go.Proofs.jj
open Go bt Go.Proofs hy Go.Proofs.jk
theorem acG(m p:Nat)(h:J){R:a9->Prop}(H:a4 Tryz.prog Tryz.f22 (Y m) [1,1,0] (ah.mk [(1,.ptr h.n 0),(2,.fn 40 [] [.ptr h.n 0])] [] .none (J.push h (.cells [.ptr p 0] 23 .own 0 0))) (λb9 cf=>((∃ai:J,∃bw:Env,b9=.exit 0/\cf=ah.mk bw [] .none ai/\cd [] bw/\R (.ret (.aO []) ai))\/(∃au:J,∃bV:Env,b9=.ret/\cf=ah.mk bV [] .none au/\cd [] bV/\R (.ret (.aO []) au))))):
  R (Y (m+1) (.fn 22) [.ptr p 0] h):=
 dQ (intr:=b3) [(4000,.gO [1,2] [(.exit 0,[]),(.ret,[])])] [(0,.v (.ptr p 0))] Tryz.func22 (by kernel_rfl) (by kernel_rfl) (by kernel_rfl) rfl (Eq.mp (by kernel_rfl) H)
theorem acH(call:aP)(c a5 bX:Nat)(h:J){Q:bu->ah->Prop}(H:∃aE:Nat,ar (h.room 10) c 0=some (.ptr aE 0)/\ar (h.room 10) aE (0+3)=some (.map a5)/\∃bf:Nat,cl Tryz.prog (h.room 10) 55 (.map a5)=some (.int .i64 (.ofNat bf))/\∃bH:Nat,ar (h.room 10) c 0=some (.ptr bH 0)/\∃bU:Nat,ar (h.room 10) bH (0+0)=some (.int .i64 (.ofNat bU))/\(bU<bf->∃b_:Nat,∃ai:J,call (.fn 40) [.ptr c 0] (h.room 10)=.ret (.int .u64 (.ofNat b_)) ai/\(b_=0->Q .ret (ah.mk [(1,.ptr c 0),(2,.fn 40 [] [.ptr c 0])] [] .none ai))/\(¬b_=0->∃cv:Nat,ar ai c 0=some (.ptr cv 0)/\ar ai cv (0+3)=some (.map a5)/\∃c4:Nat,hO Tryz.prog ai 55 (.map a5) (.int .u64 (.ofNat b_)) false=some (.ptr c4 0)/\∃eo:Nat,ar ai c 0=some (.ptr eo 0)/\∃au:J,call (.fn 41) [.ptr eo 0,.ptr c4 0,.int .i64 (.negSucc 0)] ai=.ret (.aO []) au/\∃eG:Nat,ar (au.room 9) c 0=some (.ptr eG 0)/\ar (au.room 9) eG (0+4)=some (.map bX)/\∃fK:Nat,∃s1:List UInt8,∃s2:List UInt8,∃bN:List UInt8,∃im:Nat,bt.loadCells (au.room 9) c4 (0+0) 5=some [.int .i64 (.ofNat fK),.str s1,.str s2,.str bN,.int .u64 (.ofNat im)]/\∃ay:J,pP Tryz.prog (au.room 9) 56 (.map bX) (.agg [.int .i64 (.ofNat fK),.str s1,.str s2,.str bN,.int .u64 (.ofNat im)])=some (.aO [],ay)/\∃gQ:Nat,ar ay c 0=some (.ptr gQ 0)/\ar ay gQ (0+3)=some (.map a5)/\∃bg:J,pP Tryz.prog ay 55 (.map a5) (.int .u64 (.ofNat b_))=some (.aO [],bg)/\Q .nrm (ah.mk [(1,.ptr c 0),(2,.fn 40 [] [.ptr c 0])] [] .none bg)))/\(¬bU<bf->Q (.exit 0) (ah.mk [(1,.ptr c 0),(2,.fn 40 [] [.ptr c 0])] [] .none (h.room 10)))):
  a4 Tryz.prog Tryz.f22 call [1,1,0,0] ⟨[(1,.ptr c 0),(2,.fn 40 [] [.ptr c 0])],[],.none,h⟩ Q:=
 dF [(9,.bq (.is (.map a5))),(23,.bq (.is (.map a5))),(32,.bq (.is (.map bX))),(40,.bq (.is (.map a5))),(25,.bq .p)] [1,2] [(1,.v (.ptr c 0)),(2,.v (.fn 40 [] [.ptr c 0]))] rfl (Eq.mp (by kernel_rfl) H)
structure xJ(l:List cc)(M:List Mem):Prop where
 e:M.map Mem.e=l
 ao:∀x∈M,x.ao=Int.ofNat (eM x.e.id l)
def nZ(l:List cc)(x:Mem):eb:=⟨x.e.id,x.b,x.e.pins,eM x.e.id l,x.e.used,x.dA⟩
theorem Pl{h:J}{f:Mem->eb}:∀{M:List Mem},(∀x∈M,sY h (h5 x)=some (f x))->uZ h (M.map h5)=some (M.map f)
 |[],_=>rfl
 |x::M,ab=>by
  rw[List.map_cons,uZ,ab x (List.mem_cons_self ..),Pl λy aU=>ab y (List.mem_cons_of_mem _ aU)];rfl
theorem Dx:∀{l:List Nat},l.Pairwise (· ≠ ·)->mU l=true
 |[],_=>rfl
 |a::l,h=>by
  rw[List.pairwise_cons] at h
  have:(l.any λx=>Nat.beq a x)=false:=List.any_eq_false.2 λx ab=>by
   intro e
   exact h.1 x ab (Nat.eq_of_beq_eq_true e)
  rw[mU,this]
  exact Dx h.2
theorem Dy{l:List cc}{x:Mem}:(nZ l x).loose=qD l x.e:=rfl
def Dz:Option cc->Nat
 |none=>0
 |some e=>e.id
theorem acI{s:ct}(hs:dG s){M:List Mem}(aj:xJ s.l M):Gs (oE (M.map (nZ s.l)))=Dz (iU s.l s.l):=by
 cases ae:iU s.l s.l with
 |none=>
  have aN:=C8.1 ae
  cases hm:oE (M.map (nZ s.l)) with
  |none=>rfl
  |some d=>
   obtain⟨aa,ad,_⟩:=zA hm
   obtain⟨x,ab,rfl⟩:=List.mem_map.1 aa
   have kr:x.e∈s.l:=by rw[<-aj.e];exact List.mem_map.2 ⟨x,ab,rfl⟩
   rw[Dy,aN _ kr] at ad;cases ad
 |some e=>
  obtain⟨br,a3,dm⟩:=ti ae
  obtain⟨y,aU,Ic⟩:=List.mem_map.1 (aj.e▸br:e∈M.map Mem.e)
  cases hm:oE (M.map (nZ s.l)) with
  |none=>
   have:=Cz hm (nZ s.l y) (List.mem_map.2 ⟨y,aU,rfl⟩)
   rw[Dy,Ic,a3] at this;cases this
  |some d=>
   obtain⟨aa,ad,av⟩:=zA hm
   obtain⟨x,ab,rfl⟩:=List.mem_map.1 aa
   have kr:x.e∈s.l:=by rw[<-aj.e];exact List.mem_map.2 ⟨x,ab,rfl⟩
   have bw:=av (nZ s.l y) (List.mem_map.2 ⟨y,aU,rfl⟩) (by rw[Dy,Ic];exact a3)
   have bV:=dm x.e kr (by rw[<-Dy];exact ad)
   have acJ:x.e.used<=y.e.used:=bw
   rw[Ic] at acJ
   show x.e.id=e.id
   exact hs.one _ kr _ br (by omega)
theorem acK(m:Nat){G:Nat->Prop}{h:J}{p a5 bX aF a6 c:Nat}{s:ct}{M:List Mem}(w:gr G h p a5 bX aF a6 s.cap s.given s.clock M)(aj:xJ s.l M)(hs:dG s)(ag:ar h c 0=some (.ptr p 0))(q1:c<h.n):Y (m+1) (.fn 40) [.ptr c 0] h=.ret (.int .u64 (Int.ofNat (Dz (iU s.l s.l)))) (h.room (1+32*M.length)):=by
 obtain⟨bw,bV,c5,gz⟩:=w.aI
 have acL:uZ h (M.map h5)=some (M.map (nZ s.l)):=Pl λx ab=>by
  have he:=w.eF x ab
  have ak:=aj.ao x ab
  have rA:ar h x.b 7=some (.int .i64 (Int.ofNat x.e.pins)):=aT he rfl
  have lF:ar h x.b 8=some (.int .i64 (Int.ofNat (eM x.e.id s.l))):=by rw[<-ak];exact aT he rfl
  have zw:ar h x.b 9=some (.int .u64 (Int.ofNat x.e.used)):=aT he rfl
  unfold sY h5
  simp only[rA,lF,zw];rfl
 have d1:mU ((M.map (nZ s.l)).map eb.born)=true:=by
  rw[List.map_map]
  exact Dx (List.pairwise_map.2 (w.dA.imp λ{a b} fw=>fw))
 have d2:mU ((M.map (nZ s.l)).map eb.id)=true:=by
  rw[List.map_map]
  exact Dx (List.pairwise_map.2 (w.up.imp λ{a b} fw=>by show a.e.id≠b.e.id;omega))
 have d3:mU (((M.map (nZ s.l)).filter eb.loose).map eb.used)=true:=by
  refine Dx (List.pairwise_map.2 (List.Pairwise.filter _ (List.pairwise_map.2 ?_)))
  have Az:M.Pairwise λa b=>a.e∈s.l/\b.e∈s.l/\a.e.id<b.e.id:=by
   have hl:∀x∈M,x.e∈s.l:=λx ab=>by rw[<-aj.e];exact List.mem_map.2 ⟨x,ab,rfl⟩
   exact(List.Pairwise.and_mem.1 w.up).imp λ{a b} ⟨aL,ae,fw⟩=>⟨hl a aL,hl b ae,fw⟩
  refine Az.imp λ{a b} fw e=>?_
  have:=hs.one _ fw.1 _ fw.2.1 e
  omega
 have d4:((M.map (nZ s.l)).all λd=>Nat.blt d.born aF&&Nat.blt 0 d.id)=true:=List.all_eq_true.2 λd ao=>by
  obtain⟨x,ab,rfl⟩:=List.mem_map.1 ao
  rw[Bool.and_eq_true,Nat.blt_eq,Nat.blt_eq]
  exact⟨(w.fU x ab).1,w.vm x ab⟩
 have d5:((M.map (nZ s.l)).all λd=>Nat.blt d.b h.n)=true:=List.all_eq_true.2 λd ao=>by
  obtain⟨x,ab,rfl⟩:=List.mem_map.1 ao
  rw[Nat.blt_eq];exact gz x ab
 have br:Nat.blt c h.n=true:=by rw[Nat.blt_eq];exact q1
 have a3:Nat.blt p h.n=true:=by rw[Nat.blt_eq];exact bw
 have dm:Nat.blt a5 h.n=true:=by rw[Nat.blt_eq];exact bV
 have cA:ar h p 3=some (.map a5):=aT w.st rfl
 have e:wQ 40 [.ptr c 0] h=some (.int .u64 (Int.ofNat (Dz (iU s.l s.l))),h.room (1+32*M.length)):=by
  have ae:Nat.beq 40 40=true:=rfl
  have dq:u0 (M.map (nZ s.l)) aF=true:=by unfold u0;rw[d1,d2,d3,d4];rfl
  unfold wQ
  simp only[ae,ag,cA,w.aA,acL,dq,br,a3,dm,d5,acI hs aj,List.length_map];rfl
 have cI:b3 40 [.ptr c 0] h=some (.int .u64 (Int.ofNat (Dz (iU s.l s.l))),h.room (1+32*M.length)):=e
 show fp Tryz.prog b3 (m+1) _ _ _=_
 simp only[fp,cI]
theorem acM{i:Nat}{l:List cc}{x:Nat}(h:∀e∈l,e.id≠x):h3 x l=l:=by
 unfold h3
 refine List.filter_eq_self.2 λe he=>?_
 cases ae:Nat.beq e.id x with
 |false=>rfl
 |true=>exact absurd (Nat.eq_of_beq_eq_true ae) (h e he)
theorem drop_cons{e:cc}{l:List cc}(x:Nat):h3 x (e::l)=if e.id=x then h3 x l else e::h3 x l:=by
 unfold h3
 rw[List.filter_cons]
 by_cases h:e.id=x
 · rw[if_pos h,h,Nat.beq_refl];rfl
 · rw[if_neg h]
   cases ae:Nat.beq e.id x with
   |false=>rfl
   |true=>exact absurd (Nat.eq_of_beq_eq_true ae) h
theorem Pm{l:List cc}(aQ:l.Pairwise (λa b=>a.id<b.id)){x:cc}(ab:x∈l)(i:Nat):eM i l=x.parts.count i+eM i (h3 x.id l)/\(h3 x.id l).length+1=l.length:=by
 induction l with
 |nil=>cases ab
 |cons e l bb=>
  rw[List.pairwise_cons] at aQ
  rw[drop_cons]
  rcases List.mem_cons.1 ab with rfl|ab
  · have:=acM (i:=0) (l:=l) (x:=x.id) λe he=>by have:=aQ.1 e he;omega
    rw[if_pos rfl,this]
    exact⟨by rw[eM],rfl⟩
  · have cX:¬e.id=x.id:=by have:=aQ.1 x ab;omega
    obtain⟨aa,ad⟩:=bb aQ.2 ab
    rw[if_neg cX,eM,eM,List.length_cons,List.length_cons]
    exact⟨by omega,by omega⟩
theorem gr.del{G:Nat->Prop}{h:J}{p a5 bX aF a6 cap given clock:Nat}{M:List Mem}(w:gr G h p a5 bX aF a6 cap given clock M)(q:Mem->Bool):gr G ((h.set bX (some (.map ((M.filter q).map jF) a6))).set a5 (some (.map ((M.filter q).map h5) aF))) p a5 bX aF a6 cap given clock (M.filter q):=by
 have sub:∀x∈M.filter q,x∈M:=λx ab=>(List.mem_filter.1 ab).1
 have oJ:p≠a5:=λe=>by have:=w.st;rw[e,w.aA] at this;cases this
 have m0:p≠bX:=λe=>by have:=w.st;rw[e,w.ax] at this;cases this
 have qm:∀x∈M,x.b≠a5:=λx ab e=>by have:=w.eF x ab;rw[e,w.aA] at this;cases this
 have rC:∀x∈M,x.b≠bX:=λx ab e=>by have:=w.eF x ab;rw[e,w.ax] at this;cases this
 have row:∀{D:Type} {enc:D->List I} {wd el:Nat} {v:I} {ds:List D},cu enc wd el 0 h v ds->cu enc wd el 0 ((h.set bX (some (.map ((M.filter q).map jF) a6))).set a5 (some (.map ((M.filter q).map h5) aF))) v ds:=by
  intro D enc wd el v ds aY
  rcases aY with aY|⟨r,r1,r2,dS,eZ,jB⟩
  · exact .inl aY
  · refine .inr ⟨r,r1,r2,dB (λe=>?_) (dB (λe=>?_) dS),eZ,by simpa using jB⟩
    · rw[e,w.aA] at dS;cases dS
    · rw[e,w.ax] at dS;cases dS
 exact⟨dB oJ (dB m0 w.st),gk rfl,dB (λe=>w.kf e.symm) (gk rfl),λx ab=>dB (qm x (sub x ab)) (dB (rC x (sub x ab)) (w.eF x (sub x ab))),λx ab=>row (w.ns x (sub x ab)),λx ab=>row (w.az x (sub x ab)),w.bs.filter _,w.dA.filter _,λx ab=>w.fU x (sub x ab),w.up.filter _,λx ab=>w.vm x (sub x ab),w.kf,⟨w.aI.1,w.aI.2.1,w.aI.2.2.1,λx ab=>w.aI.2.2.2 x (sub x ab)⟩,w.mf,λx ab=>w.ne x (sub x ab),λx ab=>w.xG x (sub x ab),λx ab=>w.xH x (sub x ab)⟩
structure qJ(s:ct):Prop where
 args:∀e∈s.l,e.args.length<=61
 nm:∀e∈s.l,jX e.ns
 lE:s.given<=10000
 lM:s.clock<=10000
theorem Pn{i:Nat}:∀{l:List cc},(∀e∈l,e.args.length<=61)->eM i l<=62*l.length
 |[],_=>by rw[eM];exact Nat.zero_le _
 |e::l,h=>by
  have aa:=Pn (i:=i) (l:=l) λx ab=>h x (List.mem_cons_of_mem _ ab)
  have ad:=h e (List.mem_cons_self ..)
  have av:=List.count_le_length (a:=i) (l:=e.parts)
  have aG:e.parts.length=e.args.length+1:=rfl
  rw[eM,List.length_cons];omega
theorem Po:∀{l:List cc} {g:Nat},l.Pairwise (λa b=>a.id<b.id)->(∀e∈l,0<e.id/\e.id<=g)->l.length<=g
 |[],_,_,_=>Nat.zero_le _
 |e::l,g,aQ,al=>by
  rw[List.pairwise_cons] at aQ
  have key:∀(l:List cc) (a:Nat),l.Pairwise (λa b=>a.id<b.id)->(∀e∈l,a<e.id/\e.id<=g)->l.length+a<=g\/l=[]:=by
   intro l
   induction l with
   |nil=>intro _ _ _;exact .inr rfl
   |cons x l bb=>
    intro a aQ al
    rw[List.pairwise_cons] at aQ
    have ab:=al x (List.mem_cons_self ..)
    rcases bb x.id aQ.2 (λe he=>⟨aQ.1 e he,(al e (List.mem_cons_of_mem _ he)).2⟩) with h|h
    · left;rw[List.length_cons];omega
    · left;rw[h];simp;omega
  have:=key (e::l) 0 (List.pairwise_cons.2 aQ) al
  rcases this with h|h
  · omega
  · cases h
theorem Pp{s:ct}(hs:dG s)(ae:qJ s)(i:Nat):eM i s.l<=620000:=by
 have aa:=Pn (i:=i) ae.args
 have ad:=Po hs.up λe he=>⟨(hs.aI e he).1,(hs.aI e he).2.1⟩
 have:=ae.lE
 omega
def g8(F:Nat->Prop)(h:J)(p:Nat)(s:ct):Prop:=∃a5 bX aF a6 M,gr F h p a5 bX aF a6 s.cap s.given s.clock M/\xJ s.l M
theorem acN(x:Mem):hN x.e.k x.e.nm (gB x.e.ns) (eP x.e.args) x.e.ret x=true:=by simp[hN]
theorem qJ.drop{s:ct}(h:qJ s)(i:Nat):qJ {s with l:=h3 i s.l}:=⟨λe he=>h.args e (nV.1 he).1,λe he=>h.nm e (nV.1 he).1,h.lE,h.lM⟩
theorem Ie{s:ct}(hs:dG s)(ae:qJ s){e:cc}(he:e∈s.l):∀i∈e.args,i<18446744073709551616:=λi af=>by
 have aa:=ae.lE
 have ad:=(hs.aI e he).2.1
 rcases hs.part e he i (List.mem_cons_of_mem _ af) with h|⟨h,_⟩<;>omega
theorem acO{s:ct}(hs:dG s)(ae:qJ s){M:List Mem}(g0:M.map Mem.e=s.l){x y:Mem}(ab:x∈M)(aU:y∈M):hN x.e.k x.e.nm (gB x.e.ns) (eP x.e.args) x.e.ret y=kN x.e.id y:=by
 have kr:x.e∈s.l:=by rw[<-g0];exact List.mem_map.2 ⟨x,ab,rfl⟩
 have Au:y.e∈s.l:=by rw[<-g0];exact List.mem_map.2 ⟨y,aU,rfl⟩
 rw[O9 (ae.nm _ Au) (ae.nm _ kr) (Ie hs ae Au) (Ie hs ae kr)]
 unfold kN
 have key:∀(l:List cc),l.Pairwise (λa b=>b.is a.k a.nm a.ns a.args a.ret=false)->l.Pairwise (λa b=>a.id<b.id)->∀a∈l,∀b∈l,b.is a.k a.nm a.ns a.args a.ret=decide (b.id=a.id):=by
  intro l
  induction l with
  |nil=>intro _ _ a aL;cases aL
  |cons e l bb=>
   intro aa ad a aL b ae
   rw[List.pairwise_cons] at aa ad
   have self:∀e:cc,e.is e.k e.nm e.ns e.args e.ret=true:=λe=>pz.2 ⟨rfl,rfl,rfl,rfl,rfl⟩
   rcases List.mem_cons.1 aL with aL|aL<;>rcases List.mem_cons.1 ae with ae|ae
   · rw[aL,ae,self,decide_eq_true rfl]
   · rw[aL,aa.1 b ae,decide_eq_false];have:=ad.1 b ae;omega
   · rw[ae,Hw,aa.1 a aL,decide_eq_false];have:=ad.1 a aL;omega
   · exact bb aa.2 ad.2 a aL b ae
 exact key s.l hs.apart hs.up _ kr _ Au
theorem Pq(z:Int)(l:List Nat)(M:List Mem):(M.map (bump z l)).map Mem.e=M.map Mem.e:=by
 rw[List.map_map];rfl
theorem acP(i:Nat)(M:List Mem):(M.filter λz=>!kN i z).map Mem.e=h3 i (M.map Mem.e):=by
 unfold h3
 rw[List.filter_map]
 congr 1
 refine List.filter_congr λz aW=>?_
 show(!kN i z)=!Nat.beq z.e.id i
 unfold kN
 congr 1
 cases Ig:Nat.beq z.e.id i with
 |true=>exact decide_eq_true (Nat.eq_of_beq_eq_true Ig)
 |false=>exact decide_eq_false λe=>by rw[e,Nat.beq_refl] at Ig;cases Ig
theorem Pr(m:Nat){F:Nat->Prop}{h:J}{p:Nat}{s:ct}(w:g8 F h p s)(hs:dG s)(ae:qJ s):∃g,Y (m+2) (.fn 22) [.ptr p 0] h=.ret (.aO []) g/\g8 F g p (nU s)/\b2 F h g:=by
 obtain⟨a5,bX,aF,a6,Ps,g_,fM⟩:=w
 obtain⟨bw,bV,c5,gz⟩:=g_.aI
 obtain⟨H,cw⟩:∃H,H=h.push (.cells [.ptr p 0] 23 .own 0 0):=⟨_,rfl⟩
 have dz:Ext h.n h H:=by rw[cw];exact Ext.push (Nat.le_refl _) _
 have lK:H.n=h.n+1:=by rw[cw];rfl
 obtain⟨G,jg⟩:∃G:Nat->Prop,G=λd=>F d\/d=h.n:=⟨_,rfl⟩
 have acQ:gr G H p a5 bX aF a6 s.cap s.given s.clock Ps:=g_.move dz.n (λd ao _ _=>dz.get d ao) λd ao al=>by
  rw[jg] at al
  rcases al with al|al
  · exact .inl al
  · omega
 have Pt:∀d,F d->G d:=λd ao=>by rw[jg];exact .inl ao
 have Pu:G h.n:=by rw[jg];exact .inr rfl
 refine acG (m+1) p h (R:=λx=>∃g,x=.ret (.aO []) g/\g8 F g p (nU s)/\b2 F h g) ?_
 rw[<-cw]
 refine a4.loop (by kernel_rfl) (λk st=>∃y Γ l M,st=⟨Γ,[],.none,y⟩/\cd [(1,.ptr h.n 0),(2,.fn 40 [] [.ptr h.n 0])] Γ/\l.length=k/\dG {s with l:=l}/\qJ {s with l:=l}/\gr G y p a5 bX aF a6 s.cap s.given s.clock M/\xJ l M/\iv s.cap l.length l=iv s.cap s.l.length s.l/\b2 G H y) ?_ s.l.length _ (by
  have:=Po hs.up λe he=>⟨(hs.aI e he).1,(hs.aI e he).2.1⟩
  have:=ae.lE
  omega) ⟨H,_,s.l,Ps,rfl,⟨rfl,rfl,trivial⟩,rfl,hs,ae,acQ,fM,rfl,b2.refl _ _⟩
 rintro k st ⟨y,Γ,l,M,rfl,cL,aq,ok,cy,km,vp,p3,e4⟩
 have vq:∀{x},b2 G y x->ar x h.n 0=some (.ptr p 0):=λe=>by
  have aA:H.get h.n=some (.cells [.ptr p 0] 23 .own 0 0):=by rw[cw];exact fl rfl
  exact aT ((e.get _ (by have:=e4.n;omega) Pu).trans ((e4.get _ (by omega) Pu).trans aA)) rfl
 have acR:M.length=l.length:=by rw[<-vp.e,List.length_map]
 have fin:∀x,b2 G y x->gr G x p a5 bX aF a6 s.cap s.given s.clock M->iv s.cap l.length l=l->∃g,a9.ret (.aO []) x=.ret (.aO []) g/\g8 F g p (nU s)/\b2 F h g:=λx e acS aw=>by
  refine⟨x,rfl,⟨a5,bX,aF,a6,M,acS.move (Nat.le_refl _) (λd _ _ _=>rfl) λd _ ao=>.inl (Pt d ao),?_⟩,?_⟩
  · have:(nU s).l=l:=by show iv s.cap s.l.length s.l=l;rw[<-p3,aw]
    rw[this];exact vp
  · have aA:=(e4.trans e)
    exact⟨by have:=aA.n;omega,λd ao hf=>(aA.get d (by omega) (Pt d hf)).trans (dz.get d ao)⟩
 have tk:b2 G y (y.room 10):=b2.ext (Ext.room _ _ _)
 have AA:=km.ext (Ext.room y.n y 10)
 refine a4.pre (acH (Y (m+1)) h.n a5 bX y ⟨p,vq tk,aT AA.st rfl,l.length,?_,p,vq tk,s.cap,aT AA.st rfl,λl0=>?_,λl0=>?_⟩) cL rfl rfl rfl
 · have hu:Tryz.prog.underlying 55=some (.map 32 59):=Aw
   simp only[cl,hu,AA.aA,List.length_map,acR]
 · have ky:=acK m (s:={s with l:=l}) AA vp ok (vq tk) (by have:=e4.n;have:(y.room 10).n=y.n+10:=rfl;omega)
   obtain⟨ai,ee⟩:∃ai,ai=(y.room 10).room (1+32*M.length):=⟨_,rfl⟩
   rw[<-ee] at ky
   have AB:Ext y.n y ai:=by rw[ee];exact(Ext.room _ _ _).ht
   have aA:b2 G y ai:=b2.ext AB
   have cW:=km.ext AB
   cases u1:iU l l with
   |none=>
    have Ih:Y (m+1) (.fn 40) [.ptr h.n 0] (y.room 10)=.ret (.int .u64 (Int.ofNat 0)) ai:=by rw[ky];simp only[u1];rfl
    refine⟨0,ai,Ih,λ_=>.inr ⟨ai,_,rfl,rfl,trivial,fin ai aA cW ?_⟩,λh=>absurd rfl h⟩
    obtain⟨j,aK⟩:∃j,l.length=j+1:=⟨l.length-1,by omega⟩
    rw[aK,iv,if_pos l0,u1]
   |some e=>
    obtain⟨br,a3,_⟩:=ti u1
    obtain⟨x,ab,m7⟩:=List.mem_map.1 (vp.e▸br:e∈M.map Mem.e)
    subst m7
    have Pv:=cW.vm x ab
    have Ih:Y (m+1) (.fn 40) [.ptr h.n 0] (y.room 10)=.ret (.int .u64 (Int.ofNat x.e.id)) ai:=by rw[ky];simp only[u1];rfl
    have fu:∀z∈M,-1000000<=z.ao/\z.ao<=1000000:=λz aW=>by
     rw[vp.ao z aW]
     have:=Pp ok cy z.e.id
     have e:(Int.ofNat (eM z.e.id l))=((eM z.e.id l:Nat):Int):=rfl
     have this:eM z.e.id l<=620000:=this
     omega
    have ho:x.e.args.length<=1000:=by have:=cy.args x.e br;omega
    obtain⟨au,vV,cN,bQ⟩:=Ph m (z:=Int.negSucc 0) (.inr rfl) cW (cW.eF x ab) (cW.az x ab) fu ho (cW.aI.2.2.2 x ab)
    have ax:=aA.trans bQ
    have mq:=cN.ext (Ext.room au.n au 9)
    have gv:b2 G y (au.room 9):=ax.trans (b2.ext (Ext.room _ _ _))
    have qm:bump (Int.negSucc 0) x.e.parts x∈M.map (bump (Int.negSucc 0) x.e.parts):=List.mem_map.2 ⟨x,ab,rfl⟩
    have vr:=mq.eF _ qm
    have Pw:(M.map (bump (Int.negSucc 0) x.e.parts)).map Mem.e=l:=by rw[Pq];exact vp.e
    have Ii:∀z∈M.map (bump (Int.negSucc 0) x.e.parts),hN x.e.k x.e.nm (gB x.e.ns) (eP x.e.args) x.e.ret z=kN x.e.id z:=λz aW=>acO (s:={s with l:=l}) (x:=bump (Int.negSucc 0) x.e.parts x) ok cy Pw qm aW
    have Az:(M.map (bump (Int.negSucc 0) x.e.parts)).Pairwise λa b=>¬(hN x.e.k x.e.nm (gB x.e.ns) (eP x.e.args) x.e.ret a=true/\hN x.e.k x.e.nm (gB x.e.ns) (eP x.e.args) x.e.ret b=true):=by
     refine(List.Pairwise.and_mem.1 mq.up).imp λ{a b} ⟨aL,ae,fw⟩ ⟨ba,a1⟩=>?_
     rw[Ii a aL] at ba
     rw[Ii b ae] at a1
     have ba:=of_decide_eq_true ba
     have a1:=of_decide_eq_true a1
     omega
    have Ij:=ab7 mq.ax Az qm (acN x)
    have acT:(M.map (bump (Int.negSucc 0) x.e.parts)).filter (λz=>!hN x.e.k x.e.nm (gB x.e.ns) (eP x.e.args) x.e.ret z)=(M.map (bump (Int.negSucc 0) x.e.parts)).filter (λz=>!kN x.e.id z):=List.filter_congr λz aW=>by rw[Ii z aW]
    rw[acT] at Ij
    obtain⟨ay,gL⟩:∃ay,ay=(au.room 9).set bX (some (.map (((M.map (bump (Int.negSucc 0) x.e.parts)).filter (λz=>!kN x.e.id z)).map jF) a6)):=⟨_,rfl⟩
    rw[<-gL] at Ij
    have m0:p≠bX:=λe=>by have:=mq.st;rw[e,mq.ax] at this;cases this
    have acU:ay.get p=some (xE s.cap s.given s.clock a5 bX):=by rw[gL];exact dB m0 mq.st
    have acV:ay.get a5=some (.map ((M.map (bump (Int.negSucc 0) x.e.parts)).map h5) aF):=by rw[gL];exact dB mq.kf mq.aA
    have Gu:=ab3 acV mq.up qm
    have rb:=mq.del (λz=>!kN x.e.id z)
    rw[<-gL] at rb
    have bD:b2 G y ay:=by rw[gL];exact gv.trans (b2.set mq.mf.2.2)
    have ed:b2 G y (ay.set a5 (some (.map (((M.map (bump (Int.negSucc 0) x.e.parts)).filter (λz=>!kN x.e.id z)).map h5) aF))):=bD.trans (b2.set mq.mf.2.1)
    obtain⟨agh,DA⟩:=Pm ok.up br 0
    refine⟨x.e.id,ai,Ih,λh0=>by omega,λ_=>⟨p,vq aA,aT cW.st rfl,x.b,vj cW.aA cW.up ab false,p,vq aA,au,vV,p,vq gv,aT mq.st rfl,x.e.k,x.e.nm,gB x.e.ns,eP x.e.args,x.e.ret,pa vr rfl,ay,Ij,p,vq bD,aT acU rfl,_,Gu,_,?_,_,_,h3 x.e.id l,_,rfl,⟨rfl,rfl,trivial⟩,rfl,?_,cy.drop x.e.id,rb,⟨?_,?_⟩,?_,e4.trans ed⟩⟩
    · have DA:(h3 x.e.id l).length+1=l.length:=DA
      show(h3 x.e.id l).length<k
      omega
    · exact dG.drop (s:={s with l:=l}) ok (xr.1 a3).2
    · rw[<-Pw]
      exact acP _ _
    · intro z aW
      obtain⟨v,aD,rfl⟩:=List.mem_map.1 (List.mem_filter.1 aW).1
      have ao:=(Pm ok.up br v.e.id).1
      have ak:=vp.ao v aD
      show v.ao+Int.negSucc 0*(x.e.parts.count v.e.id:Nat)=Int.ofNat (eM v.e.id (h3 x.e.id l))
      rw[ak]
      have aA:(Int.ofNat (eM v.e.id l))=((eM v.e.id l:Nat):Int):=rfl
      have ax:(Int.ofNat (eM v.e.id (h3 x.e.id l)))=((eM v.e.id (h3 x.e.id l):Nat):Int):=rfl
      have bD:(Int.negSucc 0:Int)=-1:=rfl
      have ao:eM v.e.id l=x.e.parts.count v.e.id+eM v.e.id (h3 x.e.id l):=ao
      rw[aA,ax,bD]
      omega
    · obtain⟨j,aK⟩:∃j,l.length=j+1:=⟨l.length-1,by omega⟩
      have DA:(h3 x.e.id l).length+1=l.length:=DA
      rw[<-p3,aK,iv,if_pos l0,u1]
      simp only
      rw[show(h3 x.e.id l).length=j by omega]
 · refine .inl ⟨_,_,rfl,rfl,trivial,fin _ tk AA ?_⟩
   cases aN:l.length with
   |zero=>rfl
   |succ j=>rw[iv,if_neg l0]
theorem acW(k:Nat)(nm:a7)(ns:List a7)(az:List Nat)(r:Nat)(s:ct):(jW k nm ns az r s).2.clock=s.clock+1/\(jW k nm ns az r s).2.given<=s.given+1/\(jW k nm ns az r s).2.cap=s.cap:=by
 unfold jW
 split<;>exact⟨rfl,by simp,rfl⟩
mutual
theorem DB:∀(t:aC) (s:ct),(cM t s).2.clock=s.clock+sz t/\(cM t s).2.given<=s.given+sz t/\(cM t s).2.cap=s.cap
 |.mk k nm ns xs rt,s=>by
  obtain⟨b6,cU,c8⟩:=DC xs s
  obtain⟨br,a3,dm⟩:=Px rt (da xs s).2
  obtain⟨d1,d2,d3⟩:=acW k nm ns (da xs s).1 (g1 rt (da xs s).2).1 (g1 rt (da xs s).2).2
  rw[cM,sz]
  exact⟨by omega,by omega,by rw[d3,dm,c8]⟩
theorem DC:∀(l:List aC) (s:ct),(da l s).2.clock=s.clock+df l/\(da l s).2.given<=s.given+df l/\(da l s).2.cap=s.cap
 |[],s=>by rw[da,df];exact⟨rfl,Nat.le_refl _,rfl⟩
 |t::l,s=>by
  obtain⟨b6,cU,c8⟩:=DB t s
  obtain⟨br,a3,dm⟩:=DC l (cM t s).2
  rw[da,df]
  exact⟨by show(da l (cM t s).2).2.clock=_;omega,by show(da l (cM t s).2).2.given<=_;omega,by show(da l (cM t s).2).2.cap=_;rw[dm,c8]⟩
theorem Px:∀(o:Option aC) (s:ct),(g1 o s).2.clock=s.clock+c_ o/\(g1 o s).2.given<=s.given+c_ o/\(g1 o s).2.cap=s.cap
 |none,s=>by rw[g1,c_];exact⟨rfl,Nat.le_refl _,rfl⟩
 |some t,s=>by rw[g1,c_];exact DB t s
end
theorem DD:∀(l:List aC) (s:ct),(da l s).1.length=l.length
 |[],s=>by rw[da];rfl
 |t::l,s=>by rw[da];simp[DD l]
theorem Py(t:aC):∀(l:List aC) (s:ct),da (l++[t]) s=((da l s).1++[(cM t (da l s).2).1],(cM t (da l s).2).2)
 |[],s=>by simp[da]
 |x::l,s=>by
  rw[List.cons_append,da,Py t l]
  simp[da]
theorem Pz{p:Option a7}:∀{ns:List a7},j_ p ns=true->jX ns
 |[],_,s,hs=>by cases hs
 |x::l,h,s,hs=>by
  rw[j_,Bool.and_eq_true,Bool.and_eq_true] at h
  rcases List.mem_cons.1 hs with rfl|hs
  · have hf:=h.1
    unfold ij at hf
    simp only[Bool.and_eq_true,decide_eq_true_eq] at hf
    refine⟨λe=>by rw[e] at hf;simp at hf,λc ag e=>?_⟩
    have:=List.all_eq_true.1 hf.2 c ag
    rw[e] at this
    exact absurd this (by decide)
  · exact Pz h.2.2 s hs
theorem PA{k:Nat}{nm:a7}{ns:List a7}{xs:List aC}{rt:Option aC}(h:ep (.mk k nm ns xs rt)=true):jX ns/\ns.length<=xs.length/\∀s∈ns,s.length<=24:=by
 rw[nL] at h
 simp only[Bool.and_eq_true] at h
 obtain⟨_,aQ,ab,aq⟩:=h
 by_cases di:k=7
 · subst di
   have:ns.length=xs.length/\j_ none ns=true:=by simpa[e3] using aq
   exact⟨Pz this.2,by omega,Gz none ns this.2⟩
 · have h0:=HG aQ di
   have:ns=[]:=List.eq_nil_of_length_eq_zero h0
   subst this
   exact⟨λs hs=>(by cases hs),by simp,λs hs=>(by cases hs)⟩
theorem Ik{k:Nat}{nm:a7}{ns:List a7}{xs:List aC}{u:aC}(h:dv (some (.mk k nm ns xs (some u)))=0):dv (some u)=0:=by
 obtain⟨aa,ad⟩:=ld.1 h
 rw[nL] at ad
 simp only[Bool.and_eq_true] at ad
 obtain⟨_,aQ,ab,aq⟩:=ad
 have hR:k=8:=by
  unfold ik at aQ
  simp only[Bool.and_eq_true] at aQ
  have:=aQ.2
  simpa using this
 subst hR
 have hu:ep u=true:=by simpa[e3,iR] using aq
 rw[mc,iP] at aa
 exact ld.2 ⟨by omega,hu⟩
theorem acX{s:ct}{k:Nat}{nm:a7}{ns:List a7}{az:List Nat}{r:Nat}(aa:∀e∈s.l,e.args.length<=61/\jX e.ns)(ad:az.length<=61)(av:jX ns):∀e∈(jW k nm ns az r s).2.l,e.args.length<=61/\jX e.ns:=by
 unfold jW
 split
 · intro e he
   obtain⟨x,ab,rfl⟩:=List.mem_map.1 he
   have T:=C9
   have:=aa x ab
   rename_i q _
   rw[(T q.id (s.clock+1) x).args,(T q.id (s.clock+1) x).ns]
   exact this
 · intro e he
   rcases List.mem_append.1 he with he|he
   · exact aa e he
   · obtain rfl:=List.mem_singleton.1 he
     exact⟨ad,av⟩
mutual
theorem Il:∀(t:aC) (s:ct),dv (some t)=0->(∀e∈s.l,e.args.length<=61/\jX e.ns)->∀e∈(cM t s).2.l,e.args.length<=61/\jX e.ns
 |.mk k nm ns xs rt,s,ag,h=>by
  obtain⟨aF,a6⟩:=ld.1 ag
  have ab:=DE xs s (λu hu=>vd ag hu) h
  have aY:=PB rt (da xs s).2 (λu hu=>by subst hu;exact Ik ag) ab
  rw[cM]
  rw[mc] at aF
  have:=mW xs
  exact acX aY (by rw[DD];omega) (PA a6).1
theorem DE:∀(l:List aC) (s:ct),(∀t∈l,dv (some t)=0)->(∀e∈s.l,e.args.length<=61/\jX e.ns)->∀e∈(da l s).2.l,e.args.length<=61/\jX e.ns
 |[],s,_,h=>by rw[da];exact h
 |t::l,s,ag,h=>by
  rw[da]
  exact DE l _ (λu hu=>ag u (List.mem_cons_of_mem _ hu)) (Il t s (ag t (List.mem_cons_self ..)) h)
theorem PB:∀(o:Option aC) (s:ct),(∀u,o=some u->dv (some u)=0)->(∀e∈s.l,e.args.length<=61/\jX e.ns)->∀e∈(g1 o s).2.l,e.args.length<=61/\jX e.ns
 |none,s,_,h=>by rw[g1];exact h
 |some t,s,ag,h=>by rw[g1];exact Il t s (ag t rfl) h
end
theorem PC{es:List dU}{k v:I}{c:Nat}:∀(j:Nat),(∀e∈es,e.born≠c)->tz (Int.ofNat c) (es++[⟨k,v,c⟩]) j=some (j+es.length,⟨k,v,c⟩):=by
 induction es with
 |nil=>intro j _;show(match a8 (Int.ofNat c) (Int.ofNat c) with|true=>some (j,_)|false=>_)=_;rw[nA rfl];rfl
 |cons e es bb=>
  intro j h
  have aa:=h e (List.mem_cons_self ..)
  show(match a8 (Int.ofNat e.born) (Int.ofNat c) with|true=>some (j,e)|false=>tz (Int.ofNat c) (es++[(⟨k,v,c⟩:dU)]) (j+1))=_
  rw[jS aa]
  simp only
  rw[bb (j+1) λx ab=>h x (List.mem_cons_of_mem _ ab),List.length_cons]
  congr 2;omega
theorem PD{es:List dU}{e:dU}{v key:I}:qO v key es.length (es++[e])=es++[⟨key,v,e.born⟩]:=by
 induction es with
 |nil=>rfl
 |cons x es bb=>show x::qO v key es.length (es++[e])=_;rw[bb];rfl
theorem acY{h:J}{m c:Nat}{M:List Mem}(hm:h.get m=some (.map (M.map jF) c)){k r id:Nat}{nm f p:a7}(aN:∀x∈M,hN k nm f p r x=false)(aY:∀x∈M,x.dK<c):∃g,pN Tryz.prog h 56 (.map m) (.agg [.int .i64 (Int.ofNat k),.str nm,.str f,.str p,.int .u64 (Int.ofNat r)])=some (.aO [.int .u64 (Int.ofNat 0),.int .i64 (Int.ofNat c)],g)/\g.n=h.n/\(∀d,d≠m->g.get d=h.get d)/\pO g (.map m) (.int .i64 (Int.ofNat c)) (.int .u64 (Int.ofNat id))=some (g.set m (some (.map (M.map jF++[⟨.agg [.int .i64 (Int.ofNat k),.str nm,.str f,.str p,.int .u64 (Int.ofNat r)],.int .u64 (Int.ofNat id),c⟩]) (c+1)))):=by
 have aa:=As (q:=hN k nm f p r) (l:=M) (j:=0) aN
 have aW:ev Tryz.prog 32=some (.int .u64 (Int.ofNat 0)):=by kernel_rfl
 refine⟨h.set m (some (.map (M.map jF++[⟨.agg [.int .i64 (Int.ofNat k),.str nm,.str f,.str p,.int .u64 (Int.ofNat r)],.int .u64 (Int.ofNat 0),c⟩]) (c+1))),?_,rfl,λd ao=>dB ao rfl,?_⟩
 · simp only[pN,Dp,Dr,hm,rR M 0 λy _=>Dt h k r nm f p y,aa,Option.map,aW]
 · have ae:=PC (es:=M.map jF) (k:=.agg [.int .i64 (Int.ofNat k),.str nm,.str f,.str p,.int .u64 (Int.ofNat r)]) (v:=.int .u64 (Int.ofNat 0)) (c:=c) 0 λe he=>by
     obtain⟨x,ab,rfl⟩:=List.mem_map.1 he
     have:=aY x ab
     show x.dK≠c
     omega
   rw[Nat.zero_add] at ae
   have gs:∀(o:dr),(h.set m (some o)).get m=some o:=λo=>gk rfl
   simp only[pO,gs,ae,PD]
theorem acZ{h:J}{m c:Nat}{M:List Mem}(hm:h.get m=some (.map (M.map h5) c)){id b:Nat}(aN:∀x∈M,x.e.id≠id)(aY:∀x∈M,x.dA<c):∃g,pN Tryz.prog h 55 (.map m) (.int .u64 (Int.ofNat id))=some (.aO [.aZ,.int .i64 (Int.ofNat c)],g)/\g.n=h.n/\(∀d,d≠m->g.get d=h.get d)/\pO g (.map m) (.int .i64 (Int.ofNat c)) (.ptr b 0)=some (g.set m (some (.map (M.map h5++[⟨.int .u64 (Int.ofNat id),.ptr b 0,c⟩]) (c+1)))):=by
 have aa:=As (q:=kN id) (l:=M) (j:=0) λx ab=>decide_eq_false (aN x ab)
 have aW:ev Tryz.prog 59=some .aZ:=by kernel_rfl
 refine⟨h.set m (some (.map (M.map h5++[⟨.int .u64 (Int.ofNat id),.aZ,c⟩]) (c+1))),?_,rfl,λd ao=>dB ao rfl,?_⟩
 · simp only[pN,Aw,Dq,hm,rR M 0 λy _=>Ds h id y,aa,Option.map,aW]
 · have ae:=PC (es:=M.map h5) (k:=.int .u64 (Int.ofNat id)) (v:=.aZ) (c:=c) 0 λe he=>by
     obtain⟨x,ab,rfl⟩:=List.mem_map.1 he
     have:=aY x ab
     show x.dA≠c
     omega
   rw[Nat.zero_add] at ae
   have gs:∀(o:dr),(h.set m (some o)).get m=some o:=λo=>gk rfl
   simp only[pO,gs,ae,PD]
theorem gr.add{F:Nat->Prop}{h g:J}{p a5 bX aF a6 cap given clock:Nat}{M:List Mem}(w:gr F h p a5 bX aF a6 cap given clock M){n:Mem}(aN:g.n=h.n)(aq:∀d,d≠a5->d≠bX->g.get d=h.get d)(aa:g.get a5=some (.map ((M++[n]).map h5) (aF+1)))(ad:g.get bX=some (.map ((M++[n]).map jF) (a6+1)))(he:h.get n.b=some (xF n.e n.ao n.bK n.a_))(ia:mo 0 h n.bK n.e.ns)(xK:vl 0 h n.a_ n.e.args)(ae:∀x∈M,x.b≠n.b)(agi:n.dA=aF)(agj:n.dK=a6)(hn:∀x∈M,x.e.id<n.e.id)(h0:0<n.e.id)(tK:n.b<h.n)(fR:¬F n.b)(ac0:∀d k cp,n.bK=.slice d 0 k cp->¬F d)(ac1:∀d k cp,n.a_=.slice d 0 k cp->¬F d):gr F g p a5 bX (aF+1) (a6+1) cap given clock (M++[n]):=by
 have qm:∀{b cs el},h.get b=some (.cells cs el .own 0 0)->b≠a5:=λae e=>by rw[e,w.aA] at ae;cases ae
 have rC:∀{b cs el},h.get b=some (.cells cs el .own 0 0)->b≠bX:=λae e=>by rw[e,w.ax] at ae;cases ae
 have own:∀{b cs el},h.get b=some (.cells cs el .own 0 0)->g.get b=some (.cells cs el .own 0 0):=λae=>(aq _ (qm ae) (rC ae)).trans ae
 have row:∀{D:Type} {enc:D->List I} {wd el:Nat} {v:I} {ds:List D},cu enc wd el 0 h v ds->cu enc wd el 0 g v ds:=by
  intro D enc wd el v ds aY
  rcases aY with aY|⟨r,r1,r2,dS,eZ,jB⟩
  · exact .inl aY
  · exact .inr ⟨r,r1,r2,(aq r (λe=>by rw[e,w.aA] at dS;cases dS) (λe=>by rw[e,w.ax] at dS;cases dS)).trans dS,eZ,by omega⟩
 have all:∀{Q:Mem->Prop},(∀x∈M,Q x)->Q n->∀x∈M++[n],Q x:=λa b x ab=>by
  rcases List.mem_append.1 ab with ab|ab
  · exact a x ab
  · rw[List.mem_singleton.1 ab];exact b
 have vo:∀{R:Mem->Mem->Prop},M.Pairwise R->(∀x∈M,R x n)->(M++[n]).Pairwise R:=λa b=>by
  rw[List.pairwise_append]
  exact⟨a,List.pairwise_singleton ..,λx ab y aU=>by rw[List.mem_singleton.1 aU];exact b x ab⟩
 obtain⟨bw,bV,c5,gz⟩:=w.aI
 exact⟨own w.st,aa,ad,all (λx ab=>own (w.eF x ab)) (own he),all (λx ab=>row (w.ns x ab)) (row ia),all (λx ab=>row (w.az x ab)) (row xK),vo w.bs ae,vo w.dA (λx ab=>by have:=(w.fU x ab).1;omega),all (λx ab=>by have:=w.fU x ab;omega) (by omega),vo w.up hn,all w.vm h0,w.kf,⟨by omega,by omega,by omega,all (λx ab=>by have:=gz x ab;omega) (by omega)⟩,w.mf,all w.ne fR,all w.xG ac0,all w.xH ac1⟩
theorem kd.PE{B w:Nat}{h g:J}{s:List UInt8}(ae:kd B w h s)(aN:h.n<=g.n)(aq:∀d,d<h.n->(d=w\/¬jT 5 (h.get d))->g.get d=h.get d):kd B w g s:=by
 obtain⟨a,v,aa,ad,av,aG,bI,cq⟩:=ae
 refine⟨a,v,(aq w (by omega) (.inl rfl)).trans aa,ad,?_,aG,by omega,cq⟩
 rcases av with av|⟨c,rest,aA,ax,bD,ed⟩
 · exact .inl av
 · exact .inr ⟨c,rest,aA,(aq c ed (.inr λPF=>PF _ _ _ ax)).trans ax,bD,by omega⟩
theorem ac2(call:aP)(p r:Nat)(h:J){Q:bu->ah->Prop}(H:Q .nrm (ah.mk [(0,.ptr p 0),(1,.ptr r 0)] [] .none h)):
  a4 Tryz.prog Tryz.f26 call [0] ⟨[(0,.ptr p 0),(1,.ptr r 0)],[],.none,h⟩ Q:=
 dF [] [0,1] [(0,.v (.ptr p 0)),(1,.v (.ptr r 0))] rfl (Eq.mp (by kernel_rfl) H)
theorem ac3(call:aP)(p r:Nat)(h:J){Q:bu->ah->Prop}(H:Q .nrm (ah.mk [(0,.ptr p 0),(1,.ptr r 0),(5,.fn 26 [.ptr p 0] [])] [] .none h)):
  a4 Tryz.prog Tryz.f26 call [1,0] ⟨[(0,.ptr p 0),(1,.ptr r 0)],[],.none,h⟩ Q:=
 dF [] [0,1,5] [(0,.v (.ptr p 0)),(1,.v (.ptr r 0))] rfl (Eq.mp (by kernel_rfl) H)
theorem ac4(call:aP)(p r:Nat)(h:J){Q:bu->ah->Prop}(H:∃v1:I,ar h r (0+2)=some v1/\∃v2:I,∃ai:J,call (.fn 38) [v1] h=.ret v2 ai/\I.cO v2=true/\I.cO v2=true/\Q .nrm (ah.mk [(0,.ptr p 0),(1,.ptr r 0),(5,.fn 26 [.ptr p 0] []),(6,.ptr ai.n 0)] [] .none (J.push ai (.cells [.int .i64 (.ofNat 0),.str [],.str [],.str [],.int .u64 (.ofNat 0),v2,.aS,.int .i64 (.ofNat 0),.int .i64 (.ofNat 0),.int .u64 (.ofNat 0)] 65 .own 0 0)))):
  a4 Tryz.prog Tryz.f26 call [1,1,0] ⟨[(0,.ptr p 0),(1,.ptr r 0),(5,.fn 26 [.ptr p 0] [])],[],.none,h⟩ Q:=
 dF [(19,.bq .o)] [0,1,5,6] [(0,.v (.ptr p 0)),(1,.v (.ptr r 0)),(5,.v (.fn 26 [.ptr p 0] []))] rfl (Eq.mp (by kernel_rfl) H)
theorem ac5(call:aP)(p r e:Nat)(h:J){Q:bu->ah->Prop}(H:Q .nrm (ah.mk [(0,.ptr p 0),(1,.ptr r 0),(5,.fn 26 [.ptr p 0] []),(6,.ptr e 0),(7,.ptr h.n 0)] [] .none (J.push h (.cells [.aZ,.aS] 92 .own 0 0)))):
  a4 Tryz.prog Tryz.f26 call [1,1,1,0] ⟨[(0,.ptr p 0),(1,.ptr r 0),(5,.fn 26 [.ptr p 0] []),(6,.ptr e 0)],[],.none,h⟩ Q:=
 dF [] [0,1,5,6,7] [(0,.v (.ptr p 0)),(1,.v (.ptr r 0)),(5,.v (.fn 26 [.ptr p 0] [])),(6,.v (.ptr e 0))] rfl (Eq.mp (by kernel_rfl) H)
theorem ac6(call:aP)(p r e w:Nat)(h:J){Q:bu->ah->Prop}(H:∃v1:I,ar h r (0+3)=some v1/\∃aE:Nat,cl Tryz.prog h 50 v1=some (.int .i64 (.ofNat aE))/\a4 Tryz.prog Tryz.f26 call [1,1,1,1,0,1,0] (ah.mk [(0,.ptr p 0),(1,.ptr r 0),(5,.fn 26 [.ptr p 0] []),(6,.ptr e 0),(7,.ptr w 0),(25,v1),(26,.int .i64 (.ofNat aE)),(27,.int .i64 (.ofNat 0))] [] .none h) (λb9 cf=>∃ai:J,∃bw:Env,b9=.exit 0/\cf=ah.mk bw [] .none ai/\cd [(0,.ptr p 0),(1,.ptr r 0),(5,.fn 26 [.ptr p 0] []),(6,.ptr e 0),(7,.ptr w 0)] bw/\Q .nrm (ah.mk [(0,.ptr p 0),(1,.ptr r 0),(5,.fn 26 [.ptr p 0] []),(6,.ptr e 0),(7,.ptr w 0)] [] .none ai))):
  a4 Tryz.prog Tryz.f26 call [1,1,1,1,0] ⟨[(0,.ptr p 0),(1,.ptr r 0),(5,.fn 26 [.ptr p 0] []),(6,.ptr e 0),(7,.ptr w 0)],[],.none,h⟩ Q:=
 dF [(25,.bq .o),(4000,.gO [0,1,5,6,7,25,26,27] [(.exit 0,[(0,.is (.ptr p 0)),(1,.is (.ptr r 0)),(5,.is (.fn 26 [.ptr p 0] [])),(6,.is (.ptr e 0)),(7,.is (.ptr w 0))])])] [0,1,5,6,7] [(0,.v (.ptr p 0)),(1,.v (.ptr r 0)),(5,.v (.fn 26 [.ptr p 0] [])),(6,.v (.ptr e 0)),(7,.v (.ptr w 0))] rfl (Eq.mp (by kernel_rfl) H)
theorem ac7(call:aP)(p r e w b off N i:Nat)(cp:bR)(h:J){Q:bu->ah->Prop}(H:(i<N->i<N/\∃aE:Nat,ar h b (off+i*1)=some (.ptr aE 0)/\∃bf:Nat,∃ai:J,call (.fn 26) [.ptr p 0,.ptr aE 0] h=.ret (.int .u64 (.ofNat bf)) ai/\∃v1:I,ar ai e (0+6)=some v1/\∃v2:I,∃au:J,db Tryz.prog (J.push ai (.cells [.int .u64 (.ofNat bf)] 32 .own 0 0)) 44 (some 44) v1 (.slice ai.n 0 1 (.exact 1))=some (v2,au)/\I.cO v2=true/\∃ay:J,bt.storeCells au e (0+6) [v2]=some ay/\∃s1:List UInt8,∃bg:J,call (.fn 45) [.int .u64 (.ofNat bf)] ay=.ret (.str s1) bg/\∃bH:Nat,∃cz:I,∃bF:J,call (.fn 44) [.ptr w 0,.str s1] bg=.ret (.aO [.int .i64 (.ofNat bH),cz]) bF/\i+1<9223372036854775808/\Q .nrm (ah.mk [(0,.ptr p 0),(1,.ptr r 0),(5,.fn 26 [.ptr p 0] []),(6,.ptr e 0),(7,.ptr w 0),(25,.slice b off N cp),(26,.int .i64 (.ofNat N)),(27,.int .i64 (.ofNat (i+1)))] [] .none bF))/\(¬i<N->Q (.exit 0) (ah.mk [(0,.ptr p 0),(1,.ptr r 0),(5,.fn 26 [.ptr p 0] []),(6,.ptr e 0),(7,.ptr w 0),(25,.slice b off N cp),(26,.int .i64 (.ofNat N)),(27,.int .i64 (.ofNat i))] [] .none h))):
  a4 Tryz.prog Tryz.f26 call [1,1,1,1,0,1,0,0] ⟨[(0,.ptr p 0),(1,.ptr r 0),(5,.fn 26 [.ptr p 0] []),(6,.ptr e 0),(7,.ptr w 0),(25,.slice b off N cp),(26,.int .i64 (.ofNat N)),(27,.int .i64 (.ofNat i))],[],.none,h⟩ Q:=
 dF [] [0,1,5,6,7,25,26,27] [(0,.v (.ptr p 0)),(1,.v (.ptr r 0)),(5,.v (.fn 26 [.ptr p 0] [])),(6,.v (.ptr e 0)),(7,.v (.ptr w 0)),(25,.v (.slice b off N cp)),(26,.v (.int .i64 (.ofNat N))),(27,.v (.int .i64 (.ofNat i)))] rfl (Eq.mp (by kernel_rfl) H)
theorem ac8(call:aP)(p r e w:Nat)(v:I)(h:J){Q:bu->ah->Prop}(H:¬0<0/\Q (.exit 0) (ah.mk [(0,.ptr p 0),(1,.ptr r 0),(5,.fn 26 [.ptr p 0] []),(6,.ptr e 0),(7,.ptr w 0)] [] .none h)):
  a4 Tryz.prog Tryz.f26 call [1,1,1,1,0,1,0,0] ⟨[(0,.ptr p 0),(1,.ptr r 0),(5,.fn 26 [.ptr p 0] []),(6,.ptr e 0),(7,.ptr w 0),(25,v),(26,.int .i64 (.ofNat 0)),(27,.int .i64 (.ofNat 0))],[],.none,h⟩ Q:=
 dF [(1028,.f)] [0,1,5,6,7] [(0,.v (.ptr p 0)),(1,.v (.ptr r 0)),(5,.v (.fn 26 [.ptr p 0] [])),(6,.v (.ptr e 0)),(7,.v (.ptr w 0)),(25,.o v),(26,.v (.int .i64 (.ofNat 0))),(27,.v (.int .i64 (.ofNat 0)))] rfl (Eq.mp (by kernel_rfl) H)
theorem ac9(call:aP)(p r e w:Nat)(h:J){Q:bu->ah->Prop}(H:∃aE:Nat,ar (h.room 19) r (0+0)=some (.int .i64 (.ofNat aE))/\∃s1:List UInt8,ar (h.room 19) r (0+1)=some (.str s1)/\∃v1:I,ar (h.room 19) r (0+2)=some v1/\∃s2:List UInt8,∃ai:J,call (.fn 46) [v1,.str [32]] (h.room 19)=.ret (.str s2) ai/\∃bN:List UInt8,∃au:J,call (.fn 47) [.ptr w 0] ai=.ret (.str bN) au/\∃ay:J,bt.storeCells au e (0+0) [.int .i64 (.ofNat aE),.str s1,.str s2,.str bN,.int .u64 (.ofNat 0)]=some ay/\ar au r (0+0)=some (.int .i64 (.ofNat aE))/\ar ai r (0+0)=some (.int .i64 (.ofNat aE))/\ar au r (0+1)=some (.str s1)/\ar ai r (0+1)=some (.str s1)/\I.sound v1=true/\Q .nrm (ah.mk [(0,.ptr p 0),(1,.ptr r 0),(5,.fn 26 [.ptr p 0] []),(6,.ptr e 0)] [] .none ay)):
  a4 Tryz.prog Tryz.f26 call [1,1,1,1,1,0] ⟨[(0,.ptr p 0),(1,.ptr r 0),(5,.fn 26 [.ptr p 0] []),(6,.ptr e 0),(7,.ptr w 0)],[],.none,h⟩ Q:=
 dF [] [0,1,5,6] [(0,.v (.ptr p 0)),(1,.v (.ptr r 0)),(5,.v (.fn 26 [.ptr p 0] [])),(6,.v (.ptr e 0)),(7,.v (.ptr w 0))] rfl (Eq.mp (by kernel_rfl) H)
theorem ac_(call:aP)(p r e:Nat)(h:J){Q:bu->ah->Prop}(H:∃aE:Nat,ar h r (0+4)=some (.ptr aE 0)/\∃bf:Nat,ar h r (0+4)=some (.ptr bf 0)/\∃bH:Nat,∃ai:J,call (.fn 26) [.ptr p 0,.ptr bf 0] h=.ret (.int .u64 (.ofNat bH)) ai/\∃au:J,bt.storeCells ai e (0+0+4) [.int .u64 (.ofNat bH)]=some au/\Q .nrm (ah.mk [(0,.ptr p 0),(6,.ptr e 0)] [] .none au)):
  a4 Tryz.prog Tryz.f26 call [1,1,1,1,1,1,0] ⟨[(0,.ptr p 0),(1,.ptr r 0),(5,.fn 26 [.ptr p 0] []),(6,.ptr e 0)],[],.none,h⟩ Q:=
 dF [(69,.bq .p)] [0,6] [(0,.v (.ptr p 0)),(1,.v (.ptr r 0)),(5,.v (.fn 26 [.ptr p 0] [])),(6,.v (.ptr e 0))] rfl (Eq.mp (by kernel_rfl) H)
theorem ada(call:aP)(p r e:Nat)(h:J){Q:bu->ah->Prop}(H:ar h r (0+4)=some .aZ/\Q .nrm (ah.mk [(0,.ptr p 0),(6,.ptr e 0)] [] .none h)):
  a4 Tryz.prog Tryz.f26 call [1,1,1,1,1,1,0] ⟨[(0,.ptr p 0),(1,.ptr r 0),(5,.fn 26 [.ptr p 0] []),(6,.ptr e 0)],[],.none,h⟩ Q:=
 dF [(69,.bq (.is .aZ))] [0,6] [(0,.v (.ptr p 0)),(1,.v (.ptr r 0)),(5,.v (.fn 26 [.ptr p 0] [])),(6,.v (.ptr e 0))] rfl (Eq.mp (by kernel_rfl) H)
theorem PG(call:aP)(p e a5 bX:Nat)(h:J){Q:bu->ah->Prop}(H:∃aE:Nat,ar h p (0+2)=some (.int .u64 (.ofNat aE))/\aE+1<18446744073709551616/\∃ai:J,bt.storeCells h p (0+2) [.int .u64 (.ofNat (aE+1))]=some ai/\ar (ai.room 14) p (0+4)=some (.map bX)/\∃bf:Nat,∃s1:List UInt8,∃s2:List UInt8,∃bN:List UInt8,∃bH:Nat,bt.loadCells (ai.room 14) e (0+0) 5=some [.int .i64 (.ofNat bf),.str s1,.str s2,.str bN,.int .u64 (.ofNat bH)]/\∃bU:Nat,∃br:Bool,hO Tryz.prog (ai.room 14) 56 (.map bX) (.agg [.int .i64 (.ofNat bf),.str s1,.str s2,.str bN,.int .u64 (.ofNat bH)]) true=some (.aO [.int .u64 (.ofNat bU),.bool br])/\(br=true->ar (J.room (ai.room 14) 13) p (0+3)=some (.map a5)/\∃b_:Nat,hO Tryz.prog (J.room (ai.room 14) 13) 55 (.map a5) (.int .u64 (.ofNat bU)) false=some (.ptr b_ 0)/\∃cv:Nat,ar (J.room (ai.room 14) 13) p (0+2)=some (.int .u64 (.ofNat cv))/\∃au:J,bt.storeCells (J.room (ai.room 14) 13) b_ (0+9) [.int .u64 (.ofNat cv)]=some au/\Q .ret (ah.mk [(4,.int .u64 (.ofNat bU))] [] .none au))/\(br=false->∃c4:Nat,ar (ai.room 14) p (0+1)=some (.int .u64 (.ofNat c4))/\c4+1<18446744073709551616/\∃ay:J,bt.storeCells (ai.room 14) p (0+1) [.int .u64 (.ofNat (c4+1))]=some ay/\∃eo:Nat,ar ay p (0+1)=some (.int .u64 (.ofNat eo))/\ar (ay.room 21) p (0+4)=some (.map bX)/\∃eG:Nat,∃bS:List UInt8,∃cr:List UInt8,∃c3:List UInt8,∃fK:Nat,bt.loadCells (ay.room 21) e (0+0) 5=some [.int .i64 (.ofNat eG),.str bS,.str cr,.str c3,.int .u64 (.ofNat fK)]/\ar (ay.room 21) p (0+3)=some (.map a5)/\∃im:Nat,∃gQ:Nat,∃bg:J,pN Tryz.prog (ay.room 21) 56 (.map bX) (.agg [.int .i64 (.ofNat eG),.str bS,.str cr,.str c3,.int .u64 (.ofNat fK)])=some (.aO [.int .u64 (.ofNat im),.int .i64 (.ofNat gQ)],bg)/\∃bF:J,(pO bg (.map bX) (.int .i64 (.ofNat gQ)) (.int .u64 (.ofNat eo))=some bF/\I.aO []=.aO [])/\∃jV:Nat,∃dk:J,pN Tryz.prog bF 55 (.map a5) (.int .u64 (.ofNat eo))=some (.aO [.aZ,.int .i64 (.ofNat jV)],dk)/\∃dX:J,(pO dk (.map a5) (.int .i64 (.ofNat jV)) (.ptr e 0)=some dX/\I.aO []=.aO [])/\∃fJ:J,call (.fn 41) [.ptr p 0,.ptr e 0,.int .i64 (.ofNat 1)] dX=.ret (.aO []) fJ/\ar (fJ.room 13) p (0+3)=some (.map a5)/\∃nN:Nat,hO Tryz.prog (fJ.room 13) 55 (.map a5) (.int .u64 (.ofNat eo)) false=some (.ptr nN 0)/\∃mg:Nat,ar (fJ.room 13) p (0+2)=some (.int .u64 (.ofNat mg))/\∃ir:J,bt.storeCells (fJ.room 13) nN (0+9) [.int .u64 (.ofNat mg)]=some ir/\Q .ret (ah.mk [(4,.int .u64 (.ofNat eo))] [] .none ir))):
  a4 Tryz.prog Tryz.f26 call [1,1,1,1,1,1,1] ⟨[(0,.ptr p 0),(6,.ptr e 0)],[],.none,h⟩ Q:=
 dF [(92,.bq (.is (.map bX))),(97,.bq (.fC [.n .u64,.b])),(116,.bq (.is (.map bX))),(124,.bq (.is (.map a5))),(128,.bq (.fC [.n .u64,.n .i64])),(130,.bq (.fC [.is .aZ,.n .i64])),(138,.bq (.is (.map a5))),(140,.bq .p)] [4] [(0,.v (.ptr p 0)),(6,.v (.ptr e 0))] rfl (Eq.mp (by kernel_rfl) H)
theorem adb(n b B:Nat)(h:J)(w:List UInt8)(ae:kd B b h w)(aw:w.length<=1000000000):∃an,Y (n+1) (.fn 47) [.ptr b 0] h=.ret (.str w) an/\Ext B h an/\∀d,d<h.n->jT 5 (h.get d)->an.get d=h.get d:=by
 obtain⟨a,v,g,aL,aD,k_,aN,rh⟩:=ae
 rcases aD with⟨rfl,rfl⟩|⟨c,rest,rfl,ag,ru,wu⟩
 · have jw:pJ Tryz.prog (J.room h 12) 118 I.aZ (I.int IntKind.i64 (Int.ofNat 0))=some (.str [],J.room h 12):=by kernel_rfl
   exact⟨_,eA (intr:=b3) (n:=n) (args:=[.ptr b 0]) Tryz.func47 (by kernel_rfl) rfl (by kernel_rfl) (NM (Y n) b h [] _ (aT (h:=h.room 12) g rfl) jw) (.inl rfl) (by kernel_rfl),Ext.room _ _ _,λd _ _=>rfl⟩
 · by_cases hw:w=[]
   · exact absurd (rh hw) (by simp)
   · have cX:w.length≠0:=by cases w<;>simp at hw⊢
     have eT:iz Tryz.prog Builtin.unsafeSliceData (Array.mk [27]) [I.slice c 0 w.length (bR.aR 1)] (J.room h 12)=jr.val (I.ptr c 0) (J.room h 12):=by
      simp only[iz]
      exact if_neg cX
     have jw:=Lt (P:=Tryz.prog) (h:=h.room 12) (pT:=118) (u:=5) (c:=c) (e:=5) (w:=w) (rest:=rest) hw (by omega) (by kernel_rfl) (by kernel_rfl) (by kernel_rfl) ag
     exact⟨_,eA (intr:=b3) (n:=n) (args:=[.ptr b 0]) Tryz.func47 (by kernel_rfl) rfl (by kernel_rfl) (NL (Y n) b c w.length h w _ (aT (h:=h.room 12) g rfl) eT jw) (.inl rfl) (by kernel_rfl),
      (Ext.room B h 12).trans (Nat.le_refl _) (Ext.set (by omega) _),λd ao aj=>dB (λe=>by subst e;exact aj _ _ _ ag) rfl⟩
def Loc(F:Nat->Prop)(h:J)(e w:Nat)(bK a_:I)(d:Nat):Prop:=d<h.n/\(F d\/d=e\/d=w\/(∃k cp,bK=.slice d 0 k cp)\/(∃k cp,a_=.slice d 0 k cp)\/¬jT 5 (h.get d))
abbrev mr(bq:List I)(bK a_:I):dr:=.cells (bq++[bK,a_,.int .i64 (Int.ofNat 0),.int .i64 (Int.ofNat 0),.int .u64 (Int.ofNat 0)]) 65 .own 0 0
abbrev n0:List I:=[.int .i64 (Int.ofNat 0),.str [],.str [],.str [],.int .u64 (Int.ofNat 0)]
structure lP(F:Nat->Prop)(h0:J)(p e w:Nat)(bK a_:I)(ns:List a7)(ids:List Nat)(bq:List I)(s:ct)(y:J):Prop where
 st:g8 (Loc F y e w bK a_) y p s
 e4:b2 F h0 y
 eF:y.get e=some (mr bq bK a_)
 ns:mo h0.n y bK ns
 az:vl h0.n y a_ ids
 dc:h0.n<=e
 vt:e<w
 km:w<y.n
def PH(n:Nat)(t:aC):Prop:=∀(F:Nat->Prop) (h:J) (p:Nat) (v:I) (s:ct),g8 F h p s->dG s->(∀e∈s.l,e.args.length<=61/\jX e.ns)->s.clock+sz t<=10000->s.given+sz t<=10000->(∀b,F b->b<h.n)->dY F h t v->∃g,Y n (.fn 26) [.ptr p 0,v] h=.ret (.int .u64 (Int.ofNat (cM t s).1)) g/\g8 F g p (cM t s).2/\b2 F h g
theorem g8.move{F G:Nat->Prop}{h g:J}{p:Nat}{s:ct}(w:g8 F h p s)(aN:h.n<=g.n)(aq:∀d,d<h.n->¬F d->jT 5 (h.get d)->g.get d=h.get d)(jg:∀d,d<h.n->G d->F d\/¬jT 5 (h.get d)):g8 G g p s:=by
 obtain⟨a5,bX,aF,a6,M,cW,r⟩:=w
 exact⟨a5,bX,aF,a6,M,cW.move aN aq jg,r⟩
theorem ade(t:aC){s:ct}(hs:dG s)(al:s.given+sz t<=10000):(cM t s).1<18446744073709551616:=by
 obtain⟨ok,_,q,aJ,pv⟩:=nW t hs
 have aa:=(ok.aI q aJ).2.1
 have ad:=(DB t s).2.1
 omega
theorem xL{h:J}{d:Nat}{cs bT:List I}{el p4 aI up:Nat}(aa:h.get d=some (.cells cs el .aR aI up))(ad:h.get d=some (.cells bT p4 .own 0 0)):False:=by rw[aa] at ad;cases ad
theorem Im:∀l:List Nat,(eP l).length=8*l.length
 |[]=>rfl
 |a::l=>by
  show(iY a++eP l).length=_
  rw[List.length_append,vk,Im l,List.length_cons];omega
theorem adf(m:Nat){F:Nat->Prop}{h0:J}{p e w B:Nat}{bK a_ v:I}{ns:List a7}{ids:List Nat}{s:ct}{y:J}{t:aC}(fR:∀b,F b->b<h0.n)(bM:lP F h0 p e w bK a_ ns ids n0 s y)(ae:kd B w y (eP ids))(G1:h0.n<=B)(agk:e<B)(AD:PH (m+3) t)(hs:dG s)(fu:∀e∈s.l,e.args.length<=61/\jX e.ns)(aq:s.clock+sz t<=10000)(al:s.given+sz t<=10000)(aD:dY F h0 t v)(aw:ids.length<=1000):
  ∃ai,Y (m+3) (.fn 26) [.ptr p 0,v] y=.ret (.int .u64 (Int.ofNat (cM t s).1)) ai/\ar ai e (0+6)=some a_/\
  ∃jU au,db Tryz.prog (ai.push (.cells [rS (cM t s).1] 32 .own 0 0)) 44 (some 44) a_ (.slice ai.n 0 1 (.exact 1))=some (jU,au)/\jU.cO=true/\
  ∃ay,bt.storeCells au e (0+6) [jU]=some ay/\
  ∃bg,Y (m+3) (.fn 45) [.int .u64 (Int.ofNat (cM t s).1)] ay=.ret (.str (iY (cM t s).1)) bg/\
  ∃bF,Y (m+3) (.fn 44) [.ptr w 0,.str (iY (cM t s).1)] bg=.ret (.aO [.int .i64 (Int.ofNat (iY (cM t s).1).length),.e7]) bF/\lP F h0 p e w bK jU ns (ids++[(cM t s).1]) n0 (cM t s).2 bF/\kd B w bF (eP (ids++[(cM t s).1])):=by
 obtain⟨st,e4,eF,ia,xK,dc,vt,km⟩:=bM
 obtain⟨agl,bv,PI,_,_,agm,G2,_⟩:=id ae
 have agn:=e4.n
 have adg:dY (Loc F y e w bK a_) y t v:=dY.bO (λb ae=>⟨⟨by have:=fR b ae;omega,.inl ae⟩,e4.get b (fR b ae) ae⟩) _ _ aD
 obtain⟨ai,aF,st1,bJ⟩:=AD _ y p v s st hs fu aq al (λb ae=>ae.1) adg
 obtain⟨id,hn⟩:∃id,id=(cM t s).1:=⟨_,rfl⟩
 have AE:=ade t hs al
 rw[<-hn] at aF AE⊢
 have aE:=bJ.n
 have ge:ai.get e=some (mr n0 bK a_):=(bJ.get e (by omega) ⟨by omega,.inr (.inl rfl)⟩).trans eF
 have ago:ai.get w=y.get w:=bJ.get w km ⟨km,.inr (.inr (.inl rfl))⟩
 obtain⟨H,cw⟩:∃H,H=ai.push (.cells [rS id] 32 .own 0 0):=⟨_,rfl⟩
 have lK:H.n=ai.n+1:=by rw[cw];rfl
 have dz:Ext ai.n ai H:=by rw[cw];exact Ext.push (Nat.le_refl _) _
 have vu:∀d k cp,a_=.slice d 0 k cp->d<y.n/\h0.n<=d/\∃cs,y.get d=some (.cells cs 32 .aR 0 0):=by
  intro d k cp ao
  rcases xK with⟨rfl,_⟩|⟨q,rfl,_,b7,fv,fV⟩
  · cases ao
  · cases ao;exact⟨fV,fv,_,b7⟩
 have AF:∀d k cp,bK=.slice d 0 k cp->d<y.n/\h0.n<=d/\∃cs,y.get d=some (.cells cs 9 .aR 0 0):=by
  intro d k cp ao
  rcases ia with⟨rfl,_⟩|⟨q,rfl,_,b7,fv,fV⟩
  · cases ao
  · cases ao;exact⟨fV,fv,_,b7⟩
 have adh:vl h0.n H a_ ids:=cu.bO xK (by omega) λq aJ jo=>(dz.get q (by omega)).trans (bJ.get q jo ⟨jo,.inr (.inr (.inr (.inr (.inl ⟨_,_,aJ⟩))))⟩)
 obtain⟨au,b6,cU,c8,ek,en⟩:=Db qI adh (by omega) (d:=id) (src:=.slice ai.n 0 1 (.exact 1)) (by rw[cw];exact uC qI ai 32 id) (by omega)
 have adi:∀k cp,a_≠ .slice e 0 k cp:=λk cp ao=>by
  obtain⟨_,_,cs,ag⟩:=vu e k cp ao
  exact xL ag eF
 have adj:∀k cp,a_≠ .slice w 0 k cp:=λk cp ao=>by
  obtain⟨_,_,cs,ag⟩:=vu w k cp ao
  exact xL ag PI
 have adk:au.get e=some (mr n0 bK a_):=((en e (by omega) adi).trans (dz.get e (by omega))).trans ge
 obtain⟨jU,AG⟩:∃jU,jU=I.slice H.n 0 (ids++[id]).length (.aR 1):=⟨_,rfl⟩
 rw[<-AG] at b6
 obtain⟨ay,gL⟩:∃ay,ay=au.set e (some (mr n0 bK jU)):=⟨_,rfl⟩
 have bH:ay.n=au.n:=by rw[gL];rfl
 have bN:bt.storeCells au e (0+6) [jU]=some ay:=by rw[gL,AG];exact gN adk rfl rfl
 obtain⟨bg,fO,e2⟩:=acm (m+2) id ay AE
 have bU:=e2.n
 have tu:∀d,d<ai.n->d≠e->(∀k cp,a_≠ .slice d 0 k cp)->bg.get d=ai.get d:=λd ao pE Io=>by
  refine(e2.get d (by omega)).trans ?_
  rw[gL]
  exact(dB pE rfl).trans ((en d (by omega) Io).trans (dz.get d ao))
 have gl:kd B w bg (eP ids):=kd.PE ae (by omega) λd ao AH=>by
  have j2:Loc F y e w bK a_ d:=by
   rcases AH with rfl|aj
   · exact⟨ao,.inr (.inr (.inl rfl))⟩
   · exact⟨ao,.inr (.inr (.inr (.inr (.inr aj))))⟩
  refine(tu d (by omega) ?_ λk cp ag=>?_).trans (bJ.get d ao j2)
  · rintro rfl
    rcases AH with h|h
    · omega
    · exact h (by rw[eF];exact Ay)
  · obtain⟨_,_,cs,fN⟩:=vu d k cp ag
    rcases AH with rfl|h
    · exact adj _ _ ag
    · exact h (by rw[fN];exact vn (by decide))
 have hj:=Im ids
 obtain⟨bF,mj,k5,fX⟩:=CZ m w B bg (eP ids) (iY id) gl (by rw[hj,vk];omega)
 have b_:=fX.x.n
 have rU:∀d,d<ai.n->d≠e->d≠w->(∀k cp,a_≠ .slice d 0 k cp)->jT 5 (ai.get d)->bF.get d=ai.get d:=λd ao pE AH Io aj=>by
  have aG:=tu d ao pE Io
  exact(fX.k d (by omega) AH (by rw[aG];exact aj)).trans aG
 have fF:bF.get e=some (mr n0 bK jU):=by
  have aG:bg.get e=some (mr n0 bK jU):=(e2.get e (by omega)).trans (by rw[gL];exact gk rfl)
  exact(fX.k e (by omega) (by omega) (by rw[aG];exact Ay)).trans aG
 have adl:vl h0.n bF jU (ids++[id]):=by
  refine .inr ⟨H.n,AG,by simp,?_,by omega,by omega⟩
  have aG:bg.get H.n=some (.cells (cV (λd=>[rS d]) (ids++[id])) 32 .aR 0 0):=(e2.get _ (by omega)).trans (by rw[gL];exact(dB (by omega) rfl).trans cU)
  exact(fX.k _ (by omega) (by omega) (by rw[aG];exact vn (by decide))).trans aG
 have adm:mo h0.n bF bK ns:=cu.bO ia (by omega) λq aJ jo=>by
  obtain⟨_,_,cs,fN⟩:=AF q _ _ aJ
  have hJ:ai.get q=y.get q:=bJ.get q jo ⟨jo,.inr (.inr (.inr (.inl ⟨_,_,aJ⟩)))⟩
  refine(rU q (by omega) ?_ ?_ (λk cp ag=>?_) (by rw[hJ,fN];exact vn (by decide))).trans hJ
  · rintro rfl;exact xL fN eF
  · rintro rfl;exact xL fN PI
  · obtain⟨_,_,bT,xM⟩:=vu q k cp ag
    rw[fN] at xM
    injection xM with xM;injection xM with _ xM
    exact absurd xM (by decide)
 have aQ:eP (ids++[id])=eP ids++iY id:=by simp[eP]
 subst cw
 refine⟨ai,aF,aT ge rfl,jU,au,b6,by rw[AG];rfl,ay,bN,bg,fO,bF,mj,⟨?_,?_,fF,adm,adl,dc,vt,by omega⟩,by rw[aQ];exact k5⟩
 · refine st1.move (by omega) (λd ao lG aj=>?_) (λd ao j2=>?_)
   · refine rU d ao (λh=>?_) (λh=>?_) (λk cp ag=>?_) aj
     · subst h;exact lG ⟨by omega,.inr (.inl rfl)⟩
     · subst h;exact lG ⟨by omega,.inr (.inr (.inl rfl))⟩
     · exact lG ⟨(vu d k cp ag).1,.inr (.inr (.inr (.inr (.inl ⟨_,_,ag⟩))))⟩
   · obtain⟨_,ra⟩:=j2
     rcases ra with h|h|h|h|h|h
     · exact .inl ⟨by have:=fR d h;omega,.inl h⟩
     · exact .inl ⟨by omega,.inr (.inl h)⟩
     · exact .inl ⟨by omega,.inr (.inr (.inl h))⟩
     · obtain⟨k,cp,h⟩:=h
       exact .inl ⟨(AF d k cp h).1,.inr (.inr (.inr (.inl ⟨_,_,h⟩)))⟩
     · obtain⟨k,cp,h⟩:=h
       rw[AG] at h
       cases h
       omega
     · by_cases j2:Loc F y e w bK a_ d
       · exact .inl j2
       · refine .inr λaj=>h ?_
         rw[rU d ao (λh=>?_) (λh=>?_) (λk cp ag=>?_) aj]
         · exact aj
         · subst h;exact j2 ⟨by omega,.inr (.inl rfl)⟩
         · subst h;exact j2 ⟨by omega,.inr (.inr (.inl rfl))⟩
         · exact j2 ⟨(vu d k cp ag).1,.inr (.inr (.inr (.inr (.inl ⟨_,_,ag⟩))))⟩
 · refine⟨by omega,λd ao hf=>?_⟩
   have adn:∀k cp,a_≠ .slice d 0 k cp:=λk cp ag=>by have:=(vu d k cp ag).2.1;omega
   exact(fX.x.get d (by omega) (by omega)).trans ((tu d (by omega) (by omega) adn).trans ((bJ.get d (by omega) ⟨by omega,.inl hf⟩).trans (e4.get d ao hf)))
theorem PJ(i:Nat):∀a b:List cc,eM i (a++b)=eM i a+eM i b
 |[],b=>by rw[List.nil_append,eM];omega
 |x::a,b=>by rw[List.cons_append,eM,PJ i a b,eM];omega
theorem Ip(i:Nat){f:cc->cc}(hf:∀e,(f e).parts=e.parts):∀l:List cc,eM i (l.map f)=eM i l
 |[]=>rfl
 |x::l=>by rw[List.map_cons,eM,hf,Ip i hf l,eM]
theorem PK(c:Nat):xI λy=>{y with e:={y.e with used:=c}}:=⟨λ_=>rfl,λ_=>rfl,λ_=>rfl,λ_=>rfl,λ_=>rfl,λ_=>rfl,λ_=>rfl,λ_=>rfl,λ_=>rfl⟩
theorem PL(i c:Nat)(M:List Mem):(m6 i (λy=>{y with e:={y.e with used:=c}}) M).map Mem.e=(M.map Mem.e).map (lL i c):=by
 unfold m6
 rw[List.map_map,List.map_map]
 refine List.map_congr_left λy _=>?_
 show(if y.e.id=i then({y with e:={y.e with used:=c}}:Mem) else y).e=lL i c y.e
 unfold lL
 split<;>rfl
theorem PM{i c:Nat}{M:List Mem}{y:Mem}(aU:y∈m6 i (λy=>{y with e:={y.e with used:=c}}) M):∃z∈M,y.ao=z.ao/\y.e.id=z.e.id:=by
 obtain⟨z,aW,rfl⟩:=List.mem_map.1 aU
 refine⟨z,aW,?_⟩
 split<;>exact⟨rfl,rfl⟩
theorem ado(m:Nat){F:Nat->Prop}{h0:J}{p e w k r:Nat}{nm:a7}{bK a_:I}{ns:List a7}{ids:List Nat}{s:ct}{y:J}(fR:∀b,F b->b<h0.n)(bM:lP F h0 p e w bK a_ ns ids [.int .i64 (Int.ofNat k),.str nm,.str (gB ns),.str (eP ids),.int .u64 (Int.ofNat r)] s y)(hs:dG s)(fu:∀e∈s.l,e.args.length<=61/\jX e.ns)(adp:s.clock+1<=10000)(adq:s.given+1<=10000)(aN:jX ns)(aw:ids.length<=61)(hn:∀i∈ids,i<18446744073709551616):a4 Tryz.prog Tryz.f26 (Y (m+3)) [1,1,1,1,1,1,1] ⟨[(0,.ptr p 0),(6,.ptr e 0)],[],.none,y⟩ (λb9 st=>b9=.ret/\∃g,st=⟨[(4,.int .u64 (Int.ofNat (jW k nm ns ids r s).1))],[],.none,g⟩/\g8 F g p (jW k nm ns ids r s).2/\b2 F h0 g):=by
 obtain⟨st,e4,eF,ia,xK,dc,vt,km⟩:=bM
 obtain⟨a5,bX,aF,a6,M,g_,fM⟩:=st
 have cy:qJ s:=⟨λe he=>(fu e he).1,λe he=>(fu e he).2,by omega,by omega⟩
 have w:gr F y p a5 bX aF a6 s.cap s.given s.clock M:=g_.move (Nat.le_refl _) (λd _ _ _=>rfl) λd ao hf=>.inl ⟨ao,.inl hf⟩
 have Bp:p≠e:=λh=>by
  have:=w.st
  rw[h,eF] at this
  injection this with this;injection this with _ this
  exact absurd this (by decide)
 have PN:¬F e:=λh=>by have:=fR e h;omega
 have DF:∀x∈M,x.e∈s.l:=λx ab=>by rw[<-fM.e];exact List.mem_map.2 ⟨x,ab,rfl⟩
 have DG:∀x∈M,hN k nm (gB ns) (eP ids) r x=x.e.is k nm ns ids r:=λx ab=>O9 (cy.nm _ (DF x ab)) aN (Ie hs cy (DF x ab)) hn
 obtain⟨ai,ee⟩:∃ai,ai=y.set p (some (xE s.cap s.given (s.clock+1) a5 bX)):=⟨_,rfl⟩
 have st1:bt.storeCells y p (0+2) [.int .u64 (Int.ofNat (s.clock+1))]=some ai:=by rw[ee];exact gN w.st rfl rfl
 have cW:=w.head s.given (s.clock+1)
 rw[<-ee] at cW
 have aE:ai.n=y.n:=by rw[ee];rfl
 have bJ:b2 F y ai:=by rw[ee];exact b2.set w.mf.1
 have w6:ai.get e=y.get e:=by rw[ee];exact dB (λh=>Bp h.symm) rfl
 have tv:=cW.ext (Ext.room ai.n ai 14)
 have PO:(ai.room 14).get e=some (mr [.int .i64 (Int.ofNat k),.str nm,.str (gB ns),.str (eP ids),.int .u64 (Int.ofNat r)] bK a_):=w6.trans eF
 cases hf:s.l.find? (cc.is k nm ns ids r) with
 |some cI=>
  have adr:=List.mem_of_find?_eq_some hf
  have eY:cI.is k nm ns ids r=true:=List.find?_some hf
  obtain⟨x,ab,m7⟩:=List.mem_map.1 (fM.e▸adr:cI∈M.map Mem.e)
  subst m7
  have aJ:hN k nm (gB ns) (eP ids) r x=true:=(DG x ab).trans eY
  have Az:M.Pairwise λa b=>¬(hN k nm (gB ns) (eP ids) r a=true/\hN k nm (gB ns) (eP ids) r b=true):=by
   have ads:M.Pairwise λa b=>b.e.is a.e.k a.e.nm a.e.ns a.e.args a.e.ret=false:=by
    have:=hs.apart
    rw[<-fM.e,List.pairwise_map] at this
    exact this
   refine(List.Pairwise.and_mem.1 ads).imp λ{a b} ⟨aL,ae,fw⟩ ⟨ba,a1⟩=>?_
   rw[DG a aL] at ba
   rw[DG b ae] at a1
   obtain⟨b6,cU,c8,ek,en⟩:=pz.1 ba
   obtain⟨br,a3,dm,gl,k5⟩:=pz.1 a1
   rw[pz.2 ⟨br.trans b6.symm,a3.trans cU.symm,dm.trans c8.symm,gl.trans ek.symm,k5.trans en.symm⟩] at fw
   cases fw
  have ej:=ab5 tv.ax Az ab aJ
  have xN:=tv.ext (Ext.room (ai.room 14).n (ai.room 14) 13)
  have p7:=xN.eF x ab
  have hle:jW k nm ns ids r s=(x.e.id,{s with clock:=s.clock+1,l:=s.l.map (lL x.e.id (s.clock+1))}):=by unfold jW;rw[hf]
  rw[hle]
  have cN:=xN.fE ab (PK (s.clock+1))
  refine PG (Y (m+3)) p e a5 bX y ⟨s.clock,aT w.st rfl,by omega,ai,st1,aT tv.st rfl,k,nm,gB ns,eP ids,r,pa PO rfl,x.e.id,true,ej,λ_=>⟨aT xN.st rfl,x.b,vj xN.aA xN.up ab false,s.clock+1,aT xN.st rfl,_,gN p7 rfl rfl,rfl,_,rfl,⟨a5,bX,aF,a6,_,cN,⟨?_,?_⟩⟩,?_⟩,λh=>by cases h⟩
  · show _=s.l.map (lL x.e.id (s.clock+1))
    rw[PL,fM.e]
  · intro z aW
    obtain⟨v,aD,aA,ax⟩:=PM aW
    show z.ao=Int.ofNat (eM z.e.id (s.l.map (lL x.e.id (s.clock+1))))
    rw[aA,ax,fM.ao v aD,Ip _ λq=>(C9 x.e.id (s.clock+1) q).parts]
  · exact(e4.trans bJ).trans (((b2.ext (Ext.room _ _ _)).trans (b2.ext (Ext.room _ _ _))).trans (b2.set (b:=x.b) (w.ne x ab)))
 |none=>
  have o6:=List.find?_eq_none.1 hf
  have oC:∀x∈M,hN k nm (gB ns) (eP ids) r x=false:=λx ab=>by
   rw[DG x ab]
   simpa using o6 x.e (DF x ab)
  have ej:=ab6 tv.ax oC
  have hle:jW k nm ns ids r s=(s.given+1,{s with given:=s.given+1,clock:=s.clock+1,l:=s.l++[⟨s.given+1,k,nm,ns,ids,r,0,s.clock+1⟩]}):=by unfold jW;rw[hf]
  rw[hle]
  obtain⟨ay,gL⟩:∃ay,ay=(ai.room 14).set p (some (xE s.cap (s.given+1) (s.clock+1) a5 bX)):=⟨_,rfl⟩
  have Hm:bt.storeCells (ai.room 14) p (0+1) [.int .u64 (Int.ofNat (s.given+1))]=some ay:=by rw[gL];exact gN tv.st rfl rfl
  have ki:=tv.head (s.given+1) (s.clock+1)
  rw[<-gL] at ki
  have bH:ay.n=ai.n+14:=by rw[gL];rfl
  have ez:b2 F y ay:=bJ.trans ((b2.ext (Ext.room _ _ _)).trans (by rw[gL];exact b2.set w.mf.1))
  have adt:ay.get e=y.get e:=by rw[gL];exact(dB (λh=>Bp h.symm) rfl).trans w6
  have xO:=ki.ext (Ext.room ay.n ay 21)
  obtain⟨R,ei⟩:∃R,R=ay.room 21:=⟨_,rfl⟩
  rw[<-ei] at xO
  have Dl:R.n=ay.n+21:=by rw[ei];rfl
  have PQ:R.get e=some (mr [.int .i64 (Int.ofNat k),.str nm,.str (gB ns),.str (eP ids),.int .u64 (Int.ofNat r)] bK a_):=by rw[ei];exact adt.trans eF
  have PR:∀x∈M,x.e.id<s.given+1:=λx ab=>by have:=(hs.aI _ (DF x ab)).2.1;omega
  obtain⟨bg,d1,d2,d3,d4⟩:=acY (id:=s.given+1) xO.ax oC λx ab=>(xO.fU x ab).2
  obtain⟨bF,AI⟩:∃bF,bF=bg.set bX (some (.map (M.map jF++[⟨.agg [.int .i64 (Int.ofNat k),.str nm,.str (gB ns),.str (eP ids),.int .u64 (Int.ofNat r)],.int .u64 (Int.ofNat (s.given+1)),a6⟩]) (a6+1))):=⟨_,rfl⟩
  rw[<-AI] at d4
  have adu:bF.get a5=some (.map (M.map h5) aF):=by rw[AI];exact(dB w.kf rfl).trans ((d3 a5 w.kf).trans xO.aA)
  obtain⟨dk,f1,f2,f3,f4⟩:=acZ (id:=s.given+1) (b:=e) adu (λx ab=>by have:=PR x ab;omega) λx ab=>(xO.fU x ab).1
  obtain⟨dX,AJ⟩:∃dX,dX=dk.set a5 (some (.map (M.map h5++[⟨.int .u64 (Int.ofNat (s.given+1)),.ptr e 0,aF⟩]) (aF+1))):=⟨_,rfl⟩
  rw[<-AJ] at f4
  have c4:dX.n=R.n:=by
   rw[AJ];show dk.n=_
   rw[f2,AI];exact d2
  have PS:∀d,d≠a5->d≠bX->dX.get d=R.get d:=λd aa ad=>by
   rw[AJ]
   refine(dB aa rfl).trans ((f3 d aa).trans ?_)
   rw[AI]
   exact(dB ad rfl).trans (d3 d ad)
  have low:∀{D:Type} {enc:D->List I} {wd el:Nat} {v:I} {ds:List D},cu enc wd el h0.n y v ds->cu enc wd el 0 R v ds/\∀d k cp,v=.slice d 0 k cp->¬F d:=by
   intro D enc wd el v ds aY
   rcases aY with⟨rfl,aY⟩|⟨q,rfl,a1,b7,fv,fV⟩
   · exact⟨.inl ⟨rfl,aY⟩,λd k cp h=>by cases h⟩
   · refine⟨.inr ⟨q,rfl,a1,?_,Nat.zero_le _,by omega⟩,λd k cp h hf=>by cases h;have:=fR q hf;omega⟩
     have PT:q≠p:=λh=>by rw[h,w.st] at b7;injection b7 with b7;injection b7 with _ _ b7;cases b7
     rw[ei]
     show ay.get q=_
     rw[gL]
     refine(dB PT rfl).trans ?_
     show ai.get q=_
     rw[ee]
     exact(dB PT rfl).trans b7
  obtain⟨adv,adw⟩:=low ia
  obtain⟨adx,ady⟩:=low xK
  have zj:∀x∈M,x.b≠e:=λx ab h=>g_.ne x ab ⟨w.aI.2.2.2 x ab,.inr (.inl h)⟩
  obtain⟨n,oj⟩:∃n:Mem,n=⟨⟨s.given+1,k,nm,ns,ids,r,0,0⟩,e,aF,a6,0,bK,a_⟩:=⟨_,rfl⟩
  have adz:dX.get a5=some (.map ((M++[n]).map h5) (aF+1)):=by rw[AJ,List.map_append,oj];exact gk rfl
  have adA:dX.get bX=some (.map ((M++[n]).map jF) (a6+1)):=by
   rw[AJ]
   refine(dB (λh=>w.kf h.symm) rfl).trans ((f3 bX λh=>w.kf h.symm).trans ?_)
   rw[AI,List.map_append,oj];exact gk rfl
  have DH:gr F dX p a5 bX (aF+1) (a6+1) s.cap (s.given+1) (s.clock+1) (M++[n]):=by
   refine xO.add (n:=n) c4 PS adz adA ?_ ?_ ?_ ?_ ?_ ?_ ?_ ?_ ?_ ?_ ?_ ?_<;>subst oj
   · exact PQ
   · exact adv
   · exact adx
   · exact zj
   · rfl
   · rfl
   · exact PR
   · show 0<s.given+1;omega
   · show e<R.n;omega
   · exact PN
   · exact adw
   · exact ady
  have jc:n∈M++[n]:=by simp
  have adB:∀x∈M++[n],-1000000<=x.ao/\x.ao<=1000000:=λx ab=>by
   rcases List.mem_append.1 ab with ab|ab
   · rw[fM.ao x ab]
     have:=Pp hs cy x.e.id
     have e:(Int.ofNat (eM x.e.id s.l))=((eM x.e.id s.l:Nat):Int):=rfl
     omega
   · rw[List.mem_singleton.1 ab,oj]
     exact⟨(by show(-1000000:Int)<=0;decide),(by show(0:Int)<=1000000;decide)⟩
  have cX:=DH.eF n jc
  have adC:=DH.az n jc
  have lp:n.b=e:=by rw[oj]
  have adD:n.e.args=ids:=by rw[oj]
  have adE:n.e.parts=r::ids:=by rw[oj];rfl
  have PU:n.e.id=s.given+1:=by rw[oj]
  obtain⟨fJ,vV,adF,Gy⟩:=Ph (m+2) (z:=1) (.inl rfl) DH cX adC adB (by rw[adD];omega) (by have:=DH.aI.2.2.2 n jc;exact this)
  rw[lp] at vV
  have xP:=adF.ext (Ext.room fJ.n fJ 13)
  have Iq:bump 1 n.e.parts n∈(M++[n]).map (bump 1 n.e.parts):=List.mem_map.2 ⟨n,jc,rfl⟩
  have PV:=vj xP.aA xP.up Iq false
  have AE:(bump 1 n.e.parts n).e.id=s.given+1:=PU
  have Ir:(bump 1 n.e.parts n).b=e:=lp
  rw[AE,Ir] at PV
  have adG:=xP.eF _ Iq
  have mq:=xP.fE Iq (PK (s.clock+1))
  have adH:b2 F ay dX:=⟨by rw[c4,Dl];omega,λd ao hf=>(PS d (λh=>w.mf.2.1 (h▸hf)) (λh=>w.mf.2.2 (h▸hf))).trans (by rw[ei];rfl)⟩
  rw[ei] at d1
  refine PG (Y (m+3)) p e a5 bX y ⟨s.clock,aT w.st rfl,by omega,ai,st1,aT tv.st rfl,k,nm,gB ns,eP ids,r,pa PO rfl,0,false,ej,λh=>(by cases h),λ_=>⟨s.given,aT tv.st rfl,by omega,ay,Hm,s.given+1,aT ki.st rfl,aT (h:=ay.room 21) ki.st rfl,k,nm,gB ns,eP ids,r,pa (ei▸PQ) rfl,aT (h:=ay.room 21) ki.st rfl,0,a6,bg,d1,bF,⟨d4,rfl⟩,aF,dk,f1,dX,⟨f4,rfl⟩,fJ,vV,aT xP.st rfl,e,PV,s.clock+1,aT xP.st rfl,_,gN (Ir▸adG) rfl rfl,rfl,_,rfl,⟨a5,bX,aF+1,a6+1,_,Ir▸mq,⟨?_,?_⟩⟩,?_⟩⟩
  · show _=s.l++[⟨s.given+1,k,nm,ns,ids,r,0,s.clock+1⟩]
    rw[PL,Pq,List.map_append,fM.e,List.map_append,AE]
    have aA:s.l.map (lL (s.given+1) (s.clock+1))=s.l:=by
     have:∀q∈s.l,lL (s.given+1) (s.clock+1) q=q:=λq aJ=>by
      have:=(hs.aI q aJ).2.1
      unfold lL
      rw[if_neg (by omega)]
     rw[List.map_congr_left this,List.map_id']
    rw[aA,oj]
    simp[lL]
  · intro z aW
    obtain⟨v,aD,aA,ax⟩:=PM aW
    obtain⟨u,hu,rfl⟩:=List.mem_map.1 aD
    show z.ao=Int.ofNat (eM z.e.id (s.l++[⟨s.given+1,k,nm,ns,ids,r,0,s.clock+1⟩]))
    rw[aA,ax,PJ]
    have bD:eM (bump 1 n.e.parts u).e.id [⟨s.given+1,k,nm,ns,ids,r,0,s.clock+1⟩]=(r::ids).count u.e.id:=by
     rw[eM,eM];rfl
    rw[bD]
    show u.ao+1*((n.e.parts).count u.e.id:Nat)=Int.ofNat (eM u.e.id s.l+(r::ids).count u.e.id)
    rw[adE]
    rcases List.mem_append.1 hu with hu|hu
    · rw[fM.ao u hu]
      show((eM u.e.id s.l:Nat):Int)+1*_=((eM u.e.id s.l+(r::ids).count u.e.id:Nat):Int)
      rw[Int.natCast_add,Int.one_mul]
    · rw[List.mem_singleton.1 hu,PU]
      have Ek:eM (s.given+1) s.l=0:=C7.2 λq aJ aQ=>by
       have aa:=(hs.aI q aJ).2.1
       rcases hs.part q aJ _ aQ with h|⟨h,_⟩<;>omega
      have o4:n.ao=0:=by rw[oj]
      rw[Ek,o4,Nat.zero_add,Int.one_mul,Int.zero_add]
      rfl
  · exact(e4.trans (ez.trans adH)).trans (Gy.trans ((b2.ext (Ext.room _ _ _)).trans (b2.set (b:=e) PN)))
theorem lP.AF{F:Nat->Prop}{h0:J}{p e w:Nat}{bK a_:I}{ns:List a7}{ids:List Nat}{bq:List I}{s:ct}{y:J}(bM:lP F h0 p e w bK a_ ns ids bq s y):(∀d k cp,bK=.slice d 0 k cp->d<y.n/\d≠e/\∃cs,y.get d=some (.cells cs 9 .aR 0 0))/\∀d k cp,a_=.slice d 0 k cp->d<y.n/\d≠e/\∃cs,y.get d=some (.cells cs 32 .aR 0 0):=by
 constructor
 · intro d k cp ao
   rcases bM.ns with⟨rfl,_⟩|⟨q,rfl,_,b7,fv,fV⟩
   · cases ao
   · cases ao;exact⟨fV,λh=>(by rw[h] at b7;exact xL b7 bM.eF),_,b7⟩
 · intro d k cp ao
   rcases bM.az with⟨rfl,_⟩|⟨q,rfl,_,b7,fv,fV⟩
   · cases ao
   · cases ao;exact⟨fV,λh=>(by rw[h] at b7;exact xL b7 bM.eF),_,b7⟩
theorem lP.next{F:Nat->Prop}{h0:J}{p e w:Nat}{bK a_:I}{ns:List a7}{ids:List Nat}{bq AK:List I}{s:ct}{y g:J}(bM:lP F h0 p e w bK a_ ns ids bq s y)(fR:∀b,F b->b<h0.n)(aN:y.n<=g.n)(aq:∀d,d<y.n->d≠e->jT 5 (y.get d)->g.get d=y.get d)(adI:∀d,d<h0.n->g.get d=y.get d)(he:g.get e=some (mr AK bK a_)):lP F h0 p e w bK a_ ns ids AK s g:=by
 obtain⟨DI,DJ⟩:=bM.AF
 have aa:=bM.e4.n
 have ad:=bM.dc
 have av:=bM.vt
 have aG:=bM.km
 refine⟨bM.st.move aN (λd ao lG aj=>aq d ao (λh=>lG ⟨ao,.inr (.inl h)⟩) aj) (λd ao j2=>?_),⟨by omega,λd ao hf=>(adI d ao).trans (bM.e4.get d ao hf)⟩,he,cu.bO bM.ns aN λq aJ jo=>?_,cu.bO bM.az aN λq aJ jo=>?_,ad,av,by omega⟩
 · obtain⟨_,ra⟩:=j2
   rcases ra with h|h|h|h|h|h
   · exact .inl ⟨ao,.inl h⟩
   · exact .inl ⟨ao,.inr (.inl h)⟩
   · exact .inl ⟨ao,.inr (.inr (.inl h))⟩
   · exact .inl ⟨ao,.inr (.inr (.inr (.inl h)))⟩
   · exact .inl ⟨ao,.inr (.inr (.inr (.inr (.inl h))))⟩
   · by_cases pE:d=e
     · exact .inl ⟨ao,.inr (.inl pE)⟩
     · exact .inr λaj=>h (by rw[aq d ao pE aj];exact aj)
 · obtain⟨_,bQ,cs,ez⟩:=DI q _ _ aJ
   exact aq q jo bQ (by rw[ez];exact vn (by decide))
 · obtain⟨_,bQ,cs,ez⟩:=DJ q _ _ aJ
   exact aq q jo bQ (by rw[ez];exact vn (by decide))
theorem lP.child{F:Nat->Prop}{h0:J}{p e w:Nat}{bK a_:I}{ns:List a7}{ids:List Nat}{bq AK:List I}{s bd:ct}{y g:J}(bM:lP F h0 p e w bK a_ ns ids bq s y)(fR:∀b,F b->b<h0.n)(hs:g8 (Loc F y e w bK a_) g p bd)(aq:b2 (Loc F y e w bK a_) y g):lP F h0 p e w bK a_ ns ids AK bd (g.set e (some (mr AK bK a_))):=by
 obtain⟨DI,DJ⟩:=bM.AF
 have aa:=bM.e4.n
 have ad:=bM.dc
 have av:=bM.vt
 have aG:=bM.km
 have bI:=aq.n
 refine⟨hs.move (Nat.le_refl _) (λd ao lG aj=>dB (λh=>lG ⟨by omega,.inr (.inl h)⟩) rfl) (λd ao j2=>?_),⟨by simp;omega,λd ao hf=>?_⟩,gk rfl,cu.bO bM.ns (by simp;omega) λq aJ jo=>?_,cu.bO bM.az (by simp;omega) λq aJ jo=>?_,ad,av,by simp;omega⟩
 · obtain⟨_,ra⟩:=j2
   rcases ra with h|h|h|h|h|h
   · exact .inl ⟨by have:=fR d h;omega,.inl h⟩
   · exact .inl ⟨by omega,.inr (.inl h)⟩
   · exact .inl ⟨by omega,.inr (.inr (.inl h))⟩
   · obtain⟨k,cp,aJ⟩:=h
     exact .inl ⟨(DI d k cp aJ).1,.inr (.inr (.inr (.inl ⟨_,_,aJ⟩)))⟩
   · obtain⟨k,cp,aJ⟩:=h
     exact .inl ⟨(DJ d k cp aJ).1,.inr (.inr (.inr (.inr (.inl ⟨_,_,aJ⟩))))⟩
   · by_cases pE:d=e
     · exact .inl ⟨by omega,.inr (.inl pE)⟩
     · exact .inr λaj=>h (by rw[dB pE rfl];exact aj)
 · exact(dB (by omega) rfl).trans ((aq.get d (by omega) ⟨by omega,.inl hf⟩).trans (bM.e4.get d ao hf))
 · obtain⟨_,bQ,_⟩:=DI q _ _ aJ
   exact(dB bQ rfl).trans (aq.get q jo ⟨jo,.inr (.inr (.inr (.inl ⟨_,_,aJ⟩)))⟩)
 · obtain⟨_,bQ,_⟩:=DJ q _ _ aJ
   exact(dB bQ rfl).trans (aq.get q jo ⟨jo,.inr (.inr (.inr (.inr (.inl ⟨_,_,aJ⟩))))⟩)
theorem PW(l:List aC){i:Nat}(h:i<l.length):df (l.take i)+sz l[i]<=df l:=by
 have key:∀a b:List aC,df (a++b)=df a+df b:=by
  intro a b
  induction a with
  |nil=>rw[df,List.nil_append];omega
  |cons x a bb=>rw[List.cons_append,df,bb,df];omega
 have e:=key (l.take i) (l.drop i)
 rw[List.take_append_drop,List.drop_eq_getElem_cons h,df] at e
 omega
theorem PX:∀{ns:List a7},(∀s∈ns,s.length<=24)->fP 1 ns<=25*ns.length
 |[],_=>by rw[fP];exact Nat.zero_le _
 |x::l,h=>by
  have aa:=h x (List.mem_cons_self ..)
  have ad:=PX (ns:=l) λs hs=>h s (List.mem_cons_of_mem _ hs)
  rw[fP,List.length_cons];omega
theorem Is:∀(N:Nat) (t:aC),sz t<=N->dv (some t)=0->∀n,sz t+10<=n->PH n t
 |0,t,h,_,_,_=>by have:=qp t;omega
 |N+1,.mk k nm ns xs rt,gW,ag,n,aN=>by
  intro F h p v s st hs fu adp adq fR aD
  obtain⟨aF,a6⟩:=ld.1 ag
  obtain⟨jc,lG,adJ⟩:=PA a6
  have bA:=mc k nm ns xs rt
  have eD:=mW xs
  obtain⟨r,vw,DK,c0,vs,bk,aI,up,rfl,It,rV,oC,sj,PY,yT⟩:=aD
  obtain⟨m,rfl⟩:∃m,n=m+5+1:=⟨n-6,by omega⟩
  have xm:=fR r It
  refine FX (R:=λx=>∃g,x=.ret (.int .u64 (Int.ofNat (cM (.mk k nm ns xs rt) s).1)) g/\g8 F g p (cM (.mk k nm ns xs rt) s).2/\b2 F h g) (intr:=b3) (n:=m+5) (args:=[.ptr p 0,.ptr r 0]) Tryz.func26 (by kernel_rfl) (by kernel_rfl) (by kernel_rfl) (Q:=λb9 st=>b9=.ret/\∃g,st=⟨[(4,.int .u64 (Int.ofNat (cM (.mk k nm ns xs rt) s).1))],[],.none,g⟩/\g8 F g p (cM (.mk k nm ns xs rt) s).2/\b2 F h g) ?_ ?_
  rotate_left
  · rintro e st ⟨rfl,g,rfl,aa,ad⟩
    exact .inl ⟨.inl rfl,rfl,.int .u64 (Int.ofNat (cM (.mk k nm ns xs rt) s).1),by kernel_rfl,g,rfl,aa,ad⟩
  have Iu:∃v2 ai,Y (m+5) (.fn 38) [vw] h=.ret v2 ai/\mo h.n ai v2 ns/\Ext h.n h ai/\v2.cO=true:=by
   have Iv:c6 h.n h vw (ns.map .str):=by
    rcases oC with⟨a,b⟩|⟨b,off,cp,b6,cU,c8,ek,en,rz⟩
    · exact .inl ⟨a,b⟩
    · exact .inr ⟨b,off,cp,b6,fR b cU,c8,ek,en⟩
   rcases G6 (m+4) (Nat.le_refl _) Iv (by rw[List.length_map];omega) (by simp[List.all_map,I.cO]) with⟨_,e,c⟩|⟨aa,b,ai,c,br,a3,dm,gl⟩
   · have dc:ns=[]:=by simpa using e
     exact⟨.aS,h,c,.inl ⟨rfl,dc⟩,Ext.refl _ _,rfl⟩
   · rw[List.length_map] at aa c
     refine⟨_,ai,c,.inr ⟨b,rfl,aa,?_,br,a3⟩,gl,rfl⟩
     rw[jm];exact dm
  obtain⟨v2,ai,BW,DL,AB,kS⟩:=Iu
  have aE:=AB.n
  obtain⟨aa,ju⟩:∃aa,aa=ai.push (mr n0 v2 .aS):=⟨_,rfl⟩
  obtain⟨ad,sD⟩:∃ad,ad=aa.push (.cells [.aZ,.aS] 92 .own 0 0):=⟨_,rfl⟩
  have agp:aa.n=ai.n+1:=by rw[ju];rfl
  have agq:ad.n=aa.n+1:=by rw[sD];rfl
  have oK:Ext ai.n ai ad:=by rw[sD];refine Ext.k2 (by omega) ?_;rw[ju];exact Ext.push (Nat.le_refl _) _
  have AL:Ext h.n h ad:=AB.trans aE oK
  have adK:ad.get ai.n=some (mr n0 v2 .aS):=by rw[sD];refine lA (by omega) ?_;rw[ju];exact fl rfl
  have adL:ad.get aa.n=some (.cells [.aZ,.aS] 92 .own 0 0):=by rw[sD];exact fl rfl
  have PZ:mo h.n ad v2 ns:=DL.mono oK (Nat.le_refl _)
  have P0:lP F h p ai.n aa.n v2 .aS ns [] n0 s ad:=by
   refine⟨st.move AL.n (λd ao _ _=>AL.get d ao) (λd ao j2=>?_),b2.ext AL,adK,PZ,.inl ⟨rfl,rfl⟩,aE,by omega,by omega⟩
   obtain⟨_,ra⟩:=j2
   rcases ra with aJ|aJ|aJ|⟨_,_,aJ⟩|⟨_,_,aJ⟩|aJ
   · exact .inl aJ
   · omega
   · omega
   · rcases PZ with⟨e,_⟩|⟨b,e,_,_,fv,_⟩
     · rw[e] at aJ;cases aJ
     · rw[e] at aJ;cases aJ;omega
   · cases aJ
   · exact .inr (by rw[<-AL.get d ao];exact aJ)
  have lg:kd ad.n aa.n ad (eP []):=⟨.aZ,.aS,adL,.inl rfl,.inl ⟨rfl,rfl⟩,by omega,Nat.le_refl _,λ_=>rfl⟩
  refine a4.seq (p:=[]) (by kernel_rfl) (ac2 _ p r h (a4.seq (p:=[1]) (by kernel_rfl) (ac3 _ p r h (a4.seq (p:=[1,1]) (by kernel_rfl) (ac4 _ p r h ⟨vw,aT rV rfl,v2,ai,BW,kS,kS,a4.seq (p:=[1,1,1]) (by kernel_rfl) ?_⟩)))))
  have aA:ai.push (.cells [.int .i64 (Int.ofNat 0),.str [],.str [],.str [],.int .u64 (Int.ofNat 0),v2,.aS,.int .i64 (Int.ofNat 0),.int .i64 (Int.ofNat 0),.int .u64 (Int.ofNat 0)] 65 .own 0 0)=aa:=by rw[ju];rfl
  rw[aA]
  refine ac5 _ p r ai.n aa (a4.seq (p:=[1,1,1,1]) (by kernel_rfl) ?_)
  rw[<-sD]
  have Be:vs.length=xs.length:=cT.len PY
  have adM:∀g,cl Tryz.prog g 50 DK=some (.int .i64 (Int.ofNat vs.length)):=λg=>by
   rcases sj with⟨rfl,rfl⟩|⟨b,off,cp,rfl,_⟩<;>rfl
  have rest:∀(y:J) (a_:I) (Γ:Env),lP F h p ai.n aa.n v2 a_ ns (da xs s).1 n0 (da xs s).2 y->kd ad.n aa.n y (eP (da xs s).1)->a4 Tryz.prog Tryz.f26 (Y (m+5)) [1,1,1,1,1] ⟨[(0,.ptr p 0),(1,.ptr r 0),(5,.fn 26 [.ptr p 0] []),(6,.ptr ai.n 0),(7,.ptr aa.n 0)],[],.none,y⟩ (λb9 st=>b9=.ret/\∃g,st=⟨[(4,.int .u64 (Int.ofNat (cM (.mk k nm ns xs rt) s).1))],[],.none,g⟩/\g8 F g p (cM (.mk k nm ns xs rt) s).2/\b2 F h g):=by
   intro y a_ Γ bM ae
   have e4:=bM.e4
   have lO:=e4.n
   have agr:=bM.km
   have ags:=bM.vt
   have adN:y.get r=h.get r:=e4.get r xm It
   have vx:y.get r=some (.cells [.int .i64 (Int.ofNat k),.str nm,vw,DK,c0] 80 bk aI up):=adN.trans rV
   have adO:kL F (y.room 19) vw (ns.map .str):=kL.bO (λb ae=>⟨ae,e4.get b (fR b ae) ae⟩) oC
   obtain⟨DM,adP,P1⟩:=acr (m+1) adO (λb ae=>by have:=fR b ae;have:(y.room 19).n=y.n+19:=rfl;omega) (λs hs=>(jc s hs).1) (by omega) (by have:=PX adJ;omega)
   have PF:(y.room 19).n=y.n+19:=rfl
   have agt:=P1.n
   have AM:∀d,d<y.n->DM.get d=y.get d:=λd ao=>P1.get d (by omega)
   have adQ:kd ad.n aa.n DM (eP (da xs s).1):=kd.PE ae (by omega) λd ao _=>AM d ao
   have ku:=DD xs s
   obtain⟨au,cs,P2,adR⟩:=adb (m+4) aa.n ad.n DM _ adQ (by rw[Im];omega)
   have agu:=P2.n
   have P3:∀d,d<y.n->jT 5 (y.get d)->au.get d=y.get d:=λd ao aj=>by
    have aK:=AM d ao
    exact(adR d (by omega) (by rw[aK];exact aj)).trans aK
   have ge:au.get ai.n=some (mr n0 v2 a_):=(P3 ai.n (by omega) (by rw[bM.eF];exact Ay)).trans bM.eF
   have Iw:∀d,d<h.n->au.get d=y.get d:=λd ao=>(P2.get d (by omega)).trans (AM d (by omega))
   obtain⟨ay,gL⟩:∃ay,ay=au.set ai.n (some (mr [.int .i64 (Int.ofNat k),.str nm,.str (gB ns),.str (eP (da xs s).1),.int .u64 (Int.ofNat 0)] v2 a_)):=⟨_,rfl⟩
   have rW:lP F h p ai.n aa.n v2 a_ ns (da xs s).1 [.int .i64 (Int.ofNat k),.str nm,.str (gB ns),.str (eP (da xs s).1),.int .u64 (Int.ofNat 0)] (da xs s).2 ay:=by
    refine bM.next fR (by rw[gL];simp;omega) (λd ao pE aj=>?_) (λd ao=>?_) (by rw[gL];exact gk rfl)
    · rw[gL];exact(dB pE rfl).trans (P3 d ao aj)
    · rw[gL];exact(dB (by omega) rfl).trans (Iw d ao)
   refine a4.seq (p:=[1,1,1,1,1]) (by kernel_rfl) (ac9 _ p r ai.n aa.n y ⟨k,aT (h:=y.room 19) vx rfl,nm,aT (h:=y.room 19) vx rfl,vw,aT (h:=y.room 19) vx rfl,gB ns,DM,adP,eP (da xs s).1,au,cs,ay,by rw[gL];exact gN ge rfl rfl,aT ((Iw r xm).trans vx) rfl,aT ((AM r (by omega)).trans vx) rfl,aT ((Iw r xm).trans vx) rfl,aT ((AM r (by omega)).trans vx) rfl,?_,?_⟩)
   · rcases oC with⟨rfl,_⟩|⟨b,off,cp,rfl,_⟩<;>rfl
   obtain⟨kW,_,adS⟩:=xt xs hs
   obtain⟨eu,fI,_⟩:=DC xs s
   have DN:=DE xs s (λu hu=>vd ag hu) fu
   have node3:ay.get r=some (.cells [.int .i64 (Int.ofNat k),.str nm,vw,DK,c0] 80 bk aI up):=(rW.e4.get r xm It).trans rV
   have adT:∀i∈(da xs s).1,i<18446744073709551616:=λi af=>by
    obtain⟨q,aJ,pv⟩:=adS i af
    have:=(kW.aI q aJ).2.1
    omega
   have Aq:=Px rt (da xs s).2
   have fin:∀{s2 r2 kp},lP F h p ai.n aa.n v2 a_ ns (da xs s).1 [.int .i64 (Int.ofNat k),.str nm,.str (gB ns),.str (eP (da xs s).1),.int .u64 (Int.ofNat r2)] s2 kp->(r2,s2)=g1 rt (da xs s).2->a4 Tryz.prog Tryz.f26 (Y (m+5)) [1,1,1,1,1,1,1] ⟨[(0,.ptr p 0),(6,.ptr ai.n 0)],[],.none,kp⟩ (λb9 st=>b9=.ret/\∃g,st=⟨[(4,.int .u64 (Int.ofNat (cM (.mk k nm ns xs rt) s).1))],[],.none,g⟩/\g8 F g p (cM (.mk k nm ns xs rt) s).2/\b2 F h g):=by
    intro s2 r2 kp DO P4
    have adU:(g1 rt (da xs s).2).1=r2:=by rw[<-P4]
    have P5:(g1 rt (da xs s).2).2=s2:=by rw[<-P4]
    obtain⟨re,_,_⟩:=Hy rt kW
    have EZ:=PB rt (da xs s).2 (λu hu=>by subst hu;exact Ik ag) DN
    rw[P5] at re EZ Aq
    have:=ado (m+2) fR DO re EZ (by omega) (by omega) jc (by omega) adT
    rw[cM,adU,P5]
    exact this
   refine a4.seq (p:=[1,1,1,1,1,1]) (by kernel_rfl) ?_
   cases rt with
   |none=>
    have e:c0=.aZ:=yT
    subst e
    exact ada _ p r ai.n ay ⟨aT node3 rfl,fin rW (by rw[g1])⟩
   |some u=>
    have hu:=Ik ag
    rw[iP] at bA
    obtain⟨kO,adV⟩:=dY.ptr yT
    subst adV
    have AD:=Is N u (by omega) hu (m+5) (by omega)
    have DP:dY (Loc F ay ai.n aa.n v2 a_) ay u (.ptr kO 0):=dY.bO (λb ae=>⟨⟨by have:=fR b ae;have:=rW.e4.n;omega,.inl ae⟩,rW.e4.get b (fR b ae) ae⟩) _ _ yT
    obtain⟨bg,fO,adW,gV⟩:=AD _ ay p (.ptr kO 0) _ rW.st kW DN (by omega) (by omega) (λb ae=>ae.1) DP
    have adX:bg.get ai.n=some (mr [.int .i64 (Int.ofNat k),.str nm,.str (gB ns),.str (eP (da xs s).1),.int .u64 (Int.ofNat 0)] v2 a_):=(gV.get _ (by have:=rW.km;omega) ⟨by have:=rW.km;omega,.inr (.inl rfl)⟩).trans rW.eF
    exact ac_ _ p r ai.n ay ⟨kO,aT node3 rfl,kO,aT node3 rfl,(cM u (da xs s).2).1,bg,fO,_,gN adX rfl rfl,fin (rW.child fR adW gV) (by rw[g1])⟩
  refine ac6 _ p r ai.n aa.n ad ⟨DK,aT ((AL.get r xm).trans rV) rfl,vs.length,adM ad,?_⟩
  rcases sj with⟨rfl,rfl⟩|⟨b,off,cp,rfl,P6,fB,yd,_⟩
  · have dc:xs=[]:=List.eq_nil_of_length_eq_zero (by rw[<-Be];rfl)
    subst dc
    refine a4.loop (by kernel_rfl) (λk st=>∃Γ,st=⟨Γ,[],.none,ad⟩/\cd [(0,.ptr p 0),(1,.ptr r 0),(5,.fn 26 [.ptr p 0] []),(6,.ptr ai.n 0),(7,.ptr aa.n 0),(25,.aS),(26,.int .i64 (Int.ofNat 0)),(27,.int .i64 (Int.ofNat 0))] Γ) ?_ 0 _ (by omega) ⟨_,rfl,rfl,rfl,rfl,rfl,rfl,rfl,rfl,rfl,trivial⟩
    rintro dh st ⟨Γ,rfl,cL⟩
    refine a4.pre (ac8 _ p r ai.n aa.n .aS ad ⟨by omega,ad,_,rfl,rfl,⟨rfl,rfl,rfl,rfl,rfl,trivial⟩,?_⟩) cL rfl rfl rfl
    exact rest ad .aS [] (by rw[da];exact P0) (by rw[da];exact lg)
  · refine a4.loop (by kernel_rfl) (λk st=>∃i y a_ Γ,st=⟨Γ,[],.none,y⟩/\cd [(0,.ptr p 0),(1,.ptr r 0),(5,.fn 26 [.ptr p 0] []),(6,.ptr ai.n 0),(7,.ptr aa.n 0),(25,.slice b off vs.length cp),(26,.int .i64 (Int.ofNat vs.length)),(27,.int .i64 (Int.ofNat i))] Γ/\vs.length-i=k/\i<=vs.length/\lP F h p ai.n aa.n v2 a_ ns (da (xs.take i) s).1 n0 (da (xs.take i) s).2 y/\kd ad.n aa.n y (eP (da (xs.take i) s).1)) ?_ vs.length _ (by omega) ⟨0,ad,.aS,_,rfl,⟨rfl,rfl,rfl,rfl,rfl,rfl,rfl,rfl,trivial⟩,by omega,by omega,by rw[List.take_zero,da];exact P0,by rw[List.take_zero,da];exact lg⟩
    rintro dh st ⟨i,y,a_,Γ,rfl,cL,e0,af,bM,ae⟩
    refine a4.pre (ac7 _ p r ai.n aa.n b off _ i cp y ⟨λi1=>?_,λi1=>?_⟩) cL rfl rfl rfl
    · have i2:i<xs.length:=by omega
      have yv:=cT.get PY i i1 i2
      obtain⟨ma,p9⟩:=dY.ptr yv
      have ci:=vd ag (show xs[i]∈(aC.mk k nm ns xs rt).xs from List.getElem_mem i2)
      have adY:=PW xs i2
      have AD:=Is N xs[i] (by omega) ci (m+5) (by omega)
      obtain⟨kW,_,_⟩:=xt (xs.take i) hs
      obtain⟨eu,fI,_⟩:=DC (xs.take i) s
      have DN:=DE (xs.take i) s (λu hu=>vd ag (List.mem_of_mem_take hu)) fu
      obtain⟨HR,d1,d2,jU,Ao,d3,d4,HS,d5,HT,d6,P7,d7,m8,hT⟩:=adf (m+2) fR bM ae (by omega) (by have:=bM.vt;omega) AD kW DN (by omega) (by omega) yv (by rw[DD,List.length_take];omega)
      rw[p9] at d1
      have P8:da (xs.take (i+1)) s=((da (xs.take i) s).1++[(cM xs[i] (da (xs.take i) s).2).1],(cM xs[i] (da (xs.take i) s).2).2):=by
       rw[List.take_succ_eq_append_getElem i2,Py]
      have EG:ar y b (off+i*1)=some (.ptr ma 0):=by
       have e:=bM.e4.get b (fR b P6) P6
       have ax:=fB i i1
       rw[p9] at ax
       rw[<-ax];exact Dd e
      exact⟨i1,ma,EG,_,HR,d1,a_,d2,jU,Ao,d3,d4,HS,d5,_,HT,d6,_,_,P7,d7,by omega,_,(by show _<dh;omega),i+1,P7,jU,_,rfl,⟨rfl,rfl,rfl,rfl,rfl,rfl,rfl,rfl,trivial⟩,rfl,by omega,by rw[P8];exact m8,by rw[P8];exact hT⟩
    · obtain rfl:i=vs.length:=by omega
      have e:xs.take vs.length=xs:=List.take_of_length_le (by omega)
      rw[e] at bM ae
      exact⟨y,_,rfl,rfl,⟨rfl,rfl,rfl,rfl,rfl,trivial⟩,rest y a_ [] bM ae⟩
end Go.Proofs.jj
