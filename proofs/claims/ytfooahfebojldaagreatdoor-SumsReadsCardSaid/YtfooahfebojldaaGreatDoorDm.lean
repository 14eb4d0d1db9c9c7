/-
  PROVED HERE: contracts of functions (Dm). No condition beside each statement's own.
-/
import Derived.Test.YtfooahfebojldaaGreatDoorDl
import Derived.Test.YtfooahfebojldaaGreatDoorTx
set_option linter.unusedVariables false
set_option linter.unusedSimpArgs false
namespace Go.Proofs.ew
open Go aC Go.Proofs dD Go.Proofs.cT
open Go.Proofs.df (hN db jg)
open Go.Proofs.eN (e5 cf aI ch fm)
set_option maxRecDepth 100000
set_option maxHeartbeats 1000000
abbrev j7(p n:Nat)(b:Bool):cJ:=.cells [.ptr p 0,.int .i64 (Int.ofNat n),.bool b] 75 .own 0 0
theorem db.jz{h g:aa}{p:Nat}{st:cf}(al:db h p st)(aM:h.n<=g.n)(ax:g.get p=h.get p):db g p st:=⟨Nat.lt_of_lt_of_le al.1 aM,al.2.1,ax.trans al.2.2⟩
theorem db.l1{h:aa}{p b:Nat}{st:cf}{o:Option cJ}(al:db h p st)(ag:p≠b):db (h.set b o) p st:=db.jz al (by simp) (by rw[aa.bV,if_neg ag])
theorem db.zy{h:aa}{p:Nat}{st:cf}{o:cJ}(al:db h p st):db (h.push o) p st:=db.jz al (by simp) (by rw[aa.e6,if_neg (by have:=al.1;omega)])
theorem db.sU{h:aa}{p k:Nat}{st:cf}(al:db h p st):db (h.room k) p st:=db.jz al (by simp) rfl
structure s6(p q r base H0:Nat):Prop where
 sW:p<q
 q0:q<H0
 gw:H0<=r
 bq:r<base
structure jl(p q r k base:Nat)(az:aa)(bk a6:J)(F:Nat->Prop)(rs:List Nat)(s:Acc)(h:aa):Prop where
 rd:db h p s.1.1
 fi:h.get q=some (j7 p s.1.2 false)
 bS:Fr p q az.n az h
 bs:base<=h.n
 c6:h.get r=some (ga k bk a6)
 jj:fj CE 1 9 base h bk s.2.1
 fY:fj zA 1 47 base h a6 rs
 c7:gu F h s.2.2 (rs.map λr=>.ptr r 0)
 fh:∀b,F b->base<=b/\b<h.n/\(∀n aH,bk≠ .slice b 0 n aH)/\(∀n aH,a6≠ .slice b 0 n aH)
theorem jl.len{p q r k base:Nat}{az h:aa}{bk a6:J}{F:Nat->Prop}{rs:List Nat}{s:Acc}(w:jl p q r k base az bk a6 F rs s h):rs.length=s.2.2.length:=by
 have:=gu.GG w.c7
 simpa using this
theorem jl.later{p q r k base:Nat}{az h g:aa}{bk a6:J}{F:Nat->Prop}{rs:List Nat}{s:Acc}(aj:s6 p q r base az.n)(w:jl p q r k base az bk a6 F rs s h){st:cf}{n:Nat}(al:db g p st)(aS:g.get q=some (j7 p n false))(aM:h.n<=g.n)(ax:∀d,d<h.n->d≠p->d≠q->g.get d=h.get d):jl p q r k base az bk a6 F rs ((st,n),s.2) g:=by
 obtain⟨ab,ae,gz,oA⟩:=aj
 have b4:=w.bs
 have ag:∀d,base<=d->d<h.n->g.get d=h.get d:=λd aj aD=>ax d aD (by omega) (by omega)
 exact⟨al,aS,w.bS.trans w.bS.n ⟨aM,λd aj aU aS=>ax d aj aU aS⟩,by omega,(ax r (by omega) (by omega) (by omega)).trans w.c6,fj.oz w.jj aM ag,fj.oz w.fY aM ag,gu.b0 (λd aj=>⟨aj,ag d (w.fh d aj).1 (w.fh d aj).2.1⟩) _ _ w.c7,λd aj=>by obtain⟨bx,bI,cP,dK⟩:=w.fh d aj;exact⟨bx,by omega,cP,dK⟩⟩
theorem jl.arg{p q r k base:Nat}{az h:aa}{bk a6:J}{F:Nat->Prop}{rs:List Nat}{s:Acc}(aj:s6 p q r base az.n)(w:jl p q r k base az bk a6 F rs s h){t:a_}{u:Nat}{G:Nat->Prop}{src:J}(bh:gM G h t (.ptr u 0))(eS:∀b,G b->base<=b/\b<h.n/\(∀n aH,bk≠ .slice b 0 n aH)/\(∀n aH,a6≠ .slice b 0 n aH))(hs:ha h 1 src=some (1,[.ptr u 0]))(aD:s.2.2.length<=1000):
  ∃g v,v=.slice h.n 0 (rs++[u]).length (.a5 1)/\gf Tryz.prog h 49 (some 49) a6 src=some (v,g)/\g.get r=some (ga k bk a6)/\jl p q r k base az bk v (λb=>F b\/G b) (rs++[u]) (s.1,(s.2.1,s.2.2++[t])) (g.set r (some (ga k bk v))):=by
 have hlen:=w.len
 obtain⟨g,e,aq,eQ,ks,jy⟩:=sV GB (d:=u) w.fY w.bs hs (by omega)
 obtain⟨ab,ae,gz,oA⟩:=aj
 have b4:=w.bs
 have lw:∀d,d<base->g.get d=h.get d:=λd aj=>ks.get d aj
 have dJ:∀d,d≠r->(g.set r (some (ga k bk (.slice h.n 0 (rs++[u]).length (.a5 1))))).get d=g.get d:=λd aj=>by rw[aa.bV,if_neg aj]
 refine⟨g,_,rfl,e,(lw r oA).trans w.c6,?_⟩
 refine⟨db.jz w.rd (by simp;omega) ((dJ p (by omega)).trans (lw p (by omega))),(dJ q (by omega)).trans ((lw q (by omega)).trans w.fi),w.bS.trans (Nat.le_refl _) ⟨by simp;omega,λd aj _ _=>(dJ d (by omega)).trans (lw d (by omega))⟩,by simp;omega,dF rfl,?_,?_,?_,?_⟩
 · rcases w.jj with aF|⟨x,aF,aG,bJ,dh,iq⟩
   · exact .inl aF
   · exact .inr ⟨x,aF,aG,(dJ x (by omega)).trans ((jy x iq (w.fY.ne bJ (.inr (by decide)))).trans bJ),dh,by simp;omega⟩
 · exact .inr ⟨h.n,rfl,by simp,(dJ h.n (by omega)).trans aq,b4,by simp;omega⟩
 · have aF:gu (λb=>F b\/G b) (g.set r (some (ga k bk (.slice h.n 0 (rs++[u]).length (.a5 1))))) s.2.2 (rs.map λr=>.ptr r 0):=gu.b0 (λd aj=>⟨.inl aj,by
     obtain⟨bx,bI,cP,dK⟩:=w.fh d aj
     exact(dJ d (by omega)).trans (jy d bI dK)⟩) _ _ w.c7
   have aG:gM (λb=>F b\/G b) (g.set r (some (ga k bk (.slice h.n 0 (rs++[u]).length (.a5 1))))) t (.ptr u 0):=gM.b0 (λd aj=>⟨.inr aj,by
    obtain⟨bx,bI,cP,dK⟩:=eS d aj
    exact(dJ d (by omega)).trans (jy d bI dK)⟩) _ _ bh
   show gu _ _ (s.2.2++[t]) ((rs++[u]).map _)
   rw[List.map_append]
   exact gu.snoc aG aF
 · intro d aj
   have key:base<=d/\d<h.n/\(∀n aH,bk≠ .slice d 0 n aH)/\(∀n aH,a6≠ .slice d 0 n aH):=by
    rcases aj with aj|aj
    · exact w.fh d aj
    · exact eS d aj
   obtain⟨bx,bI,cP,dK⟩:=key
   refine⟨bx,by simp;omega,cP,λn aH e=>?_⟩
   injection e with aF
   omega
theorem jl.name{p q r k base:Nat}{az h:aa}{bk a6:J}{F:Nat->Prop}{rs:List Nat}{s:Acc}(aj:s6 p q r base az.n)(w:jl p q r k base az bk a6 F rs s h){x:bc}{src:J}(hs:ha h 1 src=some (1,[.str x]))(aD:s.2.1.length<=1000):
  ∃g v,v=.slice h.n 0 (s.2.1++[x]).length (.a5 1)/\gf Tryz.prog h 48 (some 48) bk src=some (v,g)/\g.get r=some (ga k bk a6)/\jl p q r k base az v a6 F rs (s.1,(s.2.1++[x],s.2.2)) (g.set r (some (ga k v a6))):=by
 obtain⟨g,e,aq,eQ,ks,jy⟩:=sV Nu (d:=x) w.jj w.bs hs (by omega)
 obtain⟨ab,ae,gz,oA⟩:=aj
 have b4:=w.bs
 have lw:∀d,d<base->g.get d=h.get d:=λd aj=>ks.get d aj
 have dJ:∀d,d≠r->(g.set r (some (ga k (.slice h.n 0 (s.2.1++[x]).length (.a5 1)) a6))).get d=g.get d:=λd aj=>by rw[aa.bV,if_neg aj]
 refine⟨g,_,rfl,e,(lw r oA).trans w.c6,?_⟩
 refine⟨db.jz w.rd (by simp;omega) ((dJ p (by omega)).trans (lw p (by omega))),(dJ q (by omega)).trans ((lw q (by omega)).trans w.fi),w.bS.trans (Nat.le_refl _) ⟨by simp;omega,λd aj _ _=>(dJ d (by omega)).trans (lw d (by omega))⟩,by simp;omega,dF rfl,?_,?_,?_,?_⟩
 · exact .inr ⟨h.n,rfl,by simp,(dJ h.n (by omega)).trans aq,b4,by simp;omega⟩
 · rcases w.fY with aF|⟨x,aF,aG,bJ,dh,iq⟩
   · exact .inl aF
   · exact .inr ⟨x,aF,aG,(dJ x (by omega)).trans ((jy x iq (w.jj.ne bJ (.inr (by decide)))).trans bJ),dh,by simp;omega⟩
 · exact gu.b0 (λd aj=>⟨aj,by
    obtain⟨bx,bI,cP,dK⟩:=w.fh d aj
    exact(dJ d (by omega)).trans (jy d bI cP)⟩) _ _ w.c7
 · intro d aj
   obtain⟨bx,bI,cP,dK⟩:=w.fh d aj
   refine⟨bx,by simp;omega,λn aH e=>?_,dK⟩
   injection e with aF
   omega
structure s7(p q r k base wP:Nat)(az h:aa):Prop where
 rd:∃st n bad,db h p st/\h.get q=some (j7 p n bad)/\wP<=n/\(bad=true\/(st=none/\n<=60))
 bS:Fr p q az.n az h
 bs:base<=h.n
 c6:∃bk a6,h.get r=some (ga k bk a6)
def vb(p q wP:Nat)(h:aa)(o:Option (a_×Q))(x:ao):Prop:=match o with
 |none=>∃r g st n bad,x=.ret (.ptr r 0) g/\Fr p q h.n h g/\db g p st/\g.get q=some (j7 p n bad)/\wP<=n/\(bad=true\/(st=none/\n<=60))
 |some (t,st,n)=>∃r g F,x=.ret (.ptr r 0) g/\Fr p q h.n h g/\db g p st/\g.get q=some (j7 p n false)/\gM F g t (.ptr r 0)/\∀b,F b->h.n<=b/\b<g.n
def zV(m j:Nat):Prop:=∀(p q:Nat) (h:aa) (st:cf) (n:Nat),p<q->q<h.n->db h p st->h.get q=some (j7 p n false)->n<=60->61<=j+n->dg st<90000->vb p q n h (ct 1 j (st,n)) (Y m (.fn 60) [.ptr q 0] h)
end Go.Proofs.ew
namespace Go.Proofs.ew
open Go aC Go.Proofs dD Go.Proofs.cT
open Go.Proofs.df (hN db jg)
open Go.Proofs.eN (e5 cf aI ch fm)
set_option maxRecDepth 100000
set_option maxHeartbeats 1000000
theorem rC(m:Nat)(q:Nat)(h:aa){R:ao->Prop}(H:∃a1:Nat,av h q (0+1)=some (.int .i64 (.ofNat a1))/\a1+1<9223372036854775808/\∃aq:aa,aC.storeCells h q (0+1) [.int .i64 (.ofNat (a1+1))]=some aq/\∃bL:Nat,av aq q (0+0)=some (.ptr bL 0)/\∃cm:Nat,∃ak:aa,(Y m) (.fn 31) [.ptr bL 0] aq=.ret (.int .u64 (.ofNat cm)) ak/\∃cn:Nat,lg mz (.int .u64 (.ofNat cm)) [.int .u64 (.ofNat 100)]=some (.int .u64 (.ofNat cn))/\∃cz:Nat,ec Tryz.prog 65 3 (.int .u64 (.ofNat cn)) ak=fc.val (.int .i64 (.ofNat cz)) ak/\∃cV:Nat,av (aa.push ak (.cells [.int .i64 (.ofNat cz),.str [],.aA,.aA,.bb] 51 .own 0 0)) q (0+1)=some (.int .i64 (.ofNat cV))/\(60<cV->∃aQ:aa,aC.storeCells (aa.push ak (.cells [.int .i64 (.ofNat cz),.str [],.aA,.aA,.bb] 51 .own 0 0)) q (0+2) [.bool true]=some aQ/\R (.ret (.ptr ak.n 0) aQ))/\(¬60<cV->∃ej:Nat,av (aa.push ak (.cells [.int .i64 (.ofNat cz),.str [],.aA,.aA,.bb] 51 .own 0 0)) q (0+0)=some (.ptr ej 0)/\∃a8:Bool,∃a3:aa,(Y m) (.fn 59) [.ptr ej 0] (aa.push ak (.cells [.int .i64 (.ofNat cz),.str [],.aA,.aA,.bb] 51 .own 0 0))=.ret (.bool a8) a3/\(a8=true->∃fC:Nat,av a3 ak.n (0+0)=some (.int .i64 (.ofNat fC))/\(fC<1->∃bZ:aa,aC.storeCells a3 q (0+2) [.bool true]=some bZ/\R (.ret (.ptr ak.n 0) bZ))/\(¬fC<1->∃fZ:Nat,av a3 ak.n (0+0)=some (.int .i64 (.ofNat fZ))/\(9<fZ->∃b2:aa,aC.storeCells a3 q (0+2) [.bool true]=some b2/\R (.ret (.ptr ak.n 0) b2))/\(¬9<fZ->∃eI:Nat,av a3 ak.n (0+0)=some (.int .i64 (.ofNat eI))/\(eI=6->∃iJ:Nat,av a3 q (0+0)=some (.ptr iJ 0)/\∃s1:List UInt8,∃b5:aa,(Y m) (.fn 30) [.ptr iJ 0] a3=.ret (.str s1) b5/\∃b1:aa,aC.storeCells b5 ak.n (0+1) [.str s1]=some b1/\∃iK:Nat,av b1 ak.n (0+0)=some (.int .i64 (.ofNat iK))/\(iK=8->∃aW:Bool,av b1 q (0+2)=some (.bool aW)/\(aW=true->R (.ret (.ptr ak.n 0) b1))/\(aW=false->∃kN:Nat,∃dk:aa,(Y m) (.fn 60) [.ptr q 0] b1=.ret (.ptr kN 0) dk/\∃gg:aa,aC.storeCells dk ak.n (0+4) [.ptr kN 0]=some gg/\R (.ret (.ptr ak.n 0) gg)))/\(¬iK=8->R (.ret (.ptr ak.n 0) b1)))/\(¬eI=6->(eI=7->∃nF:Nat,av a3 q (0+0)=some (.ptr nF 0)/\∃mm:Nat,∃fv:aa,(Y m) (.fn 31) [.ptr nF 0] a3=.ret (.int .u64 (.ofNat mm)) fv/\bz Tryz.prog Tryz.f60 (Y m) [1,1,1,1,0,1,0,1,1,1,0,1,1,0] (af.mk [(0,.ptr q 0),(3,.ptr ak.n 0),(4,.int .u64 (.ofNat mm)),(5,.int .u64 (.ofNat 0))] [] .none fv) (λdv dw=>∃w3:Nat,∃qz:Nat,∃hK:aa,∃bK:Env,dv=.exit 1/\dw=af.mk bK [] .none hK/\cN [(0,.ptr w3 0),(3,.ptr qz 0)] bK/\∃w4:Nat,av hK qz (0+0)=some (.int .i64 (.ofNat w4))/\(w4=8->∃ds:Bool,av hK w3 (0+2)=some (.bool ds)/\(ds=true->R (.ret (.ptr qz 0) hK))/\(ds=false->∃w5:Nat,∃oB:aa,(Y m) (.fn 60) [.ptr w3 0] hK=.ret (.ptr w5 0) oB/\∃oC:aa,aC.storeCells oB qz (0+4) [.ptr w5 0]=some oC/\R (.ret (.ptr qz 0) oC)))/\(¬w4=8->R (.ret (.ptr qz 0) hK))))/\(¬eI=7->(eI=8->∃w6:Nat,av a3 q (0+0)=some (.ptr w6 0)/\∃w7:Nat,∃pv:aa,(Y m) (.fn 31) [.ptr w6 0] a3=.ret (.int .u64 (.ofNat w7)) pv/\bz Tryz.prog Tryz.f60 (Y m) [1,1,1,1,0,1,0,1,1,1,0,1,1,0] (af.mk [(0,.ptr q 0),(3,.ptr ak.n 0),(4,.int .u64 (.ofNat w7)),(5,.int .u64 (.ofNat 0))] [] .none pv) (λdv dw=>∃w8:Nat,∃ru:Nat,∃l3:aa,∃bQ:Env,dv=.exit 1/\dw=af.mk bQ [] .none l3/\cN [(0,.ptr w8 0),(3,.ptr ru 0)] bQ/\∃u6:Nat,av l3 ru (0+0)=some (.int .i64 (.ofNat u6))/\(u6=8->∃ja:Bool,av l3 w8 (0+2)=some (.bool ja)/\(ja=true->R (.ret (.ptr ru 0) l3))/\(ja=false->∃zD:Nat,∃m2:aa,(Y m) (.fn 60) [.ptr w8 0] l3=.ret (.ptr zD 0) m2/\∃sZ:aa,aC.storeCells m2 ru (0+4) [.ptr zD 0]=some sZ/\R (.ret (.ptr ru 0) sZ)))/\(¬u6=8->R (.ret (.ptr ru 0) l3))))/\(¬eI=8->(eI=9->∃zE:Nat,av a3 q (0+0)=some (.ptr zE 0)/\∃N3:Nat,∃pw:aa,(Y m) (.fn 31) [.ptr zE 0] a3=.ret (.int .u64 (.ofNat N3)) pw/\bz Tryz.prog Tryz.f60 (Y m) [1,1,1,1,0,1,0,1,1,1,0,1,1,0] (af.mk [(0,.ptr q 0),(3,.ptr ak.n 0),(4,.int .u64 (.ofNat N3)),(5,.int .u64 (.ofNat 0))] [] .none pw) (λdv dw=>∃G2:Nat,∃xd:Nat,∃oD:aa,∃dW:Env,dv=.exit 1/\dw=af.mk dW [] .none oD/\cN [(0,.ptr G2 0),(3,.ptr xd 0)] dW/\∃G3:Nat,av oD xd (0+0)=some (.int .i64 (.ofNat G3))/\(G3=8->∃ly:Bool,av oD G2 (0+2)=some (.bool ly)/\(ly=true->R (.ret (.ptr xd 0) oD))/\(ly=false->∃N4:Nat,∃qC:aa,(Y m) (.fn 60) [.ptr G2 0] oD=.ret (.ptr N4 0) qC/\∃px:aa,aC.storeCells qC xd (0+4) [.ptr N4 0]=some px/\R (.ret (.ptr xd 0) px)))/\(¬G3=8->R (.ret (.ptr xd 0) oD))))/\(¬eI=9->∃G4:Nat,av a3 ak.n (0+0)=some (.int .i64 (.ofNat G4))/\(G4=8->∃jx:Bool,av a3 q (0+2)=some (.bool jx)/\(jx=true->R (.ret (.ptr ak.n 0) a3))/\(jx=false->∃N5:Nat,∃xa:aa,(Y m) (.fn 60) [.ptr q 0] a3=.ret (.ptr N5 0) xa/\∃xb:aa,aC.storeCells xa ak.n (0+4) [.ptr N5 0]=some xb/\R (.ret (.ptr ak.n 0) xb)))/\(¬G4=8->R (.ret (.ptr ak.n 0) a3)))))))))/\(a8=false->∃zJ:aa,aC.storeCells a3 q (0+2) [.bool true]=some zJ/\R (.ret (.ptr ak.n 0) zJ)))):
  R (Y (m+1) (.fn 60) [.ptr q 0] h):=
 eM (intr:=cj) [(4001,.gr [0,3,4,5] [(.exit 1,[(0,.p),(3,.p)])])] [(0,.v (.ptr q 0))] Tryz.func60 (by kernel_rfl) (by kernel_rfl) (by kernel_rfl) rfl (Eq.mp (by kernel_rfl) H)
theorem vc(call:aE->List J->aa->ao)(q:Nat)(r:Nat)(n:Nat)(i:Nat)(h:aa){Q:bA->af->Prop}(H:(i<n->∃a8:Bool,av h q (0+2)=some (.bool a8)/\(a8=true->Q (.exit 1) (af.mk [(0,.ptr q 0),(3,.ptr r 0),(4,.int .u64 (.ofNat n)),(5,.int .u64 (.ofNat i))] [] .none h))/\(a8=false->∃a1:Nat,av h q (0+0)=some (.ptr a1 0)/\∃aW:Bool,∃aq:aa,call (.fn 59) [.ptr a1 0] h=.ret (.bool aW) aq/\(aW=true->∃bL:Nat,av aq r (0+0)=some (.int .i64 (.ofNat bL))/\(bL=7->∃v1:J,av (aq.room 15) r (0+2)=some v1/\∃cm:Nat,av (aq.room 15) q (0+0)=some (.ptr cm 0)/\∃s1:List UInt8,∃ak:aa,call (.fn 30) [.ptr cm 0] (aq.room 15)=.ret (.str s1) ak/\∃cn:Nat,∃cz:Nat,∃aQ:aa,gf Tryz.prog (aa.set ak (aq.n+10) (some (.cells [.str s1] 9 .own 0 0))) 48 (some 48) v1 (.slice (aq.n+10) 0 1 (.exact 1))=some (.slice cn 0 cz (.a5 1),aQ)/\∃a3:aa,aC.storeCells aQ r (0+2) [.slice cn 0 cz (.a5 1)]=some a3/\J.sound v1=true/\av (aa.set ak (aq.n+10) (some (.cells [.str s1] 9 .own 0 0))) r (0+2)=some v1/\∃v2:J,av (a3.room 12) r (0+3)=some v2/\∃cV:Nat,∃bZ:aa,call (.fn 60) [.ptr q 0] (a3.room 12)=.ret (.ptr cV 0) bZ/\∃ej:Nat,∃fC:Nat,∃b2:aa,gf Tryz.prog (aa.set bZ (a3.n+7) (some (.cells [.ptr cV 0] 47 .own 0 0))) 49 (some 49) v2 (.slice (a3.n+7) 0 1 (.exact 1))=some (.slice ej 0 fC (.a5 1),b2)/\∃b5:aa,aC.storeCells b2 r (0+3) [.slice ej 0 fC (.a5 1)]=some b5/\J.sound v2=true/\av (aa.set bZ (a3.n+7) (some (.cells [.ptr cV 0] 47 .own 0 0))) r (0+3)=some v2/\i+1<18446744073709551616/\Q .nrm (af.mk [(0,.ptr q 0),(3,.ptr r 0),(4,.int .u64 (.ofNat n)),(5,.int .u64 (.ofNat (i+1)))] [] .none b5))/\(¬bL=7->∃dS:J,av (aq.room 12) r (0+3)=some dS/\∃fZ:Nat,∃b1:aa,call (.fn 60) [.ptr q 0] (aq.room 12)=.ret (.ptr fZ 0) b1/\∃eI:Nat,∃iJ:Nat,∃dk:aa,gf Tryz.prog (aa.set b1 (aq.n+7) (some (.cells [.ptr fZ 0] 47 .own 0 0))) 49 (some 49) dS (.slice (aq.n+7) 0 1 (.exact 1))=some (.slice eI 0 iJ (.a5 1),dk)/\∃gg:aa,aC.storeCells dk r (0+3) [.slice eI 0 iJ (.a5 1)]=some gg/\J.sound dS=true/\av (aa.set b1 (aq.n+7) (some (.cells [.ptr fZ 0] 47 .own 0 0))) r (0+3)=some dS/\i+1<18446744073709551616/\Q .nrm (af.mk [(0,.ptr q 0),(3,.ptr r 0),(4,.int .u64 (.ofNat n)),(5,.int .u64 (.ofNat (i+1)))] [] .none gg)))/\(aW=false->Q (.exit 1) (af.mk [(0,.ptr q 0),(3,.ptr r 0),(4,.int .u64 (.ofNat n)),(5,.int .u64 (.ofNat i))] [] .none aq))))/\(¬i<n->Q (.exit 1) (af.mk [(0,.ptr q 0),(3,.ptr r 0),(4,.int .u64 (.ofNat n)),(5,.int .u64 (.ofNat i))] [] .none h))):
  bz Tryz.prog Tryz.f60 call [1,1,1,1,0,1,0,1,1,1,0,1,1,0,0] ⟨[(0,.ptr q 0),(3,.ptr r 0),(4,.int .u64 (.ofNat n)),(5,.int .u64 (.ofNat i))],[],.none,h⟩ Q:=
 hz [(111,.cI (.sr (.a5 1))),(122,.cI (.sr (.a5 1)))] [0,3,4,5] [(0,.v (.ptr q 0)),(3,.v (.ptr r 0)),(4,.v (.int .u64 (.ofNat n))),(5,.v (.int .u64 (.ofNat i)))] rfl (Eq.mp (by kernel_rfl) H)
theorem N6(m:Nat)(q:Nat)(h:aa){R:ao->Prop}(H:∃a1:Nat,av h q (0+0)=some (.ptr a1 0)/\∃bL:Nat,∃aq:aa,(Y m) (.fn 31) [.ptr a1 0] h=.ret (.int .u64 (.ofNat bL)) aq/\bz Tryz.prog Tryz.f32 (Y m) [1,1,1,0,1,0] (af.mk [(0,.ptr q 0),(3,.aA),(4,.int .u64 (.ofNat bL)),(5,.int .u64 (.ofNat 0))] [] .none aq) (λdv dw=>∃v1:J,∃ak:aa,∃bK:Env,dv=.exit 0/\dw=af.mk bK [] .none ak/\cN [(3,v1)] bK/\R (.ret v1 ak))):
  R (Y (m+1) (.fn 32) [.ptr q 0] h):=
 eM (intr:=cj) [(4000,.gr [0,3,4,5] [(.exit 0,[(3,.o)])])] [(0,.v (.ptr q 0))] Tryz.func32 (by kernel_rfl) (by kernel_rfl) (by kernel_rfl) rfl (Eq.mp (by kernel_rfl) H)
theorem rD(call:aE->List J->aa->ao)(q:Nat)(n:Nat)(i:Nat)(v:J)(h:aa){Q:bA->af->Prop}(H:(i<n->∃a8:Bool,av h q (0+2)=some (.bool a8)/\(a8=true->Q (.exit 0) (af.mk [(0,.ptr q 0),(3,v),(4,.int .u64 (.ofNat n)),(5,.int .u64 (.ofNat i))] [] .none h))/\(a8=false->∃a1:Nat,av h q (0+0)=some (.ptr a1 0)/\∃aW:Bool,∃aq:aa,call (.fn 59) [.ptr a1 0] h=.ret (.bool aW) aq/\(aW=true->∃ak:aa,aC.storeCells aq q (0+1) [.int .i64 (.ofNat 0)]=some ak/\∃bL:Nat,av ak q (0+0)=some (.ptr bL 0)/\∃s1:List UInt8,∃aQ:aa,call (.fn 30) [.ptr bL 0] ak=.ret (.str s1) aQ/\∃cm:Nat,∃a3:aa,call (.fn 60) [.ptr q 0] aQ=.ret (.ptr cm 0) a3/\∃cn:Nat,∃cz:Nat,∃bZ:aa,gf Tryz.prog (aa.push a3 (.cells [.str s1,.ptr cm 0] 53 .own 0 0)) 22 (some 22) v (.slice a3.n 0 1 (.exact 1))=some (.slice cn 0 cz (.a5 2),bZ)/\i+1<18446744073709551616/\Q .nrm (af.mk [(0,.ptr q 0),(3,.slice cn 0 cz (.a5 2)),(4,.int .u64 (.ofNat n)),(5,.int .u64 (.ofNat (i+1)))] [] .none bZ))/\(aW=false->Q (.exit 0) (af.mk [(0,.ptr q 0),(3,v),(4,.int .u64 (.ofNat n)),(5,.int .u64 (.ofNat i))] [] .none aq))))/\(¬i<n->Q (.exit 0) (af.mk [(0,.ptr q 0),(3,v),(4,.int .u64 (.ofNat n)),(5,.int .u64 (.ofNat i))] [] .none h))):
  bz Tryz.prog Tryz.f32 call [1,1,1,0,1,0,0] ⟨[(0,.ptr q 0),(3,v),(4,.int .u64 (.ofNat n)),(5,.int .u64 (.ofNat i))],[],.none,h⟩ Q:=
 hz [(45,.cI (.sr (.a5 2)))] [0,3,4,5] [(0,.v (.ptr q 0)),(3,.o v),(4,.v (.int .u64 (.ofNat n))),(5,.v (.int .u64 (.ofNat i)))] rfl (Eq.mp (by kernel_rfl) H)
theorem N7{m j:Nat}(ai:zV m j){p q r k base:Nat}{az h:aa}{bk a6:J}{F:Nat->Prop}{rs:List Nat}{s:Acc}(aj:s6 p q r base az.n)(w:jl p q r k base az bk a6 F rs s h)(aD:s.2.2.length<=1000)(fQ:s.1.2<=60)(aV:61<=j+s.1.2)(mv:dg s.1.1<90000):
  ∃u g c bN ak,Y m (.fn 60) [.ptr q 0] (h.room 12)=.ret (.ptr u 0) g/\gf Tryz.prog (g.set (h.n+7) (some (.cells [.ptr u 0] 47 .own 0 0))) 49 (some 49) a6 (.slice (h.n+7) 0 1 (.exact 1))=some (.slice c 0 bN (.a5 1),ak)/\(g.set (h.n+7) (some (.cells [.ptr u 0] 47 .own 0 0))).get r=some (ga k bk a6)/\ak.get r=some (ga k bk a6)/\match fx (ct 1 j) s with
   |none=>s7 p q r k base s.1.2 az (ak.set r (some (ga k bk (.slice c 0 bN (.a5 1)))))
   |some a2=>∃eT jA,jl p q r k base az bk (.slice c 0 bN (.a5 1)) eT jA a2 (ak.set r (some (ga k bk (.slice c 0 bN (.a5 1))))):=by
 have b4:=w.bs
 have hq:=aj
 obtain⟨ab,ae,gz,oA⟩:=hq
 have hlen:=w.len
 have eX:=ai p q (h.room 12) s.1.1 s.1.2 ab (by simp;omega) (db.sU w.rd) w.fi fQ aV mv
 unfold fx
 cases ad:ct 1 j s.1 with
 |none=>
  rw[ad] at eX
  obtain⟨u,g,st,n,bad,e,f,h1,aY,aM,py⟩:=eX
  have fn:=f.n
  simp only[aa.hh] at fn
  obtain⟨aq,cl⟩:∃aq,aq=g.set (h.n+7) (some (.cells [.ptr u 0] 47 .own 0 0)):=⟨_,rfl⟩
  have a1:aq.n=g.n:=by rw[cl];simp
  have dJ:∀d,d≠h.n+7->aq.get d=g.get d:=λd aj=>by rw[cl,aa.bV,if_neg aj]
  have bx:∀d,d<h.n->d≠p->d≠q->aq.get d=h.get d:=λd aj aU aS=>(dJ d (by omega)).trans (f.get d (by simp;omega) aU aS)
  have aaG:fj zA 1 47 base aq a6 rs:=fj.oz w.fY (by omega) λd aj aD=>bx d aD (by omega) (by omega)
  obtain⟨ak,fs,qC,eQ,ks,jy⟩:=sV GB (d:=u) aaG (by omega) (src:=.slice (h.n+7) 0 1 (.exact 1)) (by
   have:aC.loadCells aq (h.n+7) 0 (1*1)=some [.ptr u 0]:=by rw[cl];exact ie (dF rfl) rfl
   simp only[ha,this]) (by omega)
  have bq:=(bx r (by omega) (by omega) (by omega)).trans w.c6
  have G5:∀d,d≠r->(ak.set r (some (ga k bk (.slice aq.n 0 (rs++[u]).length (.a5 1))))).get d=ak.get d:=λd aj=>by rw[aa.bV,if_neg aj]
  subst cl
  refine⟨u,g,_,_,ak,e,fs,bq,(ks.get r oA).trans bq,⟨⟨st,n,bad,?_,?_,aM,py⟩,?_,?_,⟨_,_,dF rfl⟩⟩⟩
  · exact db.jz h1 (by simp;simp at eQ;omega) ((G5 p (by omega)).trans ((ks.get p (by omega)).trans (dJ p (by omega))))
  · exact(G5 q (by omega)).trans ((ks.get q (by omega)).trans ((dJ q (by omega)).trans aY))
  · exact w.bS.trans (Nat.le_refl _) ⟨by simp;simp at eQ;omega,λd aj aU aS=>(G5 d (by omega)).trans ((ks.get d (by omega)).trans (bx d (by omega) aU aS))⟩
  · simp;simp at eQ;omega
 |some x=>
  obtain⟨t,st,n⟩:=x
  rw[ad] at eX
  obtain⟨u,g,G,e,f,h1,aY,u4,eS⟩:=eX
  have fn:=f.n
  simp only[aa.hh] at fn eS
  obtain⟨aq,cl⟩:∃aq,aq=g.set (h.n+7) (some (.cells [.ptr u 0] 47 .own 0 0)):=⟨_,rfl⟩
  have dJ:∀d,d≠h.n+7->aq.get d=g.get d:=λd aj=>by rw[cl,aa.bV,if_neg aj]
  have bR:=w.later aj (g:=aq) (st:=st) (n:=n) (by rw[cl];exact db.l1 h1 (by omega)) ((dJ q (by omega)).trans aY) (by rw[cl];simp;omega) λd hq aU aS=>(dJ d (by omega)).trans (f.get d (by simp;omega) aU aS)
  have u5:gM G aq t (.ptr u 0):=gM.b0 (λd aj=>⟨aj,dJ d (by have:=eS d aj;omega)⟩) _ _ u4
  have a1:aq.n=g.n:=by rw[cl];simp
  obtain⟨aQ,v,rfl,fs,sX,jU⟩:=bR.arg aj u5 (src:=.slice (h.n+7) 0 1 (.exact 1)) (λd hq=>⟨by have:=eS d hq;omega,by have:=eS d hq;omega,fj.low w.jj (.inr (by have:=eS d hq;omega)),fj.low w.fY (.inr (by have:=eS d hq;omega))⟩) (by
   have:aC.loadCells aq (h.n+7) 0 (1*1)=some [.ptr u 0]:=by rw[cl];exact ie (dF rfl) rfl
   simp only[ha,this]) aD
  have wn:=bR.c6
  subst cl
  exact⟨u,g,_,_,aQ,e,fs,wn,sX,_,_,jU⟩
theorem aaH{m j:Nat}(hm:6<=m)(ai:zV m j){p q r k base n i:Nat}{az h:aa}{bk a6:J}{F:Nat->Prop}{rs:List Nat}{s:Acc}(aj:s6 p q r base az.n)(w:jl p q r k base az bk a6 F rs s h)(aD:s.2.2.length<=1000)(fQ:s.1.2<=60)(aV:61<=j+s.1.2)(mv:dg s.1.1<90000)(ax:¬k=7)(cp:s.1.1.isSome=true)(hi:i<n)(aM:n<18446744073709551616):
  ∃g,(match fx (ct 1 j) s with
   |none=>s7 p q r k base s.1.2 az g
   |some a2=>∃lY jd eT jA,jl p q r k base az lY jd eT jA a2 g)/\∀Q:bA->af->Prop,Q .nrm ⟨[(0,.ptr q 0),(3,.ptr r 0),(4,.int .u64 (Int.ofNat n)),(5,.int .u64 (Int.ofNat (i+1)))],[],.none,g⟩->bz Tryz.prog Tryz.f60 (Y m) [1,1,1,1,0,1,0,1,1,1,0,1,1,0,0] ⟨[(0,.ptr q 0),(3,.ptr r 0),(4,.int .u64 (Int.ofNat n)),(5,.int .u64 (Int.ofNat i))],[],.none,h⟩ Q:=by
 obtain⟨u,g,c,bN,ak,e,fs,bq,a9,ad⟩:=N7 ai aj w aD fQ aV mv
 have a7:=df.sQ (m-1) p s.1.1 h w.rd
 rw[show m-1+1=m by omega] at a7
 have iO:(!s.1.1.isNone)=true:=by cases hs:s.1.1 with|none=>rw[hs] at cp;cases cp|some _=>rfl
 rw[iO] at a7
 refine⟨ak.set r (some (ga k bk (.slice c 0 bN (.a5 1)))),?_,λQ kk=>vc (Y m) q r n i h ⟨λ_=>⟨false,ar w.fi rfl,nofun,λ_=>⟨p,ar w.fi rfl,true,h,a7,λ_=>⟨k,ar w.c6 rfl,λah=>absurd ah ax,λ_=>⟨a6,ar (eH w.c6) rfl,u,g,e,c,bN,ak,fs,_,dP a9 rfl rfl,fj.sound w.fY,ar bq rfl,by omega,kk⟩⟩,nofun⟩⟩,λah=>absurd hi ah⟩⟩
 cases bl:fx (ct 1 j) s with
 |none=>rw[bl] at ad;exact ad
 |some a2=>
  rw[bl] at ad
  obtain⟨eT,jA,ab⟩:=ad
  exact⟨_,_,eT,jA,ab⟩
end Go.Proofs.ew
namespace Go.Proofs.ew
open Go aC Go.Proofs dD Go.Proofs.cT
open Go.Proofs.df (hN db jg)
open Go.Proofs.eN (e5 cf aI ch fm)
set_option maxRecDepth 100000
set_option maxHeartbeats 1000000
theorem aaI{m j:Nat}(hm:6<=m)(ai:zV m j){p q r k base n i:Nat}{az h:aa}{bk a6:J}{F:Nat->Prop}{rs:List Nat}{s:Acc}(aj:s6 p q r base az.n)(w:jl p q r k base az bk a6 F rs s h)(aD:s.2.2.length<=1000)(jT:s.2.1.length<=1000)(fQ:s.1.2<=60)(aV:61<=j+s.1.2)(mv:dg s.1.1<90000)(ax:k=7)(cp:s.1.1.isSome=true)(hi:i<n)(aM:n<18446744073709551616):
  ∃g,(match kq (ct 1 j) s with
   |none=>s7 p q r k base s.1.2 az g
   |some a2=>∃lY jd eT jA,jl p q r k base az lY jd eT jA a2 g)/\∀Q:bA->af->Prop,Q .nrm ⟨[(0,.ptr q 0),(3,.ptr r 0),(4,.int .u64 (Int.ofNat n)),(5,.int .u64 (Int.ofNat (i+1)))],[],.none,g⟩->bz Tryz.prog Tryz.f60 (Y m) [1,1,1,1,0,1,0,1,1,1,0,1,1,0,0] ⟨[(0,.ptr q 0),(3,.ptr r 0),(4,.int .u64 (Int.ofNat n)),(5,.int .u64 (Int.ofNat i))],[],.none,h⟩ Q:=by
 have b4:=w.bs
 have hq:=aj
 obtain⟨ab,ae,gz,oA⟩:=hq
 have snd:J.sound bk=true:=fj.sound w.jj
 have aaJ:J.sound a6=true:=fj.sound w.fY
 have a7:=df.sQ (m-1) p s.1.1 h w.rd
 rw[show m-1+1=m by omega] at a7
 have iO:(!s.1.1.isNone)=true:=by cases hs:s.1.1 with|none=>rw[hs] at cp;cases cp|some _=>rfl
 rw[iO] at a7
 obtain⟨g,ek,gB,rt⟩:=df.Cq (m-4) p s.1.1 (h.room 15) (db.sU w.rd)
 rw[show m-4+4=m by omega] at ek
 have fn:=gB.n
 simp only[aa.hh] at fn
 obtain⟨aq,cl⟩:∃aq,aq=g.set (h.n+10) (some (.cells [.str (ch s.1.1).1] 9 .own 0 0)):=⟨_,rfl⟩
 have dJ:∀d,d≠h.n+10->aq.get d=g.get d:=λd aj=>by rw[cl,aa.bV,if_neg aj]
 have bR:=w.later aj (g:=aq) (st:=(ch s.1.1).2) (n:=s.1.2) (by rw[cl];exact db.l1 rt (by omega)) ((dJ q (by omega)).trans ((gB.get q (by simp;omega) (by omega)).trans w.fi)) (by rw[cl];simp;omega) λd hq aU aS=>(dJ d (by omega)).trans (gB.get d (by simp;omega) aU)
 obtain⟨aQ,v,aJ,fs,sX,jU⟩:=bR.name aj (x:=(ch s.1.1).1) (src:=.slice (h.n+10) 0 1 (.exact 1)) (by
  have:aC.loadCells aq (h.n+10) 0 (1*1)=some [.str (ch s.1.1).1]:=by rw[cl];exact ie (dF rfl) rfl
  simp only[ha,this]) jT
 have wn:=bR.c6
 have GI:=rp s.1.1
 obtain⟨u,a3,c,bN,bZ,iq,aaK,hY,wZ,ad⟩:=N7 ai aj jU aD fQ aV (by show dg (ch s.1.1).2<_;omega)
 have aaL:=jU.c6
 subst aJ
 subst cl
 refine⟨_,?_,λQ kk=>vc (Y m) q r n i h ⟨λ_=>⟨false,ar w.fi rfl,nofun,λ_=>⟨p,ar w.fi rfl,true,h,a7,λ_=>⟨k,ar w.c6 rfl,λ_=>⟨bk,ar (eH w.c6) rfl,p,ar (eH w.fi) rfl,_,g,ek,_,_,aQ,fs,_,dP sX rfl rfl,snd,ar wn rfl,a6,ar (eH aaL) rfl,u,a3,iq,c,bN,bZ,aaK,_,dP wZ rfl rfl,aaJ,ar hY rfl,by omega,kk⟩,λah=>absurd ax ah⟩,nofun⟩⟩,λah=>absurd hi ah⟩⟩
 have aF:kq (ct 1 j) s=fx (ct 1 j) (((ch s.1.1).2,s.1.2),(s.2.1++[(ch s.1.1).1],s.2.2)):=rfl
 rw[aF]
 cases bl:fx (ct 1 j) (((ch s.1.1).2,s.1.2),(s.2.1++[(ch s.1.1).1],s.2.2)) with
 |none=>rw[bl] at ad;exact ad
 |some a2=>
  rw[bl] at ad
  obtain⟨eT,jA,ab⟩:=ad
  exact⟨_,_,eT,jA,ab⟩
theorem aaM{m j:Nat}(hm:6<=m)(ai:zV m j){p q r k base N:Nat}{az:aa}(aj:s6 p q r base az.n){q0:Q}(acW:61<=j+q0.2)(mv:dg q0.1<90000)(fU:N<18446744073709551616){f:Acc->Option Acc}(hf:f=if k=7 then kq (ct 1 j) else fx (ct 1 j)){h:aa}{s0:Acc}(CQ:lb q0 s0)(cX:∃bk a6 F rs,jl p q r k base az bk a6 F rs s0 h)
  {Q:bA->af->Prop}(mP:∀a2 g Γ,e0 g8 f N s0=some a2->cN [(0,.ptr q 0),(3,.ptr r 0)] Γ->lb q0 a2->(∃bk a6 F rs,jl p q r k base az bk a6 F rs a2 g)->Q (.exit 1) ⟨Γ,[],.none,g⟩)
  (b4:∀g Γ,e0 g8 f N s0=none->cN [(0,.ptr q 0),(3,.ptr r 0)] Γ->s7 p q r k base q0.2 az g->Q (.exit 1) ⟨Γ,[],.none,g⟩)
  {Γ:Env}(cS:cN [(0,.ptr q 0),(3,.ptr r 0),(4,.int .u64 (Int.ofNat N)),(5,.int .u64 (Int.ofNat 0))] Γ):bz Tryz.prog Tryz.f60 (Y m) [1,1,1,1,0,1,0,1,1,1,0,1,1,0] ⟨Γ,[],.none,h⟩ Q:=by
 have cb:∀s a2,lb q0 s->f s=some a2->lb q0 a2/\dg a2.1.1<dg s.1.1:=λs a2 a b=>by
  rw[hf] at b
  by_cases ax:k=7
  · rw[if_pos ax] at b;exact GD (w1 1 j) a b
  · rw[if_neg ax] at b;exact CG (w1 1 j) a b
 refine bz.loop (by kernel_rfl) (λbN z=>∃i y Γ,z=⟨Γ,[],.none,y⟩/\cN [(0,.ptr q 0),(3,.ptr r 0),(4,.int .u64 (Int.ofNat N)),(5,.int .u64 (Int.ofNat i))] Γ/\i<=N/\((∃s,bN=dg s.1.1+1/\lb q0 s/\e0 g8 f N s0=e0 g8 f (N-i) s/\∃bk a6 F rs,jl p q r k base az bk a6 F rs s y)\/(bN=0/\e0 g8 f N s0=none/\s7 p q r k base q0.2 az y))) ?_ (dg s0.1.1+1) _ (by have:=CQ.2.2.2;omega) ⟨0,h,Γ,rfl,cS,by omega,.inl ⟨s0,rfl,CQ,rfl,cX⟩⟩
 rintro bN z ⟨i,y,Γ,rfl,cS,hi,bj⟩
 by_cases eV:i<N
 · rcases bj with⟨s,nj,gd,he,bk,a6,F,rs,w⟩|⟨nj,he,⟨st,n,bad,h1,aY,aM,py⟩,bS,bs,c6⟩
   · have cp:=df.sQ (m-1) p s.1.1 y w.rd
     rw[show m-1+1=m by omega] at cp
     rw[show N-i=(N-(i+1))+1 by omega] at he
     simp only[e0] at he
     have zG:=gd
     obtain⟨d1,d2,d3,d4⟩:=zG
     have mF:=pb s.2.2
     by_cases a7:s.1.1.isSome=true
     · rw[if_pos (show g8 s=true from a7)] at he
       have key:∃g,(match f s with
         |none=>s7 p q r k base s.1.2 az g
         |some a2=>∃lY jd eT jA,jl p q r k base az lY jd eT jA a2 g)/\∀Q:bA->af->Prop,Q .nrm ⟨[(0,.ptr q 0),(3,.ptr r 0),(4,.int .u64 (Int.ofNat N)),(5,.int .u64 (Int.ofNat (i+1)))],[],.none,g⟩->bz Tryz.prog Tryz.f60 (Y m) [1,1,1,1,0,1,0,1,1,1,0,1,1,0,0] ⟨[(0,.ptr q 0),(3,.ptr r 0),(4,.int .u64 (Int.ofNat N)),(5,.int .u64 (Int.ofNat i))],[],.none,y⟩ Q:=by
        rw[hf]
        by_cases ax:k=7
        · rw[if_pos ax];exact aaI hm ai aj w (by omega) (by omega) d3 (by omega) (by omega) ax a7 eV fU
        · rw[if_neg ax];exact aaH hm ai aj w (by omega) d3 (by omega) (by omega) ax a7 eV fU
       obtain⟨g,au,h_⟩:=key
       refine bz.pre (h_ _ ?_) cS rfl rfl rfl
       cases ad:f s with
       |none=>
        rw[ad] at au he
        obtain⟨⟨st,n,bad,h1,aY,aM,py⟩,bS,bs,c6⟩:=au
        exact⟨0,by omega,i+1,g,_,rfl,⟨rfl,rfl,rfl,rfl,trivial⟩,by omega,.inr ⟨rfl,he,⟨⟨st,n,bad,h1,aY,by omega,py⟩,bS,bs,c6⟩⟩⟩
       |some a2=>
        rw[ad] at au he
        obtain⟨bx,bI⟩:=cb s a2 gd ad
        exact⟨dg a2.1.1+1,by omega,i+1,g,_,rfl,⟨rfl,rfl,rfl,rfl,trivial⟩,by omega,.inl ⟨a2,rfl,bx,he,au⟩⟩
     · have iO:(!s.1.1.isNone)=false:=by cases hs:s.1.1 with|none=>rfl|some _=>rw[hs] at a7;exact absurd rfl a7
       rw[iO] at cp
       rw[if_neg (show¬g8 s=true from a7)] at he
       have G6:s.1.1=none:=by cases hs:s.1.1 with|none=>rfl|some _=>rw[hs] at a7;exact absurd rfl a7
       exact bz.pre (vc (Y m) q r N i y ⟨λ_=>⟨false,ar w.fi rfl,nofun,λ_=>⟨p,ar w.fi rfl,false,y,cp,nofun,λ_=>b4 y _ he ⟨rfl,rfl,trivial⟩ ⟨⟨s.1.1,s.1.2,false,w.rd,w.fi,by omega,.inr ⟨G6,d3⟩⟩,w.bS,w.bs,⟨_,_,w.c6⟩⟩⟩⟩,λah=>absurd eV ah⟩) cS rfl rfl rfl
   · cases bad with
     |true=>exact bz.pre (vc (Y m) q r N i y ⟨λ_=>⟨true,ar aY rfl,λ_=>b4 y _ he ⟨rfl,rfl,trivial⟩ ⟨⟨st,n,true,h1,aY,aM,py⟩,bS,bs,c6⟩,nofun⟩,λah=>absurd eV ah⟩) cS rfl rfl rfl
     |false=>
      rcases py with ag|⟨rfl,fQ⟩
      · cases ag
      have cp:=df.sQ (m-1) p none y h1
      rw[show m-1+1=m by omega] at cp
      exact bz.pre (vc (Y m) q r N i y ⟨λ_=>⟨false,ar aY rfl,nofun,λ_=>⟨p,ar aY rfl,false,y,cp,nofun,λ_=>b4 y _ he ⟨rfl,rfl,trivial⟩ ⟨⟨none,n,false,h1,aY,aM,.inr ⟨rfl,fQ⟩⟩,bS,bs,c6⟩⟩⟩,λah=>absurd eV ah⟩) cS rfl rfl rfl
 · obtain rfl:i=N:=by omega
   rcases bj with⟨s,nj,gd,he,w⟩|⟨nj,he,hw⟩
   · rw[Nat.sub_self] at he
     exact bz.pre (vc (Y m) q r i i y ⟨λah=>absurd ah eV,λ_=>mP s y _ he ⟨rfl,rfl,trivial⟩ gd w⟩) cS rfl rfl rfl
   · exact bz.pre (vc (Y m) q r i i y ⟨λah=>absurd ah eV,λ_=>b4 y _ he ⟨rfl,rfl,trivial⟩ hw⟩) cS rfl rfl rfl
end Go.Proofs.ew
namespace Go.Proofs.ew
open Go aC Go.Proofs dD Go.Proofs.cT
open Go.Proofs.df (hN db jg)
open Go.Proofs.eN (e5 cf aI ch fm)
set_option maxRecDepth 100000
set_option maxHeartbeats 1000000
theorem zW(a b:Nat):lg mz (.int .u64 (Int.ofNat a)) [.int .u64 (Int.ofNat b)]=some (.int .u64 (Int.ofNat (min a b))):=by
 simp only[lg,mz,if_true]
 by_cases h:b<a
 · rw[if_pos (du h),Nat.min_eq_right (by omega)]
 · rw[if_neg (by rw[dY h];simp),Nat.min_eq_left (by omega)]
theorem CR:∀(j m:Nat),4*j+20<=m->zV m j
 |0,m,hm=>by
  intro p q h st n _ _ _ _ aM aV
  omega
 |j+1,m,hm=>by
  intro p q h st n hx aS al j3 aM aV mv
  obtain⟨M,rfl⟩:∃M,m=M+1:=⟨m-1,by omega⟩
  obtain⟨aq,cl⟩:∃aq,aq=h.set q (some (j7 p (n+1) false)):=⟨_,rfl⟩
  have s1:aC.storeCells h q (0+1) [.int .i64 (Int.ofNat (n+1))]=some aq:=by rw[cl];exact dP j3 rfl rfl
  have aY:aq.get q=some (j7 p (n+1) false):=by rw[cl];exact dF rfl
  have a1:aq.n=h.n:=by rw[cl];simp
  have bq:db aq p st:=by rw[cl];exact db.l1 al (by omega)
  have f1:Fr p q h.n h aq:=by rw[cl];exact(Fr.refl p q h.n h).set (.inr (.inr rfl))
  obtain⟨ak,ey,bM,a9⟩:=df.wY (M-3) p st aq bq
  rw[show M-3+3=M by omega] at ey
  have bL:=bM.n
  have aR:=(bM.get q (by omega) (by omega)).trans aY
  have f2:Fr p q h.n h ak:=f1.trans (Nat.le_refl _) ((Fr.CC bM).le (by omega))
  have NG:=qw st
  have eg:min (aI st).1 100<=(aI st).1:=Nat.min_le_left _ _
  have acX:min (aI st).1 100<=100:=Nat.min_le_right _ _
  have aaN:(aI st).1<=9->min (aI st).1 100=(aI st).1:=λh=>Nat.min_eq_left (by omega)
  have aaO:9<(aI st).1->9<min (aI st).1 100:=λh=>by omega
  have g0:=NF (min (aI st).1 100) (by omega) ak
  obtain⟨aQ,gQ⟩:∃aQ,aQ=ak.push (ga (min (aI st).1 100) .aA .aA):=⟨_,rfl⟩
  have cm:aQ.n=ak.n+1:=by rw[gQ];simp
  have cP:∀d,d<ak.n->aQ.get d=ak.get d:=λd aj=>by rw[gQ];exact hj aj rfl
  have bW:=(cP q (by omega)).trans aR
  have ee:aQ.get ak.n=some (ga (min (aI st).1 100) .aA .aA):=by rw[gQ];exact eB rfl
  have xe:db aQ p (aI st).2:=by rw[gQ];exact db.zy a9
  have f3:Fr p q h.n h aQ:=by rw[gQ];exact f2.push (by omega)
  have co:=df.sQ (M-1) p _ aQ xe
  rw[show M-1+1=M by omega] at co
  have b6:aC.storeCells aQ q (0+2) [.bool true]=some (aQ.set q (some (j7 p (n+1) true))):=dP bW rfl rfl
  have bad:ct 1 (j+1) (st,n)=none->vb p q n h (ct 1 (j+1) (st,n)) (.ret (.ptr ak.n 0) (aQ.set q (some (j7 p (n+1) true)))):=λe=>by
   rw[e]
   exact⟨ak.n,_,(aI st).2,n+1,true,rfl,f3.set (.inr (.inr rfl)),db.l1 xe (by omega),dF rfl,by omega,.inl rfl⟩
  subst gQ
  by_cases fQ:60<n+1
  · exact rC M q h ⟨n,ar j3 rfl,(by omega),aq,s1,p,ar aY rfl,(aI st).1,ak,ey,min (aI st).1 100,zW _ _,min (aI st).1 100,g0,n+1,ar bW rfl,λ_=>⟨_,b6,bad (by simp only[ct];rw[if_neg (λah=>by have:=ah.2.2.2;omega)])⟩,λah=>absurd fQ ah⟩
  by_cases cp:(aI st).2.isSome=true
  · have iO:(!(aI st).2.isNone)=true:=by cases hs:(aI st).2 with|none=>rw[hs] at cp;cases cp|some _=>rfl
    rw[iO] at co
    by_cases rA:(aI st).1<1
    · exact rC M q h ⟨n,ar j3 rfl,(by omega),aq,s1,p,ar aY rfl,(aI st).1,ak,ey,min (aI st).1 100,zW _ _,min (aI st).1 100,g0,n+1,ar bW rfl,λah=>absurd ah fQ,λ_=>⟨p,ar bW rfl,true,_,co,λ_=>⟨min (aI st).1 100,ar ee rfl,λ_=>⟨_,b6,bad (by simp only[ct];rw[if_neg (λah=>by have:=ah.2.1;omega)])⟩,λah=>absurd (by omega) ah⟩,nofun⟩⟩
    by_cases aaP:9<(aI st).1
    · exact rC M q h ⟨n,ar j3 rfl,(by omega),aq,s1,p,ar aY rfl,(aI st).1,ak,ey,min (aI st).1 100,zW _ _,min (aI st).1 100,g0,n+1,ar bW rfl,λah=>absurd ah fQ,λ_=>⟨p,ar bW rfl,true,_,co,λ_=>⟨min (aI st).1 100,ar ee rfl,λah=>absurd ah (by omega),λ_=>⟨min (aI st).1 100,ar ee rfl,λ_=>⟨_,b6,bad (by simp only[ct];rw[if_neg (λah=>by have:=ah.2.2.1;omega)])⟩,λah=>absurd (aaO aaP) ah⟩⟩,nofun⟩⟩
    have N8:=aaN (by omega)
    have fw:ct 1 (j+1) (st,n)=fp (ct 1 j) (aI st).1 ((aI st).2,n+1):=by simp only[ct];rw[if_pos ⟨cp,by omega,by omega,by omega⟩]
    rw[fw]
    rw[N8] at ee bW xe f3 cm cP co g0
    obtain⟨K,acY⟩:∃K,K=(aI st).1:=⟨_,rfl⟩
    have cr:s6 p q ak.n (ak.n+1) h.n:=by constructor<;>omega
    have cX:jl p q ak.n (aI st).1 (ak.n+1) h .aA .aA (λ_=>False) [] (((aI st).2,n+1),([],[])) (ak.push (ga (aI st).1 .aA .aA)):=
     ⟨xe,bW,f3,by omega,ee,.inl ⟨rfl,rfl⟩,.inl ⟨rfl,rfl⟩,rfl,λ_ hf=>hf.elim⟩
    have nb:lg mz (.int .u64 (Int.ofNat (aI st).1)) [.int .u64 (Int.ofNat 100)]=some (.int .u64 (Int.ofNat (aI st).1)):=by rw[zW,N8]
    by_cases dL:(aI st).1=6
    · have gi:fp (ct 1 j) (aI st).1 ((aI st).2,n+1)=some (.mk (aI st).1 (ch (aI st).2).1 [] [] none,((ch (aI st).2).2,n+1)):=by simp only[fp];rw[if_pos dL,dL]
      rw[gi]
      obtain⟨b5,ek,gB,rt⟩:=df.Cq (M-4) p (aI st).2 _ xe
      rw[show M-4+4=M by omega] at ek
      have ej:=gB.n
      have jV:∀d,d<(ak.push (ga (aI st).1 .aA .aA)).n->d≠p->b5.get d=(ak.push (ga (aI st).1 .aA .aA)).get d:=λd aj aU=>gB.get d aj aU
      obtain⟨b1,kt⟩:∃b1,b1=b5.set ak.n (some (.cells [.int .i64 (Int.ofNat (aI st).1),.str (ch (aI st).2).1,.aA,.aA,.bb] 51 .own 0 0)):=⟨_,rfl⟩
      have ov:aC.storeCells b5 ak.n (0+1) [.str (ch (aI st).2).1]=some b1:=by rw[kt];exact dP ((jV _ (by omega) (by omega)).trans ee) rfl rfl
      have k5:∀d,d≠ak.n->b1.get d=b5.get d:=λd aj=>by rw[kt];exact et aj rfl
      have fC:b1.n=b5.n:=by rw[kt];simp
      have pq:b1.get ak.n=some (.cells [.int .i64 (Int.ofNat (aI st).1),.str (ch (aI st).2).1,.aA,.aA,.bb] 51 .own 0 0):=by rw[kt];exact dF rfl
      obtain⟨eT,iP,iQ⟩:=qy (base:=ak.n+1) (H0:=h.n) (r:=ak.n) (y:=b1) (F:=λ_=>False) (G:=λ_=>False) (rs:=[]) (ns:=[]) (xs:=[]) (ot:=none) pq (.inl ⟨rfl,rfl⟩) (.inl ⟨rfl,rfl⟩) rfl rfl (by omega) (by omega) (λ_ hf=>hf.elim) (λ_ hf=>hf.elim)
      have res:vb p q n h (some (.mk (aI st).1 (ch (aI st).2).1 [] [] none,((ch (aI st).2).2,n+1))) (.ret (.ptr ak.n 0) b1):=⟨ak.n,b1,eT,rfl,cX.bS.trans (Nat.le_refl _) ⟨by omega,λd aj aU aS=>(k5 d (by omega)).trans (jV d (by omega) aU)⟩,by rw[kt];exact db.l1 rt (by omega),(k5 q (by omega)).trans ((jV q (by omega) (by omega)).trans cX.fi),iP,iQ⟩
      exact rC M q h ⟨n,ar j3 rfl,(by omega),aq,s1,p,ar aY rfl,(aI st).1,ak,ey,(aI st).1,nb,(aI st).1,g0,n+1,ar bW rfl,λah=>absurd ah fQ,λ_=>⟨p,ar bW rfl,true,_,co,λ_=>⟨(aI st).1,ar ee rfl,λah=>absurd ah (by omega),λ_=>⟨(aI st).1,ar ee rfl,λah=>absurd ah (by omega),λ_=>⟨(aI st).1,ar ee rfl,λ_=>⟨p,ar bW rfl,_,b5,ek,b1,ov,(aI st).1,ar pq rfl,λh=>absurd h (by omega),λ_=>res⟩,λah=>absurd dL ah⟩⟩⟩,nofun⟩⟩
    obtain⟨a3,CS,kJ,aaQ⟩:=df.wY (M-3) p (aI st).2 _ xe
    rw[show M-3+3=M by omega] at CS
    have cn:=kJ.n
    obtain⟨q0,hg⟩:∃q0:Q,q0=((aI st).2,n+1):=⟨_,rfl⟩
    have y5:lb q0 (gI q0):=by rw[hg];exact GF _ (by show n+1<=60;omega)
    have aaR:∃bk a6 F rs,jl p q ak.n (aI st).1 (ak.n+1) h bk a6 F rs (gI q0) a3:=⟨.aA,.aA,_,[],by rw[hg];exact cX.later cr aaQ ((kJ.get q (by omega) (by omega)).trans bW) cn λd aj aU _=>kJ.get d aj aU⟩
    have u2:=eN.zm (aI st).2
    have aaS:(aI q0.1).1=(aI (aI st).2).1:=by rw[hg]
    have acZ:q0.2=n+1:=by rw[hg]
    have aaT:dg q0.1<90000:=by rw[hg];show dg (aI st).2<_;omega
    have loop:∀{Q:bA->af->Prop} {Γ:Env} (f:Acc->Option Acc) (hf:f=if(aI st).1=7 then kq (ct 1 j) else fx (ct 1 j)),cN [(0,.ptr q 0),(3,.ptr ak.n 0),(4,.int .u64 (Int.ofNat (aI (aI st).2).1)),(5,.int .u64 (Int.ofNat 0))] Γ->(∀a2 g Γ,e0 g8 f (aI q0.1).1 (gI q0)=some a2->cN [(0,.ptr q 0),(3,.ptr ak.n 0)] Γ->lb q0 a2->(∃bk a6 F rs,jl p q ak.n (aI st).1 (ak.n+1) h bk a6 F rs a2 g)->Q (.exit 1) ⟨Γ,[],.none,g⟩)->(∀g Γ,e0 g8 f (aI q0.1).1 (gI q0)=none->cN [(0,.ptr q 0),(3,.ptr ak.n 0)] Γ->s7 p q ak.n (aI st).1 (ak.n+1) q0.2 h g->Q (.exit 1) ⟨Γ,[],.none,g⟩)->bz Tryz.prog Tryz.f60 (Y M) [1,1,1,1,0,1,0,1,1,1,0,1,1,0] ⟨Γ,[],.none,a3⟩ Q:=λ{Q Γ} f hf cS mP b4=>by
     rw[aaS] at mP b4
     exact aaM (by omega) (CR j M (by omega)) cr (q0:=q0) (by omega) aaT u2 hf y5 aaR mP b4 cS
    have failed:∀g,s7 p q ak.n (aI st).1 (ak.n+1) q0.2 h g->vb p q n h none (.ret (.ptr ak.n 0) g):=λg au=>by
     obtain⟨⟨b_,pQ,zX,bx,bI,cP,dK⟩,iw,kA,jV⟩:=au
     exact⟨ak.n,g,b_,pQ,zX,rfl,iw,bx,bI,by omega,dK⟩
    rw[<-hg]
    by_cases dz:(aI st).1=7
    · refine rC M q h ⟨n,ar j3 rfl,(by omega),aq,s1,p,ar aY rfl,(aI st).1,ak,ey,(aI st).1,nb,(aI st).1,g0,n+1,ar bW rfl,λah=>absurd ah fQ,λ_=>⟨p,ar bW rfl,true,_,co,λ_=>⟨(aI st).1,ar ee rfl,λah=>absurd ah (by omega),λ_=>⟨(aI st).1,ar ee rfl,λah=>absurd ah (by omega),λ_=>⟨(aI st).1,ar ee rfl,λah=>absurd ah dL,λ_=>⟨λ_=>⟨p,ar bW rfl,_,a3,CS,loop (kq (ct 1 j)) (by rw[if_pos dz]) ⟨rfl,rfl,rfl,rfl,trivial⟩ (λa2 g Γ he cS gd hw=>?_) λg Γ he cS hw=>?_⟩,λah=>absurd dz ah⟩⟩⟩⟩,nofun⟩⟩
      · obtain⟨⟨kY,iV⟩,ns,xs⟩:=a2
        obtain⟨bk,a6,F,rs,w⟩:=hw
        have gi:fp (ct 1 j) (aI st).1 q0=some (.mk (aI st).1 [] ns xs none,(kY,iV)):=by simp only[fp];rw[if_neg dL,if_pos dz,he,dz];rfl
        refine⟨q,ak.n,g,Γ,rfl,rfl,cS,(aI st).1,ar w.c6 rfl,λh=>absurd h (by omega),λ_=>?_⟩
        rw[gi]
        obtain⟨eT,iP,iQ⟩:=qy (H0:=h.n) (G:=λ_=>False) (ot:=none) w.c6 w.jj w.fY w.c7 rfl (by omega) (by have:=w.bs;omega) (λd aj=>by have:=w.fh d aj;omega) (λ_ hf=>hf.elim)
        exact⟨ak.n,g,eT,rfl,w.bS,w.rd,w.fi,iP,iQ⟩
      · obtain⟨bk,a6,n0⟩:=hw.c6
        have gi:fp (ct 1 j) (aI st).1 q0=none:=by simp only[fp];rw[if_neg dL,if_pos dz,he];rfl
        refine⟨q,ak.n,g,Γ,rfl,rfl,cS,(aI st).1,ar n0 rfl,λh=>absurd h (by omega),λ_=>?_⟩
        rw[gi]
        exact failed g hw
    by_cases dX:(aI st).1=8
    · have nil:∀s,e0 g8 (fx (ct 1 j)) (aI q0.1).1 (gI q0)=some s->s.2.1=[]:=λs hs=>rq (λs:Acc=>s.2.1=[]) (λs a2 ab ae=>by
        unfold fx at ae
        cases ad:ct 1 j s.1 with
        |none=>rw[ad] at ae;cases ae
        |some x=>rw[ad] at ae;cases ae;exact ab) _ _ _ (by rw[hg];rfl) hs
      have N9:∀(g:aa) (bk a6:J),ak.n+1<=g.n->g.get ak.n=some (ga (aI st).1 bk a6)->Fr p q h.n h g->∀(iV:Nat),vb p q iV g none (Y M (.fn 60) [.ptr q 0] g)->q0.2<=iV->∃u bZ,Y M (.fn 60) [.ptr q 0] g=.ret (.ptr u 0) bZ/\∃b2,aC.storeCells bZ ak.n (0+4) [.ptr u 0]=some b2/\vb p q n h none (.ret (.ptr ak.n 0) b2):=λg bk a6 ag n0 bS iV ek HB=>by
       obtain⟨u,bZ,Gj,cz,ly,sL,f5,hY,iD,zp,aaU⟩:=ek
       have cV:=f5.n
       have iw:∀d,d<g.n->d≠p->d≠q->bZ.get d=g.get d:=λd aj aU aS=>f5.get d aj aU aS
       have tB:eP (0+4) [.ptr u 0] [.int .i64 (Int.ofNat (aI st).1),.str [],bk,a6,.bb]=some [.int .i64 (Int.ofNat (aI st).1),.str [],bk,a6,.ptr u 0]:=rfl
       refine⟨u,bZ,sL,_,dP ((iw _ (by omega) (by omega) (by omega)).trans n0) rfl tB,ak.n,_,Gj,cz,ly,rfl,?_,db.l1 hY (by omega),et (by omega) iD,by omega,aaU⟩
       exact bS.trans (Nat.le_refl _) ⟨by simp;omega,λd aj aU aS=>et (by omega) (iw d (by omega) aU aS)⟩
      refine rC M q h ⟨n,ar j3 rfl,(by omega),aq,s1,p,ar aY rfl,(aI st).1,ak,ey,(aI st).1,nb,(aI st).1,g0,n+1,ar bW rfl,λah=>absurd ah fQ,λ_=>⟨p,ar bW rfl,true,_,co,λ_=>⟨(aI st).1,ar ee rfl,λah=>absurd ah (by omega),λ_=>⟨(aI st).1,ar ee rfl,λah=>absurd ah (by omega),λ_=>⟨(aI st).1,ar ee rfl,λah=>absurd ah dL,λ_=>⟨λah=>absurd ah dz,λ_=>⟨λ_=>⟨p,ar bW rfl,_,a3,CS,loop (fx (ct 1 j)) (by rw[if_neg dz]) ⟨rfl,rfl,rfl,rfl,trivial⟩ (λa2 g Γ he cS gd hw=>?_) λg Γ he cS hw=>?_⟩,λah=>absurd dX ah⟩⟩⟩⟩⟩,nofun⟩⟩
      · obtain⟨⟨kY,iV⟩,ns,xs⟩:=a2
        obtain rfl:ns=[]:=nil _ he
        obtain⟨bk,a6,F,rs,w⟩:=hw
        obtain⟨d1,d2,d3,d4⟩:=gd
        simp only at d1 d3 d4
        have mc:=w.bs
        have ek:=CR j M (by omega) p q g kY iV hx (by omega) w.rd w.fi d3 (by omega) (by omega)
        refine⟨q,ak.n,g,Γ,rfl,rfl,cS,(aI st).1,ar w.c6 rfl,λ_=>⟨false,ar w.fi rfl,nofun,λ_=>?_⟩,λh=>absurd dX h⟩
        cases bu:ct 1 j (kY,iV) with
        |none=>
         have gi:fp (ct 1 j) (aI st).1 q0=none:=by simp only[fp];rw[if_neg dL,if_neg dz,if_pos dX,he];simp only[Option.bind_some,bu];rfl
         rw[gi]
         rw[bu] at ek
         exact N9 g bk a6 mc w.c6 w.bS iV ek (by omega)
        |some y=>
         obtain⟨t,CL,CM⟩:=y
         have gi:fp (ct 1 j) (aI st).1 q0=some (.mk (aI st).1 [] [] xs (some t),(CL,CM)):=by simp only[fp];rw[if_neg dL,if_neg dz,if_pos dX,he];simp only[Option.bind_some,bu,dX];rfl
         rw[gi]
         rw[bu] at ek
         obtain⟨u,b1,G,kP,f8,pq,m3,t8,eS⟩:=ek
         have fC:=f8.n
         have k5:∀d,d<g.n->d≠p->d≠q->b1.get d=g.get d:=λd aj aU aS=>f8.get d aj aU aS
         have tB:eP (0+4) [.ptr u 0] [.int .i64 (Int.ofNat (aI st).1),.str [],bk,a6,.bb]=some [.int .i64 (Int.ofNat (aI st).1),.str [],bk,a6,.ptr u 0]:=rfl
         obtain⟨dk,lI⟩:∃dk,dk=b1.set ak.n (some (.cells [.int .i64 (Int.ofNat (aI st).1),.str [],bk,a6,.ptr u 0] 51 .own 0 0)):=⟨_,rfl⟩
         have lJ:aC.storeCells b1 ak.n (0+4) [.ptr u 0]=some dk:=by rw[lI];exact dP ((k5 _ (by omega) (by omega) (by omega)).trans w.c6) rfl tB
         have g5:∀d,d≠ak.n->dk.get d=b1.get d:=λd aj=>by rw[lI];exact et aj rfl
         have fZ:dk.n=b1.n:=by rw[lI];simp
         have bN:∀d,ak.n+1<=d->d<g.n->dk.get d=g.get d:=λd aj aD=>(g5 d (by omega)).trans (k5 d aD (by omega) (by omega))
         obtain⟨eT,iP,iQ⟩:=qy (base:=ak.n+1) (H0:=h.n) (r:=ak.n) (y:=dk) (F:=F) (G:=G) (ot:=some t) (by rw[lI];exact dF rfl) (fj.oz w.jj (by omega) bN) (fj.oz w.fY (by omega) bN) (gu.b0 (λd aj=>⟨aj,bN d (w.fh d aj).1 (w.fh d aj).2.1⟩) _ _ w.c7) (gM.b0 (λd aj=>⟨aj,g5 d (by have:=eS d aj;omega)⟩) _ _ t8) (by omega) (by omega) (λd aj=>by have:=w.fh d aj;omega) (λd aj=>by have:=eS d aj;omega)
         exact⟨u,b1,kP,dk,lJ,ak.n,dk,eT,rfl,w.bS.trans (Nat.le_refl _) ⟨by omega,λd aj aU aS=>(g5 d (by omega)).trans (k5 d (by omega) aU aS)⟩,by rw[lI];exact db.l1 pq (by omega),(g5 q (by omega)).trans m3,iP,iQ⟩
      · have El:=hw
        obtain⟨⟨b_,pQ,zX,bx,bI,cP,dK⟩,iw,kA,bk,a6,n0⟩:=El
        have gi:fp (ct 1 j) (aI st).1 q0=none:=by simp only[fp];rw[if_neg dL,if_neg dz,if_pos dX,he];rfl
        rw[gi]
        refine⟨q,ak.n,g,Γ,rfl,rfl,cS,(aI st).1,ar n0 rfl,λ_=>⟨zX,ar bI rfl,λ_=>failed g hw,λag=>?_⟩,λh=>absurd dX h⟩
        rcases dK with rfl|⟨rfl,G7⟩
        · cases ag
        subst ag
        have ek:=CR j M (by omega) p q g none pQ hx (by omega) bx bI G7 (by omega) (by simp[dg])
        have lk:ct 1 j (none,pQ)=none:=by
         cases j with
         |zero=>rfl
         |succ j=>simp only[ct];rw[if_neg (λah=>by have:=ah.1;cases this)]
        rw[lk] at ek
        exact N9 g bk a6 kA n0 iw pQ ek cP
    by_cases fb:(aI st).1=9
    · have nil:∀s,e0 g8 (fx (ct 1 j)) (aI q0.1).1 (gI q0)=some s->s.2.1=[]:=λs hs=>rq (λs:Acc=>s.2.1=[]) (λs a2 ab ae=>by
        unfold fx at ae
        cases ad:ct 1 j s.1 with
        |none=>rw[ad] at ae;cases ae
        |some x=>rw[ad] at ae;cases ae;exact ab) _ _ _ (by rw[hg];rfl) hs
      refine rC M q h ⟨n,ar j3 rfl,(by omega),aq,s1,p,ar aY rfl,(aI st).1,ak,ey,(aI st).1,nb,(aI st).1,g0,n+1,ar bW rfl,λah=>absurd ah fQ,λ_=>⟨p,ar bW rfl,true,_,co,λ_=>⟨(aI st).1,ar ee rfl,λah=>absurd ah (by omega),λ_=>⟨(aI st).1,ar ee rfl,λah=>absurd ah (by omega),λ_=>⟨(aI st).1,ar ee rfl,λah=>absurd ah dL,λ_=>⟨λah=>absurd ah dz,λ_=>⟨λah=>absurd ah dX,λ_=>⟨λ_=>⟨p,ar bW rfl,_,a3,CS,loop (fx (ct 1 j)) (by rw[if_neg dz]) ⟨rfl,rfl,rfl,rfl,trivial⟩ (λa2 g Γ he cS gd hw=>?_) λg Γ he cS hw=>?_⟩,λah=>absurd fb ah⟩⟩⟩⟩⟩⟩,nofun⟩⟩
      · obtain⟨⟨kY,iV⟩,ns,xs⟩:=a2
        obtain rfl:ns=[]:=nil _ he
        obtain⟨bk,a6,F,rs,w⟩:=hw
        have gi:fp (ct 1 j) (aI st).1 q0=some (.mk (aI st).1 [] [] xs none,(kY,iV)):=by simp only[fp];rw[if_neg dL,if_neg dz,if_neg dX,if_pos fb,he,fb];rfl
        refine⟨q,ak.n,g,Γ,rfl,rfl,cS,(aI st).1,ar w.c6 rfl,λh=>absurd h (by omega),λ_=>?_⟩
        rw[gi]
        obtain⟨eT,iP,iQ⟩:=qy (H0:=h.n) (G:=λ_=>False) (ot:=none) w.c6 w.jj w.fY w.c7 rfl (by omega) (by have:=w.bs;omega) (λd aj=>by have:=w.fh d aj;omega) (λ_ hf=>hf.elim)
        exact⟨ak.n,g,eT,rfl,w.bS,w.rd,w.fi,iP,iQ⟩
      · obtain⟨bk,a6,n0⟩:=hw.c6
        have gi:fp (ct 1 j) (aI st).1 q0=none:=by simp only[fp];rw[if_neg dL,if_neg dz,if_neg dX,if_pos fb,he];rfl
        refine⟨q,ak.n,g,Γ,rfl,rfl,cS,(aI st).1,ar n0 rfl,λh=>absurd h (by omega),λ_=>?_⟩
        rw[gi]
        exact failed g hw
    have gi:fp (ct 1 j) (aI st).1 ((aI st).2,n+1)=some (.mk (aI st).1 [] [] [] none,((aI st).2,n+1)):=by simp only[fp];rw[if_neg dL,if_neg dz,if_neg dX,if_neg fb]
    rw[hg,gi]
    obtain⟨eT,iP,iQ⟩:=qy (H0:=h.n) (G:=λ_=>False) (ot:=none) cX.c6 cX.jj cX.fY cX.c7 rfl (by omega) (by omega) (λd aj=>aj.elim) (λ_ hf=>hf.elim)
    exact rC M q h (R:=vb p q n h (some (.mk (aI st).1 [] [] [] none,((aI st).2,n+1)))) ⟨n,ar j3 rfl,(by omega),aq,s1,p,ar aY rfl,(aI st).1,ak,ey,(aI st).1,nb,(aI st).1,g0,n+1,ar bW rfl,λah=>absurd ah fQ,λ_=>⟨p,ar bW rfl,true,_,co,λ_=>⟨(aI st).1,ar ee rfl,λah=>absurd ah (by omega),λ_=>⟨(aI st).1,ar ee rfl,λah=>absurd ah (by omega),λ_=>⟨(aI st).1,ar ee rfl,λah=>absurd ah dL,λ_=>⟨λah=>absurd ah dz,λ_=>⟨λah=>absurd ah dX,λ_=>⟨λah=>absurd ah fb,λ_=>⟨(aI st).1,ar ee rfl,λah=>absurd ah (by omega),λ_=>⟨ak.n,_,eT,rfl,cX.bS,cX.rd,cX.fi,iP,iQ⟩⟩⟩⟩⟩⟩⟩⟩,nofun⟩⟩
  · have iO:(!(aI st).2.isNone)=false:=by cases hs:(aI st).2 with|none=>rfl|some _=>rw[hs] at cp;exact absurd rfl cp
    rw[iO] at co
    exact rC M q h ⟨n,ar j3 rfl,(by omega),aq,s1,p,ar aY rfl,(aI st).1,ak,ey,min (aI st).1 100,zW _ _,min (aI st).1 100,g0,n+1,ar bW rfl,λah=>absurd ah fQ,λ_=>⟨p,ar bW rfl,false,_,co,nofun,λ_=>⟨_,b6,bad (by simp only[ct];rw[if_neg (λah=>cp ah.1)])⟩⟩⟩
end Go.Proofs.ew
namespace Go.Proofs.ew
open Go aC Go.Proofs dD Go.Proofs.cT
open Go.Proofs.df (hN db jg)
open Go.Proofs.eN (e5 cf aI ch fm)
set_option maxRecDepth 100000
set_option maxHeartbeats 1000000
structure m5(p q base:Nat)(az:aa)(v:J)(F:Nat->Prop)(bd:List (bc×Nat))(s:cf×List eD)(h:aa):Prop where
 rd:db h p s.1
 fi:∃n,h.get q=some (j7 p n false)/\n<=60
 bS:Fr p q az.n az h
 bs:base<=h.n
 rw:fj CN 2 53 base h v bd
 es:hO F h s.2 bd
 fh:∀d,F d->base<=d/\d<h.n/\(∀n aH,v≠ .slice d 0 n aH)
structure xf(p q:Nat)(az h:aa):Prop where
 rd:∃st n bad,db h p st/\h.get q=some (j7 p n bad)/\(bad=true\/(st=none/\n<=60))
 bS:Fr p q az.n az h
theorem m5.add{p q base:Nat}{az h:aa}{v:J}{F:Nat->Prop}{bd:List (bc×Nat)}{s:cf×List eD}(hx:p<q)(hg:q<az.n)(sG:az.n<=base)(w:m5 p q base az v F bd s h){x:bc}{t:a_}{u:Nat}{G:Nat->Prop}{src:J}(bh:gM G h t (.ptr u 0))(eS:∀d,G d->base<=d/\d<h.n/\(∀n aH,v≠ .slice d 0 n aH))(hs:ha h 2 src=some (1,[.str x,.ptr u 0]))(aD:s.2.length<=900000):
  ∃g,gf Tryz.prog h 22 (some 22) v src=some (.slice h.n 0 (bd++[(x,u)]).length (.a5 2),g)/\m5 p q base az (.slice h.n 0 (bd++[(x,u)]).length (.a5 2)) (λd=>F d\/G d) (bd++[(x,u)]) (s.1,s.2++[(x,some t)]) g:=by
 have hlen:=hO.len w.es
 obtain⟨g,e,aq,eQ,ks,jy⟩:=sV zI (d:=(x,u)) w.rw w.bs hs (by omega)
 have b4:=w.bs
 have lw:∀d,d<base->g.get d=h.get d:=λd aj=>ks.get d aj
 obtain⟨l2,gL,aaV⟩:=w.fi
 refine⟨g,e,db.jz w.rd (by omega) (lw p (by omega)),⟨l2,(lw q (by omega)).trans gL,aaV⟩,w.bS.trans (Nat.le_refl _) ⟨by omega,λd aj _ _=>lw d (by omega)⟩,by omega,.inr ⟨h.n,rfl,by simp,aq,b4,by omega⟩,?_,?_⟩
 · have aG:j2 (λd=>F d\/G d) g (some t) (.ptr u 0):=gM.b0 (λd aj=>⟨.inr aj,by
     obtain⟨bx,bI,cP⟩:=eS d aj
     exact jy d bI cP⟩) _ _ bh
   exact hO.snoc (e:=(x,some t)) (d:=(x,u)) rfl aG (hO.b0 (λd aj=>⟨.inl aj,by
    obtain⟨bx,bI,cP⟩:=w.fh d aj
    exact jy d bI cP⟩) w.es)
 · intro d aj
   have key:base<=d/\d<h.n/\(∀n aH,v≠ .slice d 0 n aH):=by
    rcases aj with aj|aj
    · exact w.fh d aj
    · exact eS d aj
   obtain⟨bx,bI,cP⟩:=key
   refine⟨bx,by omega,λn aH e=>?_⟩
   injection e with aF
   omega
theorem m5.later{p q base:Nat}{az h g:aa}{v:J}{F:Nat->Prop}{bd:List (bc×Nat)}{s:cf×List eD}(hx:p<q)(hg:q<az.n)(sG:az.n<=base)(w:m5 p q base az v F bd s h){st:cf}(al:db g p st)(aS:∃n,g.get q=some (j7 p n false)/\n<=60)(aM:h.n<=g.n)(ax:∀d,d<h.n->d≠p->d≠q->g.get d=h.get d):m5 p q base az v F bd (st,s.2) g:=by
 have b4:=w.bs
 have jo:∀d,base<=d->d<h.n->g.get d=h.get d:=λd aj aD=>ax d aD (by omega) (by omega)
 exact⟨al,aS,w.bS.trans w.bS.n ⟨aM,λd aj aU aS=>ax d aj aU aS⟩,by omega,fj.oz w.rw aM jo,hO.b0 (λd aj=>⟨aj,jo d (w.fh d aj).1 (w.fh d aj).2.1⟩) w.es,λd aj=>by obtain⟨bx,bI,cP⟩:=w.fh d aj;exact⟨bx,by omega,cP⟩⟩
end Go.Proofs.ew
namespace Go.Proofs.ew
open Go aC Go.Proofs dD Go.Proofs.cT
open Go.Proofs.df (hN db jg)
open Go.Proofs.eN (e5 cf aI ch fm)
set_option maxRecDepth 100000
set_option maxHeartbeats 1000000
theorem aaW{M:Nat}(g6:270<=M){p q base n i:Nat}{az h:aa}{v:J}{F:Nat->Prop}{bd:List (bc×Nat)}{s:cf×List eD}(hx:p<q)(hg:q<az.n)(sG:az.n<=base)(w:m5 p q base az v F bd s h)(aD:s.2.length<=900000)(mv:dg s.1<90000)(cp:s.1.isSome=true)(hi:i<n)(aM:n<18446744073709551616):
  ∃v' g,v'.cu=true/\(match kQ (ct 1 61) s with
   |none=>xf p q az g
   |some a2=>∃eT nf,m5 p q base az v' eT nf a2 g)/\∀Q:bA->af->Prop,Q .nrm ⟨[(0,.ptr q 0),(3,v'),(4,.int .u64 (Int.ofNat n)),(5,.int .u64 (Int.ofNat (i+1)))],[],.none,g⟩->bz Tryz.prog Tryz.f32 (Y M) [1,1,1,0,1,0,0] ⟨[(0,.ptr q 0),(3,v),(4,.int .u64 (Int.ofNat n)),(5,.int .u64 (Int.ofNat i))],[],.none,h⟩ Q:=by
 have b4:=w.bs
 obtain⟨l2,gL,N_⟩:=w.fi
 have a7:=df.sQ (M-1) p s.1 h w.rd
 rw[show M-1+1=M by omega] at a7
 have iO:(!s.1.isNone)=true:=by cases hs:s.1 with|none=>rw[hs] at cp;cases cp|some _=>rfl
 rw[iO] at a7
 obtain⟨aq,cl⟩:∃aq,aq=h.set q (some (j7 p 0 false)):=⟨_,rfl⟩
 have s1:aC.storeCells h q (0+1) [.int .i64 (Int.ofNat 0)]=some aq:=by rw[cl];exact dP gL rfl rfl
 have aY:aq.get q=some (j7 p 0 false):=by rw[cl];exact dF rfl
 have a1:aq.n=h.n:=by rw[cl];simp
 have dH:∀d,d≠q->aq.get d=h.get d:=λd aj=>by rw[cl];exact et aj rfl
 obtain⟨g,ek,gB,rt⟩:=df.Cq (M-4) p s.1 aq (by rw[cl];exact db.l1 w.rd (by omega))
 rw[show M-4+4=M by omega] at ek
 have bL:=gB.n
 have aR:=(gB.get q (by omega) (by omega)).trans aY
 have GI:=rp s.1
 have eX:=CR 61 M (by omega) p q g (ch s.1).2 0 hx (by omega) rt aR (by omega) (by omega) (by omega)
 have dR:∀d,d<h.n->d≠p->d≠q->g.get d=h.get d:=λd aj aU aS=>(gB.get d (by omega) aU).trans (dH d aS)
 unfold kQ
 cases ad:ct 1 61 ((ch s.1).2,0) with
 |none=>
  rw[ad] at eX
  obtain⟨u,ak,st,m,bad,e,f,h1,bW,hm,py⟩:=eX
  have fn:=f.n
  have bI:∀d,d<h.n->d≠p->d≠q->(ak.push (.cells [.str (ch s.1).1,.ptr u 0] 53 .own 0 0)).get d=h.get d:=λd aj aU aS=>hj (by omega) ((f.get d (by omega) aU aS).trans (dR d aj aU aS))
  have qD:fj CN 2 53 base (ak.push (.cells [.str (ch s.1).1,.ptr u 0] 53 .own 0 0)) v bd:=fj.oz w.rw (by simp;omega) λd aj aD=>bI d aD (by omega) (by omega)
  have hlen:=hO.len w.es
  obtain⟨aQ,fs,GQ,eQ,ks,jy⟩:=sV zI (d:=((ch s.1).1,u)) qD (by simp;omega) (src:=.slice ak.n 0 1 (.exact 1)) (by
   have:aC.loadCells (ak.push (.cells [.str (ch s.1).1,.ptr u 0] 53 .own 0 0)) ak.n 0 (1*2)=some [.str (ch s.1).1,.ptr u 0]:=ie (eB rfl) rfl
   simp only[ha,this]) (by omega)
  simp only[aa.e7] at eQ
  refine⟨_,aQ,rfl,⟨⟨st,m,bad,?_,?_,py⟩,?_⟩,λQ kk=>rD (Y M) q n i v h ⟨λ_=>⟨false,ar gL rfl,nofun,λ_=>⟨p,ar gL rfl,true,h,a7,λ_=>⟨aq,s1,p,ar aY rfl,_,g,ek,u,ak,e,_,_,aQ,fs,by omega,kk⟩,nofun⟩⟩,λah=>absurd hi ah⟩⟩
  · exact db.jz h1 (by omega) ((ks.get p (by omega)).trans (hj (by omega) rfl))
  · exact(ks.get q (by omega)).trans (hj (by omega) bW)
  · exact w.bS.trans (Nat.le_refl _) ⟨by omega,λd aj aU aS=>(ks.get d (by omega)).trans (bI d (by omega) aU aS)⟩
 |some x=>
  obtain⟨t,st,m⟩:=x
  rw[ad] at eX
  obtain⟨u,ak,G,e,f,h1,bW,u4,eS⟩:=eX
  have fn:=f.n
  obtain⟨bx,bI,cP,dK⟩:=w1 1 61 _ _ _ ad
  obtain⟨aQ,gQ⟩:∃aQ,aQ=ak.push (.cells [.str (ch s.1).1,.ptr u 0] 53 .own 0 0):=⟨_,rfl⟩
  have cm:aQ.n=ak.n+1:=by rw[gQ];simp
  have dJ:∀d,d<ak.n->aQ.get d=ak.get d:=λd aj=>by rw[gQ];exact hj aj rfl
  have bR:=w.later hx hg sG (g:=aQ) (st:=st) (by rw[gQ];exact db.zy h1) ⟨m,(dJ q (by omega)).trans bW,cP⟩ (by omega) λd hq aU aS=>(dJ d (by omega)).trans ((f.get d (by omega) aU aS).trans (dR d hq aU aS))
  have u5:gM G aQ t (.ptr u 0):=gM.b0 (λd aj=>⟨aj,dJ d (by have:=eS d aj;omega)⟩) _ _ u4
  obtain⟨a3,fs,jU⟩:=bR.add hx hg sG (x:=(ch s.1).1) u5 (src:=.slice ak.n 0 1 (.exact 1)) (λd hq=>⟨by have:=eS d hq;omega,by have:=eS d hq;omega,fj.low w.rw (.inr (by have:=eS d hq;omega))⟩) (by
   have:aC.loadCells aQ ak.n 0 (1*2)=some [.str (ch s.1).1,.ptr u 0]:=by rw[gQ];exact ie (eB rfl) rfl
   simp only[ha,this]) aD
  subst gQ
  exact⟨_,a3,rfl,⟨_,_,jU⟩,λQ kk=>rD (Y M) q n i v h ⟨λ_=>⟨false,ar gL rfl,nofun,λ_=>⟨p,ar gL rfl,true,h,a7,λ_=>⟨aq,s1,p,ar aY rfl,_,g,ek,u,ak,e,_,_,a3,fs,by omega,kk⟩,nofun⟩⟩,λah=>absurd hi ah⟩⟩
end Go.Proofs.ew
namespace Go.Proofs.ew
open Go aC Go.Proofs dD Go.Proofs.cT
open Go.Proofs.df (hN db jg)
open Go.Proofs.eN (e5 cf aI ch fm)
set_option maxRecDepth 100000
set_option maxHeartbeats 1000000
def vd(p q:Nat)(h:aa)(o:Option (cf×List eD))(x:ao):Prop:=match o with
 |none=>∃v g,x=.ret v g/\v.cu=true/\xf p q h g
 |some (st,l)=>∃v g F,x=.ret v g/\Fr p q h.n h g/\db g p st/\(∃n,g.get q=some (j7 p n false)/\n<=60)/\l4 F g v l/\∀d,F d->h.n<=d/\d<g.n
theorem m5.row{p q base:Nat}{az h:aa}{v:J}{F:Nat->Prop}{bd:List (bc×Nat)}{s:cf×List eD}(w:m5 p q base az v F bd s h):∃G,l4 G h v s.2/\∀d,G d->base<=d/\d<h.n:=by
 refine⟨λd=>F d\/∃n aH,v=.slice d 0 n aH,?_,λd aj=>?_⟩
 · have hlen:bd.length=s.2.length:=hO.len w.es
   rcases w.rw with⟨aF,aG⟩|⟨x,aF,ae,aB,aP,cg⟩
   · subst aG
     exact .inl ⟨aF,List.eq_nil_of_length_eq_zero (by simpa using hlen.symm)⟩
   · refine .inr ⟨x,0,.a5 2,by rw[<-hlen];exact aF,.inr ⟨_,_,aF⟩,λi hi=>?_,by omega,by simp⟩
     obtain⟨bx,bI⟩:=hO.nth w.es i hi (by omega)
     refine⟨.ptr bd[i].2 0,?_,j2.b0 (λd aj=>⟨.inl aj,rfl⟩) _ _ bI⟩
     have:=Kl (off:=0+i*2) (rest:=[]) zI.len (by rw[List.append_nil];exact aB) (i:=i) (by omega) (by omega)
     rw[this,bx]
 · rcases aj with aj|⟨n,aH,aj⟩
   · have:=w.fh d aj;omega
   · rcases w.rw with⟨e,_⟩|⟨x,e,ae,aB,aP,cg⟩
     · rw[e] at aj;cases aj
     · rw[e] at aj;injection aj with ab;omega
theorem G8(M:Nat)(g6:280<=M){p q n:Nat}{h:aa}{st:cf}(hx:p<q)(aS:q<h.n)(al:db h p st)(j3:h.get q=some (j7 p n false))(fQ:n<=60)(mv:dg st<90000):vd p q h (g9 1 st) (Y (M+1) (.fn 32) [.ptr q 0] h):=by
 obtain⟨aq,ey,bw,bq⟩:=df.wY (M-3) p st h al
 rw[show M-3+3=M by omega] at ey
 have a1:=bw.n
 have u2:=eN.zm st
 have NG:=qw st
 have aY:=(bw.get q aS (by omega)).trans j3
 have cX:m5 p q h.n h .aA (λ_=>False) [] ((aI st).2,[]) aq:=⟨bq,⟨n,aY,fQ⟩,Fr.CC bw,a1,.inl ⟨rfl,rfl⟩,rfl,λ_ hf=>hf.elim⟩
 obtain⟨N,fU⟩:∃N,N=(aI st).1:=⟨_,rfl⟩
 have fw:g9 1 st=e0 (λs=>s.1.isSome) (kQ (ct 1 61)) N ((aI st).2,[]):=by rw[fU];rfl
 rw[<-fU] at ey u2
 refine N6 M q h (R:=vd p q h (g9 1 st)) ⟨p,ar j3 rfl,N,aq,ey,?_⟩
 have CQ:sY 89999 ((aI st).2,[]):=⟨by simp;omega,λe he=>by cases he⟩
 refine bz.loop (by kernel_rfl) (λbN z=>∃i v y Γ,z=⟨Γ,[],.none,y⟩/\cN [(0,.ptr q 0),(3,v),(4,.int .u64 (Int.ofNat N)),(5,.int .u64 (Int.ofNat i))] Γ/\i<=N/\((∃s,bN=dg s.1+1/\sY 89999 s/\g9 1 st=e0 (λs=>s.1.isSome) (kQ (ct 1 61)) (N-i) s/\∃F bd,m5 p q h.n h v F bd s y)\/(bN=0/\g9 1 st=none/\v.cu=true/\xf p q h y))) ?_ (dg (aI st).2+1) _ (by omega) ⟨0,.aA,aq,_,rfl,⟨rfl,rfl,rfl,rfl,trivial⟩,by omega,.inl ⟨_,rfl,CQ,fw,_,_,cX⟩⟩
 rintro bN z ⟨i,v,y,Γ,rfl,cS,hi,bj⟩
 have fin:∀cx s,g9 1 st=some s->(∃F bd,m5 p q h.n h v F bd s y)->cN [(3,v)] cx->∃(v:J) (g:aa) (s8:Env),bA.exit 0=(.exit 0)/\(⟨cx,[],.none,y⟩:af)=⟨s8,[],.none,g⟩/\cN [(3,v)] s8/\vd p q h (g9 1 st) (.ret v g):=λcx s he hw hs=>by
  obtain⟨F,bd,w⟩:=hw
  obtain⟨b_,l⟩:=s
  obtain⟨G,aaX,aaY⟩:=w.row
  rw[he]
  exact⟨v,y,cx,rfl,rfl,hs,v,y,G,rfl,w.bS,w.rd,w.fi,aaX,aaY⟩
 have bad:∀cx,g9 1 st=none->v.cu=true->xf p q h y->cN [(3,v)] cx->∃(v:J) (g:aa) (s8:Env),bA.exit 0=(.exit 0)/\(⟨cx,[],.none,y⟩:af)=⟨s8,[],.none,g⟩/\cN [(3,v)] s8/\vd p q h (g9 1 st) (.ret v g):=λcx he aJ hw hs=>by
  rw[he]
  exact⟨v,y,cx,rfl,rfl,hs,v,y,rfl,aJ,hw⟩
 have aaZ:∀{F bd s},m5 p q h.n h v F bd s y->v.cu=true:=λw=>by
  rcases w.rw with⟨rfl,_⟩|⟨x,rfl,_⟩<;>rfl
 by_cases eV:i<N
 · rcases bj with⟨s,nj,gd,he,F,bd,w⟩|⟨nj,he,aJ,hw⟩
   · have cp:=df.sQ (M-1) p s.1 y w.rd
     rw[show M-1+1=M by omega] at cp
     rw[show N-i=(N-(i+1))+1 by omega] at he
     simp only[e0] at he
     obtain⟨l2,gL,N_⟩:=w.fi
     by_cases a7:s.1.isSome=true
     · rw[if_pos a7] at he
       obtain⟨v',g,aa0,au,h_⟩:=aaW (M:=M) (n:=N) (i:=i) (by omega) hx aS (Nat.le_refl _) w (by have:=gd.1;omega) (by have:=gd.1;omega) a7 eV u2
       refine bz.pre (h_ _ ?_) cS rfl rfl rfl
       cases ad:kQ (ct 1 61) s with
       |none=>
        rw[ad] at au he
        exact⟨0,by omega,i+1,v',g,_,rfl,⟨rfl,rfl,rfl,rfl,trivial⟩,by omega,.inr ⟨rfl,he,aa0,au⟩⟩
       |some a2=>
        rw[ad] at au he
        obtain⟨bx,bI⟩:=GK gd ad
        exact⟨dg a2.1+1,by omega,i+1,v',g,_,rfl,⟨rfl,rfl,rfl,rfl,trivial⟩,by omega,.inl ⟨a2,rfl,bx,he,au⟩⟩
     · have iO:(!s.1.isNone)=false:=by cases hs:s.1 with|none=>rfl|some _=>rw[hs] at a7;exact absurd rfl a7
       rw[iO] at cp
       rw[if_neg a7] at he
       have G6:s.1=none:=by cases hs:s.1 with|none=>rfl|some _=>rw[hs] at a7;exact absurd rfl a7
       exact bz.pre (rD (Y M) q N i v y ⟨λ_=>⟨false,ar gL rfl,nofun,λ_=>⟨p,ar gL rfl,false,y,cp,nofun,λ_=>bad _ he (aaZ w) ⟨⟨s.1,l2,false,w.rd,gL,.inr ⟨G6,N_⟩⟩,w.bS⟩ ⟨rfl,trivial⟩⟩⟩,λah=>absurd eV ah⟩) cS rfl rfl rfl
   · obtain⟨⟨b_,pQ,zX,h1,r9,py⟩,bS⟩:=hw
     cases zX with
     |true=>exact bz.pre (rD (Y M) q N i v y ⟨λ_=>⟨true,ar r9 rfl,λ_=>bad _ he aJ ⟨⟨b_,pQ,true,h1,r9,py⟩,bS⟩ ⟨rfl,trivial⟩,nofun⟩,λah=>absurd eV ah⟩) cS rfl rfl rfl
     |false=>
      rcases py with ag|⟨rfl,G7⟩
      · cases ag
      have cp:=df.sQ (M-1) p none y h1
      rw[show M-1+1=M by omega] at cp
      exact bz.pre (rD (Y M) q N i v y ⟨λ_=>⟨false,ar r9 rfl,nofun,λ_=>⟨p,ar r9 rfl,false,y,cp,nofun,λ_=>bad _ he aJ ⟨⟨none,pQ,false,h1,r9,.inr ⟨rfl,G7⟩⟩,bS⟩ ⟨rfl,trivial⟩⟩⟩,λah=>absurd eV ah⟩) cS rfl rfl rfl
 · obtain rfl:i=N:=by omega
   rcases bj with⟨s,nj,gd,he,hw⟩|⟨nj,he,aJ,hw⟩
   · rw[Nat.sub_self] at he
     exact bz.pre (rD (Y M) q i i v y ⟨λah=>absurd ah eV,λ_=>fin _ s he hw ⟨rfl,trivial⟩⟩) cS rfl rfl rfl
   · exact bz.pre (rD (Y M) q i i v y ⟨λah=>absurd ah eV,λ_=>bad _ he aJ hw ⟨rfl,trivial⟩⟩) cS rfl rfl rfl
end Go.Proofs.ew
