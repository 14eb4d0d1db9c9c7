/-
  PROVED HERE: contracts of functions (Dg). No condition beside each statement's own.
-/
import Derived.Test.YtfooahfebojldaaGreatDoorDf
import Derived.Test.YtfooahfebojldaaGreatDoorTx
set_option linter.unusedVariables false
set_option linter.unusedSimpArgs false
namespace Go.Proofs.cD
open Go aB Go.Proofs df
set_option maxRecDepth 100000
set_option maxHeartbeats 1000000
theorem Uf(m:Nat)(r:Nat)(h:J){R:ao->Prop}(H:∃aN:Nat,au h r (0+0)=some (.int .i64 (.ofNat aN))/\∃s1:List UInt8,au h r (0+1)=some (.str s1)/\(dU s1 []=true->∃v1:I,au h r (0+2)=some v1/\∃bz:Nat,bO Tryz.prog h 48 v1=some (.int .i64 (.ofNat bz))/\(bz=0->∃v2:I,au h r (0+3)=some v2/\∃cm:Nat,bO Tryz.prog h 49 v2=some (.int .i64 (.ofNat cm))/\(cm=0->∃cy:Nat,au h r (0+4)=some (.ptr cy 0)/\R (.ret (.bool (eC true (a0 (.ofNat aN) (.ofNat 8)))) h))/\(¬cm=0->(7<=aN->∃c6:Nat,au h r (0+4)=some (.ptr c6 0)/\R (.ret (.bool (eC true (a0 (.ofNat aN) (.ofNat 8)))) h))/\(¬7<=aN->R (.ret (.bool false) h))))/\(¬bz=0->(aN=7->∃dc:I,au h r (0+3)=some dc/\∃dr:Nat,bO Tryz.prog h 49 dc=some (.int .i64 (.ofNat dr))/\(dr=0->∃ev:Nat,au h r (0+4)=some (.ptr ev 0)/\R (.ret (.bool (eC true (a0 (.ofNat aN) (.ofNat 8)))) h))/\(¬dr=0->(7<=aN->∃gS:Nat,au h r (0+4)=some (.ptr gS 0)/\R (.ret (.bool (eC true (a0 (.ofNat aN) (.ofNat 8)))) h))/\(¬7<=aN->R (.ret (.bool false) h))))/\(¬aN=7->R (.ret (.bool false) h))))/\(dU s1 []=false->(aN=6->∃v4:I,au h r (0+2)=some v4/\∃gH:Nat,bO Tryz.prog h 48 v4=some (.int .i64 (.ofNat gH))/\(gH=0->∃hH:I,au h r (0+3)=some hH/\∃gr:Nat,bO Tryz.prog h 49 hH=some (.int .i64 (.ofNat gr))/\(gr=0->∃h8:Nat,au h r (0+4)=some (.ptr h8 0)/\R (.ret (.bool (eC true (a0 (.ofNat aN) (.ofNat 8)))) h))/\(¬gr=0->(7<=aN->∃j4:Nat,au h r (0+4)=some (.ptr j4 0)/\R (.ret (.bool (eC true (a0 (.ofNat aN) (.ofNat 8)))) h))/\(¬7<=aN->R (.ret (.bool false) h))))/\(¬gH=0->(aN=7->∃v6:I,au h r (0+3)=some v6/\∃jI:Nat,bO Tryz.prog h 49 v6=some (.int .i64 (.ofNat jI))/\(jI=0->∃lB:Nat,au h r (0+4)=some (.ptr lB 0)/\R (.ret (.bool (eC true (a0 (.ofNat aN) (.ofNat 8)))) h))/\(¬jI=0->(7<=aN->∃kq:Nat,au h r (0+4)=some (.ptr kq 0)/\R (.ret (.bool (eC true (a0 (.ofNat aN) (.ofNat 8)))) h))/\(¬7<=aN->R (.ret (.bool false) h))))/\(¬aN=7->R (.ret (.bool false) h))))/\(¬aN=6->R (.ret (.bool false) h)))):
  R (Y (m+1) (.fn 101) [.ptr r 0] h):=
 dp (intr:=bW) [] [(0,.v (.ptr r 0))] Tryz.func101 (by kernel_rfl) (by kernel_rfl) (by kernel_rfl) rfl (Eq.mp (by kernel_rfl) H)
theorem Ug(m:Nat)(r:Nat)(h:J){R:ao->Prop}(H:∃aN:Nat,au h r (0+0)=some (.int .i64 (.ofNat aN))/\∃s1:List UInt8,au h r (0+1)=some (.str s1)/\(dU s1 []=true->∃v1:I,au h r (0+2)=some v1/\∃bz:Nat,bO Tryz.prog h 48 v1=some (.int .i64 (.ofNat bz))/\(bz=0->∃v2:I,au h r (0+3)=some v2/\∃cm:Nat,bO Tryz.prog h 49 v2=some (.int .i64 (.ofNat cm))/\(cm=0->au h r (0+4)=some .bm/\R (.ret (.bool (eC false (a0 (.ofNat aN) (.ofNat 8)))) h))/\(¬cm=0->(7<=aN->au h r (0+4)=some .bm/\R (.ret (.bool (eC false (a0 (.ofNat aN) (.ofNat 8)))) h))/\(¬7<=aN->R (.ret (.bool false) h))))/\(¬bz=0->(aN=7->∃dc:I,au h r (0+3)=some dc/\∃cy:Nat,bO Tryz.prog h 49 dc=some (.int .i64 (.ofNat cy))/\(cy=0->au h r (0+4)=some .bm/\R (.ret (.bool (eC false (a0 (.ofNat aN) (.ofNat 8)))) h))/\(¬cy=0->(7<=aN->au h r (0+4)=some .bm/\R (.ret (.bool (eC false (a0 (.ofNat aN) (.ofNat 8)))) h))/\(¬7<=aN->R (.ret (.bool false) h))))/\(¬aN=7->R (.ret (.bool false) h))))/\(dU s1 []=false->(aN=6->∃v4:I,au h r (0+2)=some v4/\∃c6:Nat,bO Tryz.prog h 48 v4=some (.int .i64 (.ofNat c6))/\(c6=0->∃hH:I,au h r (0+3)=some hH/\∃dr:Nat,bO Tryz.prog h 49 hH=some (.int .i64 (.ofNat dr))/\(dr=0->au h r (0+4)=some .bm/\R (.ret (.bool (eC false (a0 (.ofNat aN) (.ofNat 8)))) h))/\(¬dr=0->(7<=aN->au h r (0+4)=some .bm/\R (.ret (.bool (eC false (a0 (.ofNat aN) (.ofNat 8)))) h))/\(¬7<=aN->R (.ret (.bool false) h))))/\(¬c6=0->(aN=7->∃v6:I,au h r (0+3)=some v6/\∃ev:Nat,bO Tryz.prog h 49 v6=some (.int .i64 (.ofNat ev))/\(ev=0->au h r (0+4)=some .bm/\R (.ret (.bool (eC false (a0 (.ofNat aN) (.ofNat 8)))) h))/\(¬ev=0->(7<=aN->au h r (0+4)=some .bm/\R (.ret (.bool (eC false (a0 (.ofNat aN) (.ofNat 8)))) h))/\(¬7<=aN->R (.ret (.bool false) h))))/\(¬aN=7->R (.ret (.bool false) h))))/\(¬aN=6->R (.ret (.bool false) h)))):
  R (Y (m+1) (.fn 101) [.ptr r 0] h):=
 dp (intr:=bW) [(45,.b7 (.is .bm))] [(0,.v (.ptr r 0))] Tryz.func101 (by kernel_rfl) (by kernel_rfl) (by kernel_rfl) rfl (Eq.mp (by kernel_rfl) H)
theorem Uh(m:Nat)(r:Nat)(h:J){R:ao->Prop}(H:∃aN:Nat,au h r (0+0)=some (.int .i64 (.ofNat aN))/\(aN<1->R (.ret (.bool false) h))/\(¬aN<1->∃bz:Nat,au h r (0+0)=some (.int .i64 (.ofNat bz))/\(9<bz->R (.ret (.bool false) h))/\(¬9<bz->∃a5:Bool,∃al:J,(Y m) (.fn 101) [.ptr r 0] h=.ret (.bool a5) al/\(a5=true->∃v1:I,au al r (0+3)=some v1/\∃bt:Bool,∃ar:J,(Y m) (.fn 103) [v1,.fn 102 [] []] al=.ret (.bool bt) ar/\(bt=true->R (.ret (.bool false) ar))/\(bt=false->∃cm:Nat,au ar r (0+0)=some (.int .i64 (.ofNat cm))/\(cm=6->∃s1:List UInt8,au ar r (0+1)=some (.str s1)/\∃dP:Bool,∃aZ:J,(Y m) (.fn 104) [.str s1,.str [45,47,46],.int .i64 (.ofNat 161)] ar=.ret (.bool dP) aZ/\R (.ret (.bool dP) aZ))/\(¬cm=6->(cm=7->∃v2:I,au (ar.room 27) r (0+2)=some v2/\∃cy:Nat,bO Tryz.prog (ar.room 27) 48 v2=some (.int .i64 (.ofNat cy))/\∃dc:I,au (ar.room 27) r (0+3)=some dc/\∃c6:Nat,bO Tryz.prog (ar.room 27) 49 dc=some (.int .i64 (.ofNat c6))/\(cy=c6->∃v4:I,au (ar.room 27) r (0+2)=some v4/\∃kn:Bool,∃cb:J,(Y m) (.fn 105) [v4,.fn 106 [] []] (ar.room 27)=.ret (.bool kn) cb/\(kn=true->I.sound v2=true/\I.sound dc=true/\I.sound v4=true/\R (.ret (.bool false) cb))/\(kn=false->∃hH:I,au cb r (0+2)=some hH/\∃qU:Bool,∃da:J,(Y m) (.fn 108) [hH,.fn 109 [] []] cb=.ret (.bool qU) da/\I.sound v2=true/\I.sound dc=true/\I.sound v4=true/\I.sound hH=true/\R (.ret (.bool qU) da)))/\(¬cy=c6->I.sound v2=true/\I.sound dc=true/\R (.ret (.bool false) (ar.room 27))))/\(¬cm=7->(cm=8->∃v6:I,au ar r (0+4)=some v6/\∃ko:Bool,∃e2:J,(Y m) (.fn 90) [v6] ar=.ret (.bool ko) e2/\R (.ret (.bool ko) e2))/\(¬cm=8->(cm=9->∃q_:I,au ar r (0+3)=some q_/\∃dr:Nat,bO Tryz.prog ar 49 q_=some (.int .i64 (.ofNat dr))/\(2<=dr->∃ra:I,au ar r (0+3)=some ra/\∃DR:Bool,∃hp:J,(Y m) (.fn 103) [ra,.fn 110 [] []] ar=.ret (.bool DR) hp/\(DR=true->R (.ret (.bool false) hp))/\(DR=false->∃JI:I,au hp r (0+3)=some JI/\∃JJ:Bool,∃kH:J,(Y m) (.fn 111) [JI,.fn 112 [] []] hp=.ret (.bool JJ) kH/\R (.ret (.bool JJ) kH)))/\(¬2<=dr->R (.ret (.bool false) ar)))/\(¬cm=9->R (.ret (.bool true) ar)))))))/\(a5=false->R (.ret (.bool false) al))))):
  R (Y (m+1) (.fn 90) [.ptr r 0] h):=
 dp (intr:=bW) [(76,.b7 .o)] [(0,.v (.ptr r 0))] Tryz.func90 (by kernel_rfl) (by kernel_rfl) (by kernel_rfl) rfl (Eq.mp (by kernel_rfl) H)
def kV:aO:=[48,49,50,51,52,53,54,55,56,57]
theorem Ui:((List.range 256).all λn=>dv (Int.ofNat 0) (ni n kV 0)==h6 n)=true:=by decide
theorem Uj(c:UInt8):dv (Int.ofNat 0) (ni c.toNat kV 0)=h6 c.toNat:=by
 have:=List.all_eq_true.1 Ui c.toNat (by rw[List.mem_range];exact UInt8.toNat_lt c)
 simpa using this
theorem Uk(n:Nat)(s:aO)(c:Nat)(h:J)(ag:c<256):Y (n+1) (.fn 161) [.str s,.int .u8 (Int.ofNat c)] h=.ret (.int .i64 (ni c s 0)) h:=by
 have af:Nat.blt c 256=true:=by simpa[Nat.blt_eq] using ag
 have ae:bW 161 [.str s,.int .u8 (Int.ofNat c)] h=none:=by kernel_rfl
 have so:Tryz.f161.body=none:=by rfl
 have ab:tv Tryz.prog Tryz.f161 Tryz.f161.name [.str s,.int .u8 (Int.ofNat c)] h=some (.int .i64 (ni c s 0),h):=by
  have aI:Tryz.f161.name= "internal/bytealg.IndexByteString" :=by rfl
  simp only[tv,aI,if_true,af]
 simp only[Y,fq,ae,p2,Tryz.func161,so,ab]
theorem Ul(m:Nat)(c:UInt8)(h:J):Y (m+5) (.fn 118) [.str kV,.str [c]] h=.ret (.bool (h6 c.toNat)) h:=by
 rw[<-Uj]
 have c1:Y (m+2) (.fn 155) [.str kV,.int .u8 (Int.ofNat c.toNat)] h=.ret (.int .i64 (ni c.toNat kV 0)) h:=
  Tn (m+1) kV c.toNat h (R:=λx=>x=_) ⟨_,h,Uk m kV c.toNat h (UInt8.toNat_lt _),rfl⟩
 have c2:Y (m+3) (.fn 150) [.str kV,.str [c]] h=.ret (.int .i64 (ni c.toNat kV 0)) h:=
  Tm (m+2) kV c h (R:=λx=>x=_) ⟨by simp[n8,kV],by rfl,_,h,c1,rfl⟩
 have c3:Y (m+4) (.fn 144) [.str kV,.str [c]] h=.ret (.int .i64 (ni c.toNat kV 0)) h:=
  Tl (m+3) kV [c] h (R:=λx=>x=_) ⟨_,h,c2,rfl⟩
 exact Tk (m+4) kV [c] h (R:=λx=>x=_) ⟨_,h,c3,rfl⟩
theorem Um(n:Nat):(gP n&&h6 n)=false:=by
 unfold gP h6
 simp only[Bool.and_eq_false_iff,Bool.or_eq_false_iff,decide_eq_false_iff_not]
 omega
theorem Un(m B:Nat)(s:aO)(h:J)(bI:B<=h.n):bM B h (.bool (hG s)) (Y (m+6) (.fn 107) [.str s] h):=by
 obtain⟨g,c1,a8⟩:=Js (m+1) B oH s [] 24 h bI (by omega) (.inl ⟨rfl,rfl⟩)
 refine Td (m+5) s h ⟨_,g,c1,λaf=>?_,λaf=>?_⟩
 · simp only[Bool.and_eq_true,decide_eq_true_eq] at af
   obtain⟨⟨aa,ad⟩,aw⟩:=af
   cases s with
   |nil=>simp at aa
   |cons c s=>
    refine⟨[c],Cy uS (by simp),_,g,Ul m c g,bM.of (eo ?_) a8⟩
    have ag:oH c.toNat=true:=by
     have:=List.all_eq_true.1 aw c (by simp)
     simpa using this
    have aA:=Um c.toNat
    unfold hG
    have bF:(c::s).all (λc=>gP c.toNat||h6 c.toNat)=true:=aw
    rw[bF]
    have hw:(gP c.toNat||h6 c.toNat)=true:=ag
    simp only[Dl,aa,ad,decide_true,Bool.true_and,Bool.and_true]
    revert aA hw
    cases gP c.toNat<;>cases h6 c.toNat<;>simp
 · refine bM.of (eo ?_) a8
   unfold hG
   have bF:s.all (λc=>gP c.toNat||h6 c.toNat)=s.all (λc=>oH c.toNat):=rfl
   rw[bF]
   revert af
   cases decide (1<=s.length)<;>cases decide (s.length<=24)<;>cases s.all (λc=>oH c.toNat)<;>simp
def oM(k:Nat)(s:aO)(N M:Nat)(o:Bool):Bool:=((dU s []||decide (k=6))&&((decide (N=0)||decide (k=7))&&(decide (M=0)||decide (7<=k))))&&(o==decide (k=8))
theorem Uo(m:Nat){R:Nat}{h:J}{k:Nat}{s:aO}{c5 bZ cG:I}{bV:ey}{bk up N M:Nat}{o:Bool}(ak:h.get R=some (.cells [.int .i64 (Int.ofNat k),.str s,c5,bZ,cG] 51 bV bk up))(aI:bO Tryz.prog h 48 c5=some (.int .i64 (Int.ofNat N)))(aC:bO Tryz.prog h 49 bZ=some (.int .i64 (Int.ofNat M)))(a7:(cG=.bm/\o=false)\/(∃q,cG=.ptr q 0)/\o=true):
  Y (m+1) (.fn 101) [.ptr R 0] h=.ret (.bool (oM k s N M o)) h:=by
 have gj:=pD k 8
 have fin:∀(b lS:Bool),b=lS->(ao.ret (.bool b) h=.ret (.bool lS) h):=λb lS e=>by rw[e]
 rcases a7 with⟨rfl,rfl⟩|⟨⟨q,rfl⟩,rfl⟩
 · refine Ug m R h (R:=λx=>x=.ret (.bool (oM k s N M false)) h) ⟨k,aL ak rfl,s,aL ak rfl,λaa=>⟨c5,aL ak rfl,N,aI,λad=>⟨bZ,aL ak rfl,M,aC,λaw=>⟨aL ak rfl,fin _ _ ?_⟩,λaw=>⟨λaQ=>⟨aL ak rfl,fin _ _ ?_⟩,λaQ=>fin _ _ ?_⟩⟩,λad=>⟨λaw=>⟨bZ,aL ak rfl,M,aC,λaQ=>⟨aL ak rfl,fin _ _ ?_⟩,λaQ=>⟨λbS=>⟨aL ak rfl,fin _ _ ?_⟩,λbS=>fin _ _ ?_⟩⟩,λaw=>fin _ _ ?_⟩⟩,λaa=>⟨λh0=>⟨c5,aL ak rfl,N,aI,λad=>⟨bZ,aL ak rfl,M,aC,λaw=>⟨aL ak rfl,fin _ _ ?_⟩,λaw=>⟨λaQ=>⟨aL ak rfl,fin _ _ ?_⟩,λaQ=>fin _ _ ?_⟩⟩,λad=>⟨λaw=>⟨bZ,aL ak rfl,M,aC,λaQ=>⟨aL ak rfl,fin _ _ ?_⟩,λaQ=>⟨λbS=>⟨aL ak rfl,fin _ _ ?_⟩,λbS=>fin _ _ ?_⟩⟩,λaw=>fin _ _ ?_⟩⟩,λh0=>fin _ _ ?_⟩⟩<;>
    (unfold oM;(try simp only[eC,gj]);simp_all<;>omega)
 · refine Uf m R h (R:=λx=>x=.ret (.bool (oM k s N M true)) h) ⟨k,aL ak rfl,s,aL ak rfl,λaa=>⟨c5,aL ak rfl,N,aI,λad=>⟨bZ,aL ak rfl,M,aC,λaw=>⟨q,aL ak rfl,fin _ _ ?_⟩,λaw=>⟨λaQ=>⟨q,aL ak rfl,fin _ _ ?_⟩,λaQ=>fin _ _ ?_⟩⟩,λad=>⟨λaw=>⟨bZ,aL ak rfl,M,aC,λaQ=>⟨q,aL ak rfl,fin _ _ ?_⟩,λaQ=>⟨λbS=>⟨q,aL ak rfl,fin _ _ ?_⟩,λbS=>fin _ _ ?_⟩⟩,λaw=>fin _ _ ?_⟩⟩,λaa=>⟨λh0=>⟨c5,aL ak rfl,N,aI,λad=>⟨bZ,aL ak rfl,M,aC,λaw=>⟨q,aL ak rfl,fin _ _ ?_⟩,λaw=>⟨λaQ=>⟨q,aL ak rfl,fin _ _ ?_⟩,λaQ=>fin _ _ ?_⟩⟩,λad=>⟨λaw=>⟨bZ,aL ak rfl,M,aC,λaQ=>⟨q,aL ak rfl,fin _ _ ?_⟩,λaQ=>⟨λbS=>⟨q,aL ak rfl,fin _ _ ?_⟩,λbS=>fin _ _ ?_⟩⟩,λaw=>fin _ _ ?_⟩⟩,λh0=>fin _ _ ?_⟩⟩<;>
    (unfold oM;(try simp only[eC,gj]);simp_all<;>omega)
end Go.Proofs.cD
namespace Go.Proofs.cD
open Go aB Go.Proofs df
set_option maxRecDepth 100000
set_option maxHeartbeats 1000000
def wn(l:List aO)(i:Nat):aO:=(l[i]?).getD []
def pN(p:Option aO):List aO->Bool
 |[]=>true
 |x::l=>mb p x&&pN (some x) l
theorem DS:∀(p:Option aO) (l:List aO),ly p l=(l.all hG&&pN p l)
 |p,[]=>rfl
 |p,x::l=>by
  rw[ly,pN,DS (some x) l,List.all_cons]
  cases hG x<;>cases mb p x<;>cases l.all hG<;>rfl
theorem DT:∀(p:Option aO) (eM:List Nat) (l:List aO),eM.length=l.length->nI p eM l=(eM.all (λk=>decide (k≠9)&&decide (k≠1))&&pN p l)
 |p,[],[],_=>rfl
 |p,[],_::_,h=>by simp at h
 |p,_::_,[],h=>by simp at h
 |p,k::eM,x::l,h=>by
  rw[Jg,pN,DT (some x) eM l (by simpa using h),List.all_cons]
  cases (decide (k≠9)&&decide (k≠1))<;>cases mb p x<;>cases eM.all (λk=>decide (k≠9)&&decide (k≠1))<;>rfl
theorem JK:∀(p:Option aO) (l:List aO),pN p l=true<->(∀x,l[0]? =some x->mb p x=true)/\∀i,i+1<l.length->dB (wn l i) (wn l (i+1))=true
 |p,[]=>by simp[pN]
 |p,x::l=>by
  rw[pN,Bool.and_eq_true,JK (some x) l]
  constructor
  · rintro⟨aa,ad,aw⟩
    refine⟨λy a2=>by simp at a2;subst a2;exact aa,λi ae=>?_⟩
    cases i with
    |zero=>
     cases l with
     |nil=>simp at ae
     |cons y l=>simpa[wn,mb] using ad y (by simp)
    |succ i=>simpa[wn] using aw i (by simpa using ae)
  · rintro⟨aa,ad⟩
    refine⟨aa x (by simp),λy a2=>?_,λi ae=>?_⟩
    · cases l with
      |nil=>simp at a2
      |cons z l=>
       simp at a2
       subst a2
       simpa[wn,mb] using ad 0 (by simp)
    · simpa[wn] using ad (i+1) (by simpa using ae)
theorem JL(l:List aO):pN none l=oL (wn l) l.length:=by
 rw[Bool.eq_iff_iff,JK]
 unfold oL
 rw[Bool.not_eq_true',List.any_eq_false]
 constructor
 · rintro⟨_,h⟩ i ae
   rw[List.mem_range] at ae
   cases i with
   |zero=>simp
   |succ i=>simp[h i ae]
 · intro h
   refine⟨λ_ _=>rfl,λi ae=>?_⟩
   have:=h (i+1) (by rw[List.mem_range];exact ae)
   simpa using this
def rb(l:List Bool)(i:Nat):Bool:=(l[i]?).getD false
theorem DU(l:List Bool):(List.range l.length).any (rb l)=l.any id:=by
 rw[Bool.eq_iff_iff,List.any_eq_true,List.any_eq_true]
 constructor
 · rintro⟨i,ae,h⟩
   rw[List.mem_range] at ae
   refine⟨l[i],List.getElem_mem ae,?_⟩
   simpa[rb,ae] using h
 · rintro⟨b,af,h⟩
   obtain⟨i,ae,rfl⟩:=List.getElem_of_mem af
   exact⟨i,by simpa using ae,by simpa[rb,ae] using h⟩
theorem DV{α:Type}(f:α->Bool)(l:List α){i:Nat}(ae:i<l.length):rb (l.map f) i=f l[i]:=by simp[rb,ae]
theorem JM:∀xs:List a6,(xs.map (λu=>!e0 u)).any id=!im xs
 |[]=>rfl
 |x::xs=>by
  rw[im,List.map_cons,List.any_cons,JM xs]
  cases e0 x<;>rfl
theorem DW{α:Type}(f:α->Bool):∀l:List α,(l.map (λx=>!f x)).any id=!l.all f
 |[]=>rfl
 |x::l=>by
  rw[List.map_cons,List.any_cons,List.all_cons,DW f l]
  cases f x<;>rfl
theorem JN(k:Nat)(bK:aO)(aJ:List aO)(xs:List a6)(rt:Option a6):e0 (.mk k bK aJ xs rt)=((decide (1<=k)&&decide (k<=9))&&(oM k bK aJ.length xs.length rt.isSome&&(im xs&&fO k bK aJ (xs.map a6.k) (cv xs) xs.length (iI rt)))):=by
 rw[Dm]
 congr 1
 by_cases e:k=6/\bK=[]
 · obtain⟨rfl,rfl⟩:=e
   have:fO 6 [] aJ (xs.map a6.k) (cv xs) xs.length (iI rt)=false:=by simp[fO,kS]
   rw[this];simp
 · congr 1
   unfold jF oM
   rw[s5]
   have cR:¬k=6\/¬bK=[]:=by
    by_cases h:k=6
    · right;intro ad;exact e ⟨h,ad⟩
    · exact .inl h
   have q1:(0<aJ.length)=¬aJ.length=0:=by simp[Nat.pos_iff_ne_zero]
   have eV:(0<xs.length)=¬xs.length=0:=by simp[Nat.pos_iff_ne_zero]
   have BH:(7<=k)=¬k<7:=by simp
   simp only[q1,eV,BH,ne_eq,decide_not]
   rcases cR with cR|cR<;>simp only[cR,decide_false]<;>cases decide (k=6)<;>cases decide (bK=[])<;>cases decide (aJ.length=0)<;>cases decide (k=7)<;>cases decide (xs.length=0)<;>cases decide (k<7)<;>cases rt.isSome<;>cases decide (k=8)<;>rfl
abbrev JO:Prop:=∀(u:a6),e0 u=true->sz u<=100->∀(m B:Nat) (h:J) (v:I),4*sz u+10<=m->B<=h.n->cW B h u v->bM B h (.str (wr u)) (Y m (.fn 112) [v] h)
theorem JP(hq:JO):∀(K:Nat) (t:a6),sz t<=K->sz t<=100->iH t<=90000->∀(m B:Nat) (h:J) (v:I),4*sz t+12<=m->B<=h.n->cW B h t v->bM B h (.bool (e0 t)) (Y m (.fn 90) [v] h)
 |0,t,du,_,_,_,_,_,_,_,_,_=>by
  have:=py t
  omega
 |K+1,.mk k bK aJ xs rt,du,fX,lg,m,B,h,v,hm,bI,aC=>by
  obtain⟨R,c5,bZ,cG,vs,bV,bk,up,rfl,ad,aw,aQ,bS,dm,eG⟩:=aC
  rw[q3] at du fX hm
  rw[iH] at lg
  obtain⟨m,rfl⟩:∃j,m=j+5:=⟨m-5,by omega⟩
  have gM:=dq.len dm
  have jS:=pz xs
  have hZ:=uD xs
  have s3:(aJ.map I.str).length=aJ.length:=List.length_map _
  have bd:∀(u:a6),sz u<=K->sz u<=100->iH u<=90000->∀(m B:Nat) (h:J) (v:I),4*sz u+12<=m->B<=h.n->cW B h u v->bM B h (.bool (e0 u)) (Y m (.fn 90) [v] h):=JP hq K
  rw[JN]
  have a7:(cG=.bm/\rt.isSome=false)\/(∃q,cG=.ptr q 0)/\rt.isSome=true:=by
   cases rt with
   |none=>exact .inl ⟨eG,rfl⟩
   |some u=>
    cases u with
    |mk c9 dJ gA iZ km=>obtain⟨W,_,_,_,_,_,_,_,rfl,_⟩:=eG;exact .inr ⟨⟨W,rfl⟩,rfl⟩
  have xi:∀g,Ext B h g->bO Tryz.prog g 48 c5=some (.int .i64 (Int.ofNat aJ.length)):=λg x=>by
   rw[<-s3];exact(aQ.b6 (e3.ext x (Nat.le_refl _))).len (t:=48) (e:=9) (by kernel_rfl)
  have c_:∀g,Ext B h g->bO Tryz.prog g 49 bZ=some (.int .i64 (Int.ofNat xs.length)):=λg x=>by
   rw[<-gM];exact(bS.b6 (e3.ext x (Nat.le_refl _))).len (t:=49) (e:=47) (by kernel_rfl)
  have a_:=Uo (m+3) (N:=aJ.length) (M:=xs.length) (o:=rt.isSome) aw (xi h (Ext.refl _ _)) (c_ h (Ext.refl _ _)) a7
  have jB:∀g,Ext B h g->∀i (i1:i<vs.length) (i2:i<xs.length),cW B g xs[i] vs[i]:=λg x i i1 i2=>dq.get (dq.b6 (e3.ext x (Nat.le_refl _)) _ _ dm) i i1 i2
  refine Uh (m+4) R h ⟨k,aL aw rfl,λbQ=>bM.of (eo (by simp;omega)) (Ext.refl _ _),λbQ=>⟨k,aL aw rfl,λjb=>bM.of (eo (by simp;omega)) (Ext.refl _ _),λjb=>⟨_,h,a_,λaf=>?_,λaf=>?_⟩⟩⟩
  rotate_left
  · refine bM.of (eo ?_) (Ext.refl _ _)
    have:oM k bK aJ.length xs.length rt.isSome=false:=by simpa using af
    rw[this];simp
  have iQ:oM k bK aJ.length xs.length rt.isSome=true:=by simpa using af
  have DL:(decide (1<=k)&&decide (k<=9))=true:=by simp;omega
  rw[DL,iQ,Bool.true_and,Bool.true_and]
  obtain⟨g,c1,a8⟩:=Jx (m+2) (B:=B) (h:=h) (v:=bZ) (vs:=vs) 102 [] (rb (xs.map (λu=>!e0 u))) bS (by omega) (λi i1 x ab=>by
   have i2:i<xs.length:=by omega
   have a4:=kR (List.getElem_mem i2)
   have aI:=uC (List.getElem_mem i2)
   obtain⟨g,c,y⟩:=bd xs[i] (by omega) (by omega) (by omega) (m+1) B x vs[i] (by omega) (Nat.le_trans bI ab.n) (jB x ab i i1 i2)
   rw[DV _ _ i2]
   exact TX (m+1) vs[i] x ⟨_,g,c,bM.of rfl y⟩)
  rw[show vs.length=(xs.map (λu=>!e0 u)).length by rw[List.length_map];exact gM,DU,JM] at c1
  refine⟨bZ,aL aw rfl,_,g,c1,λaf=>?_,λaf=>?_⟩
  · refine bM.of (eo ?_) a8
    have:im xs=false:=by simpa using af
    rw[this];rfl
  have hQ:im xs=true:=by simpa using af
  rw[hQ,Bool.true_and]
  have ak:=(a8.get R ad).trans aw
  have kT:=Nat.le_trans bI a8.n
  have mN:∀i (i2:i<xs.length),e0 xs[i]=true:=λi i2=>zP hQ (List.getElem_mem i2)
  have fin:∀{v:I} {w:Bool} {x:ao},w=fO k bK aJ (xs.map a6.k) (cv xs) xs.length (iI rt)->bM B g (.bool w) x->bM B h (.bool (fO k bK aJ (xs.map a6.k) (cv xs) xs.length (iI rt))) x:=by
   rintro v w x rfl ⟨an,rfl,y⟩
   exact bM.mk (a8.trans (Nat.le_refl _) y)
  refine⟨k,aL ak rfl,λfC=>?_,λfC=>⟨λe6=>?_,λe6=>⟨λgj=>?_,λgj=>⟨λgW=>?_,λgW=>?_⟩⟩⟩⟩
  · subst fC
    obtain⟨aZ,c3,cU⟩:=Js m B ja bK [45,47,46] 161 g kT (by omega) (.inr ⟨rfl,rfl⟩)
    exact⟨bK,aL ak rfl,_,aZ,c3,fin (v:=.bm) (by simp[fO,kS]) (bM.mk cU)⟩
  · subst e6
    have s4:fO 7 bK aJ (xs.map a6.k) (cv xs) xs.length (iI rt)=(decide (aJ.length=xs.length)&&ly none aJ):=by simp[fO]
    have re:Ext B g (g.room 27):=Ext.room B g 27
    have n6:=a8.trans (Nat.le_refl _) re
    have hS:=(re.get R ad).trans ak
    have cy:=aQ.b6 (e3.ext n6 (Nat.le_refl _))
    refine⟨c5,aL hS rfl,_,xi _ n6,bZ,aL hS rfl,_,c_ _ n6,λaI=>?_,λaI=>⟨aQ.snd,bS.snd,fin (v:=.bm) (by rw[s4];simp[aI]) (bM.mk re)⟩⟩
    obtain⟨aZ,c3,cU⟩:=T4 (m+2) (B:=B) (h:=g.room 27) (v:=c5) (vs:=aJ.map .str) 106 [] (rb (aJ.map (λs=>!hG s))) cy (by omega) (λi i1 x ab=>by
     have i2:i<aJ.length:=by omega
     obtain⟨g,c,y⟩:=Un (m-5) B aJ[i] x (Nat.le_trans (Nat.le_trans kT re.n) ab.n)
     rw[DV _ _ i2,List.getElem_map]
     rw[show m-5+6=m+1 by omega] at c
     exact TY (m+1) aJ[i] x ⟨_,g,c,bM.of rfl y⟩)
    rw[show(aJ.map I.str).length=(aJ.map (λs=>!hG s)).length by simp,DU,DW] at c3
    refine⟨c5,aL hS rfl,_,aZ,c3,λaf=>?_,λaf=>?_⟩
    rotate_left
    · have hf:aJ.all hG=true:=by simpa using af
      have s9:=re.trans (Nat.le_refl _) cU
      have z5:=n6.trans (Nat.le_refl _) cU
      have lX:=(s9.get R ad).trans ak
      obtain⟨cb,c4,h5⟩:=Ua (m+1) (B:=B) (h:=aZ) (v:=c5) (vs:=aJ.map .str) 109 [] (wn aJ) (Nat.le_trans kT s9.n) (aQ.b6 (e3.ext z5 (Nat.le_refl _))) (by omega) rfl (λi ae=>by rw[List.getElem_map];rfl) (λi ae=>⟨aJ[i]'(by omega),by rw[List.getElem_map]⟩) (λi i1 x ab=>by
       have i2:i<aJ.length:=by omega
       rw[List.getElem_map,show wn aJ i=aJ[i] by simp[wn,i2]]
       exact TZ m aJ[i] x (bM.mk (Ext.refl _ _)))
      rw[s3,<-JL] at c4
      exact⟨c5,aL lX rfl,_,cb,c4,aQ.snd,bS.snd,aQ.snd,aQ.snd,fin (v:=.bm) (by rw[s4,DS,hf];simp[aI]) (bM.mk (s9.trans (Nat.le_refl _) h5))⟩
    · have hf:aJ.all hG=false:=by simpa using af
      exact⟨aQ.snd,bS.snd,aQ.snd,fin (v:=.bm) (by rw[s4,DS,hf];simp) (bM.mk (re.trans (Nat.le_refl _) cU))⟩
  · subst gj
    cases rt with
    |none=>simp[oM] at iQ
    |some u=>
     rw[m1] at du fX hm
     rw[sW] at lg
     obtain⟨aZ,c3,cU⟩:=bd u (by omega) (by omega) (by omega) (m+4) B g cG (by omega) kT (cW.b6 (e3.ext a8 (Nat.le_refl _)) _ _ eG)
     exact⟨cG,aL ak rfl,_,aZ,c3,fin (v:=.bm) (by simp[fO,iI]) (bM.mk cU)⟩
  · subst gW
    have uR:fO 9 bK aJ (xs.map a6.k) (cv xs) xs.length (iI rt)=(nI none (xs.map a6.k) (cv xs)&&decide (2<=xs.length)):=by simp[fO]
    have JQ:(xs.map a6.k).length=(cv xs).length:=by rw[List.length_map,hZ]
    refine⟨bZ,aL ak rfl,_,c_ g a8,λtN=>?_,λtN=>fin (v:=.bm) (by rw[uR];simp[tN]) (bM.mk (Ext.refl _ _))⟩
    obtain⟨aZ,c3,cU⟩:=Jx (m+2) (B:=B) (h:=g) (v:=bZ) (vs:=vs) 110 [] (rb ((xs.map a6.k).map (λk=>!(decide (k≠9)&&decide (k≠1))))) (bS.b6 (e3.ext a8 (Nat.le_refl _))) (by omega) (λi i1 x ab=>by
     have i2:i<xs.length:=by omega
     have i3:i<(xs.map a6.k).length:=by rw[List.length_map];exact i2
     obtain⟨M,hU,pE⟩:=(dq.get dm i i1 i2).kind
     rw[DV _ _ i3,List.getElem_map,hU]
     have aq:=pE x (a8.trans (Nat.le_refl _) ab)
     refine T0 (m+1) M x ⟨_,aq,λe=>bM.of (eo (by simp[e])) (Ext.refl _ _),λe=>⟨_,aq,bM.of (eo (by rw[pD];simp[e])) (Ext.refl _ _)⟩⟩)
    rw[show vs.length=((xs.map a6.k).map (λk=>!(decide (k≠9)&&decide (k≠1)))).length by simp;exact gM,DU,DW] at c3
    refine⟨bZ,aL ak rfl,_,aZ,c3,λaf=>?_,λaf=>?_⟩
    rotate_left
    · have hf:(xs.map a6.k).all (λk=>decide (k≠9)&&decide (k≠1))=true:=by simpa using af
      have z5:=a8.trans (Nat.le_refl _) cU
      have lX:=(cU.get R ad).trans ak
      obtain⟨cb,c4,h5⟩:=Ue (m+1) (B:=B) (h:=aZ) (v:=bZ) (vs:=vs) 112 [] (wn (cv xs)) (Nat.le_trans kT cU.n) (bS.b6 (e3.ext z5 (Nat.le_refl _))) (by omega) rfl (λi ae=>(dq.get dm i ae (by omega)).snd) (λi ae=>by
       obtain⟨M,hU,_⟩:=(dq.get dm i ae (by omega)).kind
       exact⟨M,hU⟩) (λi i1 x ab=>by
       have i2:i<xs.length:=by omega
       have a4:=kR (List.getElem_mem i2)
       have zQ:=z5.trans (Nat.le_refl _) ab
       rw[show wn (cv xs) i=wr xs[i] by simp[wn,hZ,i2,uE xs i i2]]
       exact hq xs[i] (mN i i2) (by omega) (m+1) x.n x vs[i] (by omega) (Nat.le_refl _) (cW.le (Nat.le_trans bI zQ.n) _ _ (jB x zQ i i1 i2)))
      rw[show vs.length=(cv xs).length by omega,<-JL] at c4
      exact⟨bZ,aL lX rfl,_,cb,c4,fin (v:=.bm) (by rw[uR,DT _ _ _ JQ,hf];simp[tN]) (bM.mk (cU.trans (Nat.le_refl _) h5))⟩
    · have hf:(xs.map a6.k).all (λk=>decide (k≠9)&&decide (k≠1))=false:=by simpa using af
      exact fin (v:=.bm) (by rw[uR,DT _ _ _ JQ,hf];simp) (bM.mk cU)
  · exact fin (v:=.bm) (by simp[fO,fC,e6,gj,gW]) (bM.mk (Ext.refl _ _))
end Go.Proofs.cD
namespace Go.Proofs.cD
open Go aB Go.Proofs df
set_option maxRecDepth 100000
set_option maxHeartbeats 1000000
theorem Up(call:aF->List I->J->ao)(b:Nat)(h bc:J)
  (H1:au h b (0+0)=some .bm)
  (aE:et Tryz.prog 164 186 (I.ptr b 0) h=e5.val (I.ptr b 0) h)
  (a3:call (.fn 151) [.ptr b 0] h=ao.ret (.ptr b 0) h)
  (aX:et Tryz.prog 186 164 (I.ptr b 0) h=e5.val (I.ptr b 0) h)
  (bA:aB.storeCells h b (0+0) [.ptr b 0]=some bc):
  az Tryz.prog Tryz.f145 none call [] (ah.mk [(0,.ptr b 0)] [] .none h) (.nrm)
   (ah.mk [] [] .none bc):=
 bh [] (hs:=[.v .bm,.v (.bool true),.b true,.v (.ptr b 0),.c (.ptr b 0) h,.v (.ptr b 0),.h3 (.aP []) bc]) (by kernel_rfl)<| .cons H1<| .cons (by kernel_rfl:ej Tryz.prog h BinOp.eql 164 (Operand.tmp 5) (Operand.const (Value.pointer none)) I.bm I.bm=some (I.bool true))<| .cons (by kernel_rfl:true=true)<| .cons aE<| .cons a3<| .cons aX<| .cons (⟨by kernel_rfl,bA,rfl⟩:some 1=some 1/\aB.storeCells h b (0+0) [I.ptr b 0]=some bc/\I.aP []=I.aP [])<| .nil
theorem Uq(call:aF->List I->J->ao)(b:Nat)(h:J)(cx:Bool)
  (H1:au h b (0+0)=some (.ptr b 0))
  (aE:ej Tryz.prog h BinOp.neq 164 (Operand.tmp 17) (Operand.tmp 18) (I.ptr b 0) (I.ptr b 0)=some (I.bool cx))
  (a3:cx=false):
  az Tryz.prog Tryz.f145 none call [] (ah.mk [(0,.ptr b 0)] [] .none h) (.nrm)
   (ah.mk [] [] .none h):=
 bh [] (hs:=[.v (.ptr b 0),.v (.bool false),.b false,.v (.ptr b 0),.v (.bool cx),.b false]) (by kernel_rfl)<| .cons H1<| .cons (by kernel_rfl:ej Tryz.prog h BinOp.eql 164 (Operand.tmp 5) (Operand.const (Value.pointer none)) (I.ptr b 0) I.bm=some (I.bool false))<| .cons (by kernel_rfl:false=false)<| .cons H1<| .cons aE<| .cons a3<| .nil
theorem bws(call:aF->List I->J->ao)(b c m:Nat)(s:List UInt8)(v:I)(h ad bc dj:J)
  (H1:call (.fn 145) [.ptr b 0] h=ao.ret (.aP []) bc)
  (aE:au bc b (0+1)=some v)
  (a3:gx Tryz.prog bc 98 (some 9) v (I.str s)=some (I.slice c 0 m (ch.aS 1),ad))
  (aX:aB.storeCells ad b (0+1) [.slice c 0 m (.aS 1)]=some dj):
  az Tryz.prog Tryz.f130 none call [] (ah.mk [(0,.ptr b 0),(1,.str s)] [] .none h) (.ret)
   (ah.mk [(4,.int .i64 (.ofNat (List.length s))),(5,.ew)] [] .none dj):=
 bh [4,5] (hs:=[.c (.aP []) bc,.v v,.h3 (.slice c 0 m (.aS 1)) ad,.h3 (.aP []) dj]) (by kernel_rfl)<| .cons H1<| .cons aE<| .cons a3<| .cons (⟨by kernel_rfl,aX,rfl⟩:some 1=some 1/\aB.storeCells ad b (0+1) [I.slice c 0 m (ch.aS 1)]=some dj/\I.aP []=I.aP [])<| .nil
theorem Ur(call:aF->List I->J->ao)(b:Nat)(s:List UInt8)(v:I)(h ad bc dj:J)
  (H1:call (.fn 145) [.ptr b 0] h=ao.ret (.aP []) bc)
  (aE:au bc b (0+1)=some v)
  (a3:gx Tryz.prog bc 98 (some 9) v (I.str s)=some (I.bf,ad))
  (aX:aB.storeCells ad b (0+1) [.bf]=some dj):
  az Tryz.prog Tryz.f130 none call [] (ah.mk [(0,.ptr b 0),(1,.str s)] [] .none h) (.ret)
   (ah.mk [(4,.int .i64 (.ofNat (List.length s))),(5,.ew)] [] .none dj):=
 bh [4,5] (hs:=[.c (.aP []) bc,.v v,.h3 .bf ad,.h3 (.aP []) dj]) (by kernel_rfl)<| .cons H1<| .cons aE<| .cons a3<| .cons (⟨by kernel_rfl,aX,rfl⟩:some 1=some 1/\aB.storeCells ad b (0+1) [I.bf]=some dj/\I.aP []=I.aP [])<| .nil
theorem Us(call:aF->List I->J->ao)(b c m:Nat)(h:J)(cK:List UInt8)(bc:J)
  (H1:au (J.room h 12) b (0+1)=some (.slice c 0 m (.aS 1)))
  (aE:hP Tryz.prog Builtin.unsafeSliceData (Array.mk [98]) [.slice c 0 m (.aS 1)] (J.room h 12)=e5.val (.ptr c 0) (J.room h 12))
  (a3:oS Tryz.prog (J.room h 12) 182 (I.ptr c 0) (I.int IntKind.i64 (Int.ofNat m))=some (I.str cK,bc)):
  az Tryz.prog Tryz.f136 none call [] (ah.mk [(0,.ptr b 0)] [] .none h) (.ret)
   (ah.mk [(2,.str cK)] [] .none bc):=
 bh [2] (hs:=[.v (.slice c 0 m (.aS 1)),.v (.ptr c 0),.v (.slice c 0 m (.aS 1)),.h3 (.str cK) bc]) (by kernel_rfl)<| .cons H1<| .cons aE<| .cons H1<| .cons a3<| .cons (by kernel_rfl:I.sound (I.ptr b 0)=true)<| .cons (by kernel_rfl:I.ptr b 0=I.ptr b 0)<| .cons (by kernel_rfl:I.sound (I.ptr b 0)=true)<| .cons (by kernel_rfl:I.ptr b 0=I.ptr b 0)<| .cons (by kernel_rfl:I.sound (I.ptr b (0+1))=true)<| .cons (by kernel_rfl:I.ptr b (0+1)=I.ptr b (0+1))<| .cons (by kernel_rfl:I.sound (I.slice c 0 m (ch.aS 1))=true)<| .cons H1<| .cons (by kernel_rfl:I.sound (I.ptr c 0)=true)<| .cons aE<| .cons (by kernel_rfl:I.sound (I.ptr b 0)=true)<| .cons (by kernel_rfl:I.ptr b 0=I.ptr b 0)<| .cons (by kernel_rfl:I.sound (I.ptr b 0)=true)<| .cons (by kernel_rfl:I.ptr b 0=I.ptr b 0)<| .cons (by kernel_rfl:I.sound (I.ptr b (0+1))=true)<| .cons (by kernel_rfl:I.ptr b (0+1)=I.ptr b (0+1))<| .cons (by kernel_rfl:I.sound (I.slice c 0 m (ch.aS 1))=true)<| .cons H1<| .cons (by kernel_rfl:I.sound (I.int IntKind.i64 (Int.ofNat m))=true)<| .cons (by kernel_rfl:bO Tryz.prog (J.room h 12) 98 (I.slice c 0 m (ch.aS 1))=some (I.int IntKind.i64 (Int.ofNat m)))<| .cons (by kernel_rfl:I.sound (I.str cK)=true)<| .cons (by kernel_rfl:I.str cK=I.str cK)<| .nil
theorem Ut(call:aF->List I->J->ao)(b:Nat)(h:J)(cK:List UInt8)(bc:J)
  (H1:au (J.room h 12) b (0+1)=some .bf)
  (aE:oS Tryz.prog (J.room h 12) 182 I.bm (I.int IntKind.i64 (Int.ofNat 0))=some (I.str cK,bc)):
  az Tryz.prog Tryz.f136 none call [] (ah.mk [(0,.ptr b 0)] [] .none h) (.ret)
   (ah.mk [(2,.str cK)] [] .none bc):=
 bh [2] (hs:=[.v .bf,.v .bm,.v .bf,.h3 (.str cK) bc]) (by kernel_rfl)<| .cons H1<| .cons (by kernel_rfl:hP Tryz.prog Builtin.unsafeSliceData (Array.mk [98]) [I.bf] (J.room h 12)=e5.val I.bm (J.room h 12))<| .cons H1<| .cons aE<| .cons (by kernel_rfl:I.sound (I.ptr b 0)=true)<| .cons (by kernel_rfl:I.ptr b 0=I.ptr b 0)<| .cons (by kernel_rfl:I.sound (I.ptr b 0)=true)<| .cons (by kernel_rfl:I.ptr b 0=I.ptr b 0)<| .cons (by kernel_rfl:I.sound (I.ptr b (0+1))=true)<| .cons (by kernel_rfl:I.ptr b (0+1)=I.ptr b (0+1))<| .cons (by kernel_rfl:I.sound I.bf=true)<| .cons H1<| .cons (by kernel_rfl:I.sound I.bm=true)<| .cons (by kernel_rfl:hP Tryz.prog Builtin.unsafeSliceData (Array.mk [98]) [I.bf] (J.room h 12)=e5.val I.bm (J.room h 12))<| .cons (by kernel_rfl:I.sound (I.ptr b 0)=true)<| .cons (by kernel_rfl:I.ptr b 0=I.ptr b 0)<| .cons (by kernel_rfl:I.sound (I.ptr b 0)=true)<| .cons (by kernel_rfl:I.ptr b 0=I.ptr b 0)<| .cons (by kernel_rfl:I.sound (I.ptr b (0+1))=true)<| .cons (by kernel_rfl:I.ptr b (0+1)=I.ptr b (0+1))<| .cons (by kernel_rfl:I.sound I.bf=true)<| .cons H1<| .cons (by kernel_rfl:I.sound (I.int IntKind.i64 (Int.ofNat 0))=true)<| .cons (by kernel_rfl:bO Tryz.prog (J.room h 12) 98 I.bf=some (I.int IntKind.i64 (Int.ofNat 0)))<| .cons (by kernel_rfl:I.sound (I.str cK)=true)<| .cons (by kernel_rfl:I.str cK=I.str cK)<| .nil
theorem Uu(m:Nat)(v:I)(s:List UInt8)(fb:Nat)(fz:Nat)(b:Nat)(c:Nat)(hI:List I)(hJ:List I)(h:J){R:ao->Prop}(H:∃aN:Nat,bO Tryz.prog h 49 v=some (.int .i64 (.ofNat aN))/\bj Tryz.prog Tryz.f129 (Y m) [1,0] (ah.mk [(1,.str s),(2,.fn fb [] hI),(3,.fn fz [] hJ),(4,.ptr b 0),(5,.ptr c 0),(12,v),(13,.int .i64 (.ofNat aN)),(14,.int .i64 (.ofNat 0))] [] .none h) (λcq cr=>∃al:J,∃bl:Env,cq=.exit 0/\cr=ah.mk bl [] .none al/\cg [] bl/\R (.ret (.aP []) al))):
  R (Y (m+1) (.fn 129) [v,.str s,.fn fb [] hI,.fn fz [] hJ,.ptr b 0,.ptr c 0] h):=
 dp (intr:=bW) [(4000,.hD [1,2,3,4,5,12,13,14] [(.exit 0,[])])] [(0,.o v),(1,.v (.str s)),(2,.o (.fn fb [] hI)),(3,.o (.fn fz [] hJ)),(4,.v (.ptr b 0)),(5,.v (.ptr c 0))] Tryz.func129 (by kernel_rfl) (by kernel_rfl) (by kernel_rfl) rfl (Eq.mp (by kernel_rfl) H)
theorem Uv(call:aF->List I->J->ao)(s:List UInt8)(fb:Nat)(fz:Nat)(b:Nat)(c:Nat)(dT:Nat)(off:Nat)(N:Nat)(i:Nat)(xj:Nat)(aH:ch)(hI:List I)(hJ:List I)(co:List I)(h:J){Q:bw->ah->Prop}(H:(i<N->i<N/\∃v1:I,au h dT (off+i*1)=some v1/\(0<i->∃aN:Nat,∃v2:I,∃al:J,call (.fn 130) [.ptr b 0,.str s] h=.ret (.aP [.int .i64 (.ofNat aN),v2]) al/\∃s1:List UInt8,∃ar:J,call (.fn fb) (.int .i64 (.ofNat i)::hI) al=.ret (.str s1) ar/\∃bz:Nat,∃dc:I,∃aZ:J,call (.fn 130) [.ptr b 0,.str s1] ar=.ret (.aP [.int .i64 (.ofNat bz),dc]) aZ/\au aZ c 0=some (.fn xj [] co)/\∃cb:J,call (.fn xj) (v1::co) aZ=.ret (.aP []) cb/\∃s2:List UInt8,∃da:J,call (.fn fz) (.int .i64 (.ofNat i)::hJ) cb=.ret (.str s2) da/\∃cm:Nat,∃v4:I,∃e2:J,call (.fn 130) [.ptr b 0,.str s2] da=.ret (.aP [.int .i64 (.ofNat cm),v4]) e2/\i+1<9223372036854775808/\Q .nrm (ah.mk [(1,.str s),(2,.fn fb [] hI),(3,.fn fz [] hJ),(4,.ptr b 0),(5,.ptr c 0),(12,.slice dT off N aH),(13,.int .i64 (.ofNat N)),(14,.int .i64 (.ofNat (i+1)))] [] .none e2))/\(¬0<i->∃bq:List UInt8,∃hp:J,call (.fn fb) (.int .i64 (.ofNat i)::hI) h=.ret (.str bq) hp/\∃cy:Nat,∃hH:I,∃kH:J,call (.fn 130) [.ptr b 0,.str bq] hp=.ret (.aP [.int .i64 (.ofNat cy),hH]) kH/\au kH c 0=some (.fn xj [] co)/\∃nO:J,call (.fn xj) (v1::co) kH=.ret (.aP []) nO/\∃bL:List UInt8,∃lF:J,call (.fn fz) (.int .i64 (.ofNat i)::hJ) nO=.ret (.str bL) lF/\∃c6:Nat,∃v6:I,∃rf:J,call (.fn 130) [.ptr b 0,.str bL] lF=.ret (.aP [.int .i64 (.ofNat c6),v6]) rf/\i+1<9223372036854775808/\Q .nrm (ah.mk [(1,.str s),(2,.fn fb [] hI),(3,.fn fz [] hJ),(4,.ptr b 0),(5,.ptr c 0),(12,.slice dT off N aH),(13,.int .i64 (.ofNat N)),(14,.int .i64 (.ofNat (i+1)))] [] .none rf)))/\(¬i<N->Q (.exit 0) (ah.mk [(1,.str s),(2,.fn fb [] hI),(3,.fn fz [] hJ),(4,.ptr b 0),(5,.ptr c 0),(12,.slice dT off N aH),(13,.int .i64 (.ofNat N)),(14,.int .i64 (.ofNat i))] [] .none h))):
  bj Tryz.prog Tryz.f129 call [1,0,0] ⟨[(1,.str s),(2,.fn fb [] hI),(3,.fn fz [] hJ),(4,.ptr b 0),(5,.ptr c 0),(12,.slice dT off N aH),(13,.int .i64 (.ofNat N)),(14,.int .i64 (.ofNat i))],[],.none,h⟩ Q:=
 eu [(18,.b7 .o),(27,.b7 (.io (.fn xj [] co)))] [1,2,3,4,5,12,13,14] [(1,.v (.str s)),(2,.o (.fn fb [] hI)),(3,.o (.fn fz [] hJ)),(4,.v (.ptr b 0)),(5,.v (.ptr c 0)),(12,.v (.slice dT off N aH)),(13,.v (.int .i64 (.ofNat N))),(14,.v (.int .i64 (.ofNat i)))] rfl (Eq.mp (by kernel_rfl) H)
theorem Uw(call:aF->List I->J->ao)(s:List UInt8)(fb:Nat)(fz:Nat)(b:Nat)(c:Nat)(N:Nat)(i:Nat)(hI:List I)(hJ:List I)(v:I)(h:J){Q:bw->ah->Prop}(H:¬i<N/\Q (.exit 0) (ah.mk [] [] .none h)):
  bj Tryz.prog Tryz.f129 call [1,0,0] ⟨[(1,.str s),(2,.fn fb [] hI),(3,.fn fz [] hJ),(4,.ptr b 0),(5,.ptr c 0),(12,v),(13,.int .i64 (.ofNat N)),(14,.int .i64 (.ofNat i))],[],.none,h⟩ Q:=
 eu [(1015,.f)] [] [(1,.v (.str s)),(2,.o (.fn fb [] hI)),(3,.o (.fn fz [] hJ)),(4,.v (.ptr b 0)),(5,.v (.ptr c 0)),(12,.o v),(13,.v (.int .i64 (.ofNat N))),(14,.v (.int .i64 (.ofNat i)))] rfl (Eq.mp (by kernel_rfl) H)
theorem DX(m:Nat)(i:Nat)(h:J){R:ao->Prop}(H:R (.ret (.str []) h)):
  R (Y (m+1) (.fn 131) [.int .i64 (.ofNat i)] h):=
 dp (intr:=bW) [] [(0,.v (.int .i64 (.ofNat i)))] Tryz.func131 (by kernel_rfl) (by kernel_rfl) (by kernel_rfl) rfl (Eq.mp (by kernel_rfl) H)
theorem Ux(m:Nat)(i:Nat)(e:Nat)(h:J){R:ao->Prop}(H:∃aN:Nat,au h e 0=some (.ptr aN 0)/\∃bz:Nat,∃cm:Nat,∃cy:Nat,∃c1:ch,au h aN (0+2)=some (.slice bz cm cy c1)/\i<cy/\∃s1:List UInt8,au h bz (cm+i*1)=some (.str s1)/\List.length s1+2<=1000000000000/\R (.ret (.str (s1++[58,32])) h)):
  R (Y (m+1) (.fn 133) [.int .i64 (.ofNat i),.ptr e 0] h):=
 dp (intr:=bW) [(7,.b7 .fL)] [(0,.v (.int .i64 (.ofNat i))),(1,.v (.ptr e 0))] Tryz.func133 (by kernel_rfl) (by kernel_rfl) (by kernel_rfl) rfl (Eq.mp (by kernel_rfl) H)
theorem JR(m:Nat)(s:List UInt8)(e:Nat)(h:J){R:ao->Prop}(H:R (.ret (.fn 135 [] [.ptr e 0,.ptr h.n 0]) (J.push h (.cells [.str s] 9 .own 0 0)))):
  R (Y (m+1) (.fn 134) [.str s,.ptr e 0] h):=
 dp (intr:=bW) [] [(0,.v (.str s)),(1,.v (.ptr e 0))] Tryz.func134 (by kernel_rfl) (by kernel_rfl) (by kernel_rfl) rfl (Eq.mp (by kernel_rfl) H)
theorem Uy(m:Nat)(i:Nat)(e:Nat)(f:Nat)(h:J){R:ao->Prop}(H:∃aN:Nat,au h e 0=some (.ptr aN 0)/\∃bz:Nat,∃cm:Nat,∃cy:Nat,∃c1:ch,au h aN (0+3)=some (.slice bz cm cy c1)/\i<cy/\∃c6:Nat,au h bz (cm+i*1)=some (.ptr c6 0)/\∃dr:Nat,au h c6 (0+0)=some (.int .i64 (.ofNat dr))/\(dr=8->∃s1:List UInt8,au h f 0=some (.str s1)/\R (.ret (.str s1) h))/\(¬dr=8->R (.ret (.str []) h))):
  R (Y (m+1) (.fn 135) [.int .i64 (.ofNat i),.ptr e 0,.ptr f 0] h):=
 dp (intr:=bW) [(8,.b7 .fL)] [(0,.v (.int .i64 (.ofNat i))),(1,.v (.ptr e 0)),(2,.v (.ptr f 0))] Tryz.func135 (by kernel_rfl) (by kernel_rfl) (by kernel_rfl) rfl (Eq.mp (by kernel_rfl) H)
theorem Uz(m:Nat)(b:Nat)(l:Nat)(n:Nat)(o:Nat)(r:Nat)(k:Nat)(s:List UInt8)(bZ:I)(cG:I)(h:J){R:ao->Prop}(H:au (J.push h (.cells [.ptr r 0] 47 .own 0 0)) h.n 0=some (.ptr r 0)/\au (J.push h (.cells [.ptr r 0] 47 .own 0 0)) r (0+0)=some (.int .i64 (.ofNat k))/\(k=6->au (J.push h (.cells [.ptr r 0] 47 .own 0 0)) h.n 0=some (.ptr r 0)/\au (J.push h (.cells [.ptr r 0] 47 .own 0 0)) r (0+1)=some (.str s)/\∃aN:Nat,∃v1:I,∃al:J,(Y m) (.fn 130) [.ptr b 0,.str s] (J.push h (.cells [.ptr r 0] 47 .own 0 0))=.ret (.aP [.int .i64 (.ofNat aN),v1]) al/\R (.ret (.aP []) al))/\(¬k=6->(k=7->∃bz:Nat,∃v2:I,∃ar:J,(Y m) (.fn 130) [.ptr b 0,.str [123]] (J.push h (.cells [.ptr r 0] 47 .own 0 0))=.ret (.aP [.int .i64 (.ofNat bz),v2]) ar/\au (ar.room 8) l 0=some (.fn 129 [] [.ptr b 0,.ptr o 0])/\au (ar.room 8) h.n 0=some (.ptr r 0)/\au (ar.room 8) r (0+3)=some bZ/\au (ar.room 8) n 0=some (.fn 131 [] [])/\∃aZ:J,(Y m) (.fn 129) [bZ,.str [44,32],.fn 133 [] [.ptr h.n 0],.fn 131 [] [],.ptr b 0,.ptr o 0] (ar.room 8)=.ret (.aP []) aZ/\I.sound bZ=true/\∃cm:Nat,∃dc:I,∃cb:J,(Y m) (.fn 130) [.ptr b 0,.str [125]] aZ=.ret (.aP [.int .i64 (.ofNat cm),dc]) cb/\R (.ret (.aP []) cb))/\(¬k=7->(k=8->∃cy:Nat,∃v4:I,∃da:J,(Y m) (.fn 130) [.ptr b 0,.str [102,110,40]] (J.push h (.cells [.ptr r 0] 47 .own 0 0))=.ret (.aP [.int .i64 (.ofNat cy),v4]) da/\au (da.room 8) l 0=some (.fn 129 [] [.ptr b 0,.ptr o 0])/\au (da.room 8) h.n 0=some (.ptr r 0)/\au (da.room 8) r (0+3)=some bZ/\au (da.room 8) n 0=some (.fn 131 [] [])/\au (da.room 8) n 0=some (.fn 131 [] [])/\∃e2:J,(Y m) (.fn 129) [bZ,.str [44,32],.fn 131 [] [],.fn 131 [] [],.ptr b 0,.ptr o 0] (da.room 8)=.ret (.aP []) e2/\I.sound bZ=true/\∃c6:Nat,∃hH:I,∃hp:J,(Y m) (.fn 130) [.ptr b 0,.str [41,32,45,62,32]] e2=.ret (.aP [.int .i64 (.ofNat c6),hH]) hp/\au (hp.room 6) o 0=some (.fn 132 [] [.ptr b 0,.ptr l 0,.ptr n 0,.ptr o 0])/\au (hp.room 6) h.n 0=some (.ptr r 0)/\au (hp.room 6) r (0+4)=some cG/\∃kH:J,(Y m) (.fn 132) [cG,.ptr b 0,.ptr l 0,.ptr n 0,.ptr o 0] (hp.room 6)=.ret (.aP []) kH/\I.sound cG=true/\R (.ret (.aP []) kH))/\(¬k=8->(k=9->au (J.room (J.push h (.cells [.ptr r 0] 47 .own 0 0)) 10) l 0=some (.fn 129 [] [.ptr b 0,.ptr o 0])/\au (J.room (J.push h (.cells [.ptr r 0] 47 .own 0 0)) 10) h.n 0=some (.ptr r 0)/\au (J.room (J.push h (.cells [.ptr r 0] 47 .own 0 0)) 10) r (0+3)=some bZ/\∃v6:I,∃nO:J,(Y m) (.fn 134) [.str [40],.ptr h.n 0] (J.room (J.push h (.cells [.ptr r 0] 47 .own 0 0)) 10)=.ret v6 nO/\∃q_:I,∃lF:J,(Y m) (.fn 134) [.str [41],.ptr h.n 0] nO=.ret q_ lF/\∃rf:J,(Y m) (.fn 129) [bZ,.str [32,124,32],v6,q_,.ptr b 0,.ptr o 0] lF=.ret (.aP []) rf/\au lF l 0=some (.fn 129 [] [.ptr b 0,.ptr o 0])/\au nO l 0=some (.fn 129 [] [.ptr b 0,.ptr o 0])/\au lF h.n 0=some (.ptr r 0)/\au nO h.n 0=some (.ptr r 0)/\I.sound bZ=true/\au lF r (0+3)=some bZ/\au nO r (0+3)=some bZ/\R (.ret (.aP []) rf))/\(¬k=9->au (J.push h (.cells [.ptr r 0] 47 .own 0 0)) h.n 0=some (.ptr r 0)/\au (J.push h (.cells [.ptr r 0] 47 .own 0 0)) r (0+0)=some (.int .i64 (.ofNat k))/\∃s1:List UInt8,(k<6/\kx Tryz.prog 9 [.str [],.str [97,110,121],.str [105,110,116],.str [98,111,111,108],.str [115,116,114],.str [110,105,108]] (k*1)=some (.str s1))/\∃dr:Nat,∃ra:I,∃xk:J,(Y m) (.fn 130) [.ptr b 0,.str s1] (J.push h (.cells [.ptr r 0] 47 .own 0 0))=.ret (.aP [.int .i64 (.ofNat dr),ra]) xk/\R (.ret (.aP []) xk)))))):
  R (Y (m+1) (.fn 132) [.ptr r 0,.ptr b 0,.ptr l 0,.ptr n 0,.ptr o 0] h):=
 dp (intr:=bW) [(7,.b7 (.is (.ptr r 0))),(20,.b7 (.is (.ptr r 0))),(29,.b7 (.is (.ptr r 0))),(41,.b7 (.is (.ptr r 0))),(50,.b7 (.is (.ptr r 0))),(59,.b7 (.is (.ptr r 0))),(12,.b7 (.is (.ptr r 0))),(10,.b7 (.is (.int .i64 (.ofNat k)))),(15,.b7 (.is (.int .i64 (.ofNat k)))),(23,.b7 (.is (.str s))),(32,.b7 (.io bZ)),(44,.b7 (.io bZ)),(62,.b7 (.io bZ)),(53,.b7 (.io cG)),(28,.b7 (.is (.fn 129 [] [.ptr b 0,.ptr o 0]))),(40,.b7 (.is (.fn 129 [] [.ptr b 0,.ptr o 0]))),(58,.b7 (.is (.fn 129 [] [.ptr b 0,.ptr o 0]))),(34,.b7 (.is (.fn 131 [] []))),(45,.b7 (.is (.fn 131 [] []))),(46,.b7 (.is (.fn 131 [] []))),(49,.b7 (.is (.fn 132 [] [.ptr b 0,.ptr l 0,.ptr n 0,.ptr o 0]))),(64,.b7 .o),(66,.b7 .o)] [(0,.v (.ptr r 0)),(1,.v (.ptr b 0)),(2,.v (.ptr l 0)),(3,.v (.ptr n 0)),(4,.v (.ptr o 0))] Tryz.func132 (by kernel_rfl) (by kernel_rfl) (by kernel_rfl) rfl (Eq.mp (by kernel_rfl) H)
theorem UA(m:Nat)(r:Nat)(h:J){R:ao->Prop}(H:∃al:J,aB.storeCells (J.push (J.push (J.push h (.cells [.bm,.bf] 166 .own 0 0)) (.cells [.e4] 127 .own 0 0)) (.cells [.e4] 172 .own 0 0)) (J.n (J.push (J.push h (.cells [.bm,.bf] 166 .own 0 0)) (.cells [.e4] 127 .own 0 0))) 0 [.fn 129 [] [.ptr h.n 0,.ptr (J.n (J.push h (.cells [.bm,.bf] 166 .own 0 0))) 0]]=some al/\∃ar:J,aB.storeCells (J.push al (.cells [.e4] 167 .own 0 0)) al.n 0 [.fn 131 [] []]=some ar/\∃aZ:J,aB.storeCells ar (J.n (J.push h (.cells [.bm,.bf] 166 .own 0 0))) 0 [.fn 132 [] [.ptr h.n 0,.ptr (J.n (J.push (J.push h (.cells [.bm,.bf] 166 .own 0 0)) (.cells [.e4] 127 .own 0 0))) 0,.ptr al.n 0,.ptr (J.n (J.push h (.cells [.bm,.bf] 166 .own 0 0))) 0]]=some aZ/\∃bl:List I,au aZ (J.n (J.push h (.cells [.bm,.bf] 166 .own 0 0))) 0=some (.fn 132 [] bl)/\∃cb:J,(Y m) (.fn 132) (.ptr r 0::bl) aZ=.ret (.aP []) cb/\∃s1:List UInt8,∃da:J,(Y m) (.fn 136) [.ptr h.n 0] cb=.ret (.str s1) da/\R (.ret (.str s1) da)):
  R (Y (m+1) (.fn 112) [.ptr r 0] h):=
 dp (intr:=bW) [(9,.b7 (.fn 132 4))] [(0,.v (.ptr r 0))] Tryz.func112 (by kernel_rfl) (by kernel_rfl) (by kernel_rfl) rfl (Eq.mp (by kernel_rfl) H)
def xl(B b:Nat)(h:J)(w:List UInt8):Prop:=∃a v,h.get b=some (.cells [a,v] 166 .own 0 0)/\(a=.bm\/a=.ptr b 0)/\sr B 5 h v w/\b<B/\B<=h.n/\(w=[]->v=.bf)
theorem UB(n b:Nat)(h:J):Y (n+1) (.fn 151) [.ptr b 0] h=.ret (.ptr b 0) h:=by unfold Y;kernel_rfl
theorem UC(n b:Nat)(h:J)(v:I)(af:b<h.n)(ak:h.get b=some (.cells [.bm,v] 166 .own 0 0)\/h.get b=some (.cells [.ptr b 0,v] 166 .own 0 0)):
  ∃an,Y (n+2) (.fn 145) [.ptr b 0] h=.ret (.aP []) an/\an.get b=some (.cells [.ptr b 0,v] 166 .own 0 0)/\an.n=h.n/\∀c,c≠b->an.get c=h.get c:=by
 rcases ak with ak|ak
 · refine⟨h.set b (some (.cells [.ptr b 0,v] 166 .own 0 0)),?_,iW rfl,rfl,λc ag=>pn ag rfl⟩
   have f1:Tryz.prog.underlying 164=some (.pointer 166):=by kernel_rfl
   have f2:Tryz.prog.underlying 186=some .unsafePointer:=by kernel_rfl
   have f3:dd Tryz.prog 166=some 2:=by kernel_rfl
   have f4:liesAt Tryz.prog Tryz.prog.depth 166 (2/Tryz.prog.cellsOf 166) 0 166 1=true:=by kernel_rfl
   have v1:et Tryz.prog 164 186 (I.ptr b 0) h=e5.val (I.ptr b 0) h:=by
    simp only[et,f1,f2,f3,ak];rfl
   have v2:et Tryz.prog 186 164 (I.ptr b 0) h=e5.val (I.ptr b 0) h:=by
    simp only[et,f1,f2,f3,ak,List.length_cons,List.length_nil,f4];rfl
   have ai:=Up (Y (n+1)) b h _ (aL ak rfl) v1 (UB n b h) v2 (iE ak rfl rfl)
   exact ed (intr:=bW) (n:=n+1) (args:=[.ptr b 0]) Tryz.func145 (by kernel_rfl) rfl (by kernel_rfl) ai (.inr rfl) (by kernel_rfl)
 · refine⟨h,?_,ak,rfl,λc _=>rfl⟩
   have he:ej Tryz.prog h BinOp.neq 164 (Operand.tmp 17) (Operand.tmp 18) (I.ptr b 0) (I.ptr b 0)=some (I.bool false):=by
    have ax:Tryz.prog.underlying 164=some (.pointer 166):=by kernel_rfl
    have ay:dd Tryz.prog 166=some 2:=by kernel_rfl
    have bF:Nat.beq b b=true:=by simp
    simp only[ej,pY,hz,ax,ay,AG,bF]
    rfl
   exact ed (intr:=bW) (n:=n+1) (args:=[.ptr b 0]) Tryz.func145 (by kernel_rfl) rfl (by kernel_rfl) (Uq (Y (n+1)) b h false (aL ak rfl) he rfl) (.inr rfl) (by kernel_rfl)
theorem UD:∃i,Tryz.prog.info? 5=some i/\i.size=1/\i.bytes=1:=by
 have ae:(Tryz.prog.info? 5).map (λi=>(i.size,i.bytes))=some (1,1):=by kernel_rfl
 cases xm:Tryz.prog.info? 5 with
 |none=>rw[xm] at ae;cases ae
 |some i=>
  rw[xm] at ae
  simp only[Option.map_some,Option.some.injEq,Prod.mk.injEq] at ae
  exact⟨i,rfl,ae.1,ae.2⟩
theorem UE{i:TypeInfo}(ae:i.bytes=1){n:Nat}(aI:n<=1000000000):k2 n i.bytes=true:=by
 rw[ae]
 have:(4*n+2048)*(1+1)<=281474976710656:=by omega
 simpa[k2] using this
theorem UF(n b B:Nat)(h:J)(w s:List UInt8)(af:xl B b h w)(aq:w.length+s.length<=1000000000):∃an,Y (n+3) (.fn 130) [.ptr b 0,.str s] h=.ret (.aP [.int .i64 (Int.ofNat s.length),.ew]) an/\xl B b an (w++s)/\l5 5 b B h an:=by
 obtain⟨a,v,ak,ba,JS,md,UG,r5⟩:=af
 obtain⟨aa,c1,al,aN,cH⟩:=UC n b h v (by omega) (by rcases ba with rfl|rfl;exact .inl ak;exact .inr ak)
 have a5:sr B 5 aa v w:=JS.ext (by omega) λc ag _=>cH c (by omega)
 obtain⟨i,xm,JT,BZ⟩:=UD
 obtain⟨v',ad,c9,dJ,gA⟩:=PD (P:=Tryz.prog) (B:=B) (sT:=98) (xT:=some 9) (e:=5) (z:=.int .u8 (Int.ofNat 0)) (by omega) (by kernel_rfl) (by kernel_rfl) xm JT (by kernel_rfl) rfl (UE BZ aq) a5
 have ar:=(gA.get b md).trans al
 have aI:=gA.n
 have mg:w++s=[]->v'=.bf:=by
  intro e
  obtain⟨rfl,rfl⟩:=List.append_eq_nil_iff.1 e
  obtain rfl:=r5 rfl
  have:gx Tryz.prog aa 98 (some 9) .bf (.str [])=some (.bf,aa):=by
   have hu:Tryz.prog.underlying 98=some (.slice 5):=by kernel_rfl
   have hs:nZ Tryz.prog (some 9)=true:=by kernel_rfl
   have a4:ea Tryz.prog 5=some (.int .u8 (Int.ofNat 0)):=by kernel_rfl
   simp only[gx,hu,hs,xm,a4,JT];rfl
  rw[this] at c9
  cases c9;rfl
 refine⟨ad.set b (some (.cells [.ptr b 0,v'] 166 .own 0 0)),?_,⟨.ptr b 0,v',iW rfl,.inr rfl,dJ.ext (by simp) λc ag _=>pn (by omega) rfl,md,by simp;omega,mg⟩,⟨⟨by simp;omega,λc ag ke=>pn ke ((gA.get c ag).trans (cH c ke))⟩,λd aA JU r_=>?_⟩⟩
 · rcases dJ with⟨rfl,_⟩|⟨c,r,rfl,_⟩
   · exact ed (intr:=bW) (n:=n+2) (args:=[.ptr b 0,.str s]) Tryz.func130 (by kernel_rfl) rfl (by kernel_rfl) (Ur (Y (n+2)) b s v h ad aa _ c1 (aL al rfl) c9 (iE ar rfl rfl)) (.inl rfl) (by kernel_rfl)
   · exact ed (intr:=bW) (n:=n+2) (args:=[.ptr b 0,.str s]) Tryz.func130 (by kernel_rfl) rfl (by kernel_rfl) (bws (Y (n+2)) b c _ s v h ad aa _ c1 (aL al rfl) c9 (iE ar rfl rfl)) (.inl rfl) (by kernel_rfl)
 · refine pn JU ((PV c9 (by omega) ?_).trans (cH d JU))
   rintro o l c rfl
   rcases JS with⟨ab,_⟩|⟨c',rest,ab,ag,_⟩
   · cases ab
   · cases ab
     exact r_ _ _ _ ag
theorem UH(n b B:Nat)(h:J)(w:List UInt8)(af:xl B b h w)(aq:w.length<=1000000000):∃an,Y (n+1) (.fn 136) [.ptr b 0] h=.ret (.str w) an/\Ext B h an:=by
 obtain⟨a,v,g,ba,aC,md,aI,r5⟩:=af
 rcases aC with⟨rfl,rfl⟩|⟨c,rest,rfl,ag,wH,ou⟩
 · have lb:oS Tryz.prog (J.room h 12) 182 I.bm (I.int IntKind.i64 (Int.ofNat 0))=some (.str [],J.room h 12):=by kernel_rfl
   exact⟨_,ed (intr:=bW) (n:=n) (args:=[.ptr b 0]) Tryz.func136 (by kernel_rfl) rfl (by kernel_rfl) (Ut (Y n) b h [] _ (aL (h:=h.room 12) g rfl) lb) (.inl rfl) (by kernel_rfl),Ext.room _ _ _⟩
 · by_cases hw:w=[]
   · exact absurd (r5 hw) (by simp)
   · have dk:w.length≠0:=by cases w<;>simp at hw⊢
     have eK:hP Tryz.prog Builtin.unsafeSliceData (Array.mk [98]) [I.slice c 0 w.length (ch.aS 1)] (J.room h 12)=e5.val (I.ptr c 0) (J.room h 12):=by
      simp only[hP]
      exact if_neg dk
     have lb:=PG (P:=Tryz.prog) (h:=h.room 12) (pT:=182) (u:=5) (c:=c) (e:=5) (w:=w) (rest:=rest) hw (by omega) (by kernel_rfl) (by kernel_rfl) (by kernel_rfl) ag
     exact⟨_,ed (intr:=bW) (n:=n) (args:=[.ptr b 0]) Tryz.func136 (by kernel_rfl) rfl (by kernel_rfl) (Us (Y n) b c w.length h w _ (aL (h:=h.room 12) g rfl) eK lb) (.inl rfl) (by kernel_rfl),
      (Ext.room B h 12).trans (Nat.le_refl _) (Ext.set (by omega) _)⟩
end Go.Proofs.cD
namespace Go.Proofs.cD
open Go aB Go.Proofs df
set_option maxRecDepth 100000
set_option maxHeartbeats 1000000
abbrev nP(b:Nat):List I:=[.ptr b 0,.ptr (b+2) 0,.ptr (b+3) 0,.ptr (b+1) 0]
structure fv(b:Nat)(h0 x:J)(w:aO):Prop where
 z6:xl (b+4) b x w
 one:x.get (b+1)=some (.cells [.fn 132 [] (nP b)] 127 .own 0 0)
 uU:x.get (b+2)=some (.cells [.fn 129 [] [.ptr b 0,.ptr (b+1) 0]] 172 .own 0 0)
 nx:x.get (b+3)=some (.cells [.fn 131 [] []] 167 .own 0 0)
 ext:Ext b h0 x
abbrev hl(b:Nat)(x y:J):Prop:=l5 5 b (b+4) x y
theorem fv.n{b:Nat}{h0 x:J}{w:aO}(af:fv b h0 x w):b+4<=x.n:=by obtain⟨_,_,_,_,_,_,h,_⟩:=af.z6;exact h
theorem fv.JV{b:Nat}{h0 x y:J}{w w':aO}(af:fv b h0 x w)(a2:xl (b+4) b y w')(k:hl b x y):fv b h0 y w':=
 ⟨a2,(k.x.get _ (by omega) (by omega)).trans af.one,(k.x.get _ (by omega) (by omega)).trans af.uU,(k.x.get _ (by omega) (by omega)).trans af.nx,
  af.ext.trans (Nat.le_refl _) ⟨k.x.n,λd aA=>k.x.get d (by omega) (by omega)⟩⟩
theorem fv.z7{b:Nat}{h0 x y:J}{w:aO}(af:fv b h0 x w)(e:Ext x.n x y):fv b h0 y w/\hl b x y:=by
 have aI:=af.n
 have av:hl b x y:=l5.ext e aI
 refine⟨af.JV ?_ av,av⟩
 obtain⟨a,v,aa,ad,aw,aQ,bS,dm⟩:=af.z6
 exact⟨a,v,(e.get b (by omega)).trans aa,ad,aw.ext e.n λc _ ag=>e.get c ag,aQ,Nat.le_trans bS e.n,dm⟩
theorem fv.ws{b:Nat}{h0 x:J}{w:aO}(n:Nat)(s:aO)(af:fv b h0 x w)(aq:w.length+s.length<=1000000000):∃y,Y (n+3) (.fn 130) [.ptr b 0,.str s] x=.ret (.aP [.int .i64 (Int.ofNat s.length),.ew]) y/\fv b h0 y (w++s)/\hl b x y:=by
 obtain⟨y,c,a2,k⟩:=UF n b (b+4) x w s af.z6 aq
 exact⟨y,c,af.JV a2 k,k⟩
theorem hl.own{b d:Nat}{x y:J}{cs:List I}{e:Nat}(k:hl b x y)(aA:d<x.n)(af:d≠b)(ak:x.get d=some (.cells cs e .own 0 0)):d<y.n/\y.get d=some (.cells cs e .own 0 0):=
 ⟨Nat.lt_of_lt_of_le aA k.x.n,(k.k d aA af (by rw[ak];intro cs bk up h;cases h)).trans ak⟩
theorem DY(m:Nat){b:Nat}{h0:J}{v:I}{vs:List I}(sep:aO)(fb fz:Nat)(hI hJ:List I)(A W Z:Nat->aO)(items:List aO)(K:J->Prop)(du:∀x y,K x->hl b x y->K y)(aC:c7 b h0 v vs)(hlen:vs.length<=90000)(nL:items.length=vs.length)(DZ:∀i (ae:i<items.length),items[i]=A i++W i++Z i)
  (iB:∀i x w,i<vs.length->fv b h0 x w->K x->Y (m+3) (.fn fb) (.int .i64 (Int.ofNat i)::hI) x=.ret (.str (A i)) x)
  (UI:∀i x w,i<vs.length->fv b h0 x w->K x->Y (m+3) (.fn fz) (.int .i64 (Int.ofNat i)::hJ) x=.ret (.str (Z i)) x)
  (pb:∀i (ae:i<vs.length) x w,fv b h0 x w->K x->w.length+(W i).length<=1000000->∃y,Y (m+3) (.fn 132) (vs[i]::nP b) x=.ret (.aP []) y/\fv b h0 y (w++W i)/\hl b x y)
  {x:J}{w:aO}(ab:fv b h0 x w)(pF:K x)(aq:w.length+(dZ sep items).length<=1000000):
  ∃y,Y (m+4) (.fn 129) [v,.str sep,.fn fb [] hI,.fn fz [] hJ,.ptr b 0,.ptr (b+1) 0] x=.ret (.aP []) y/\fv b h0 y (w++dZ sep items)/\hl b x y:=by
 have c_:∀g,Ext b h0 g->bO Tryz.prog g 49 v=some (.int .i64 (Int.ofNat vs.length)):=λg x=>(aC.b6 (e3.ext x (Nat.le_refl _))).len (t:=49) (e:=47) (by kernel_rfl)
 refine Uu (m+3) v sep fb fz b (b+1) hI hJ x (R:=λr=>∃y,r=.ret (.aP []) y/\fv b h0 y (w++dZ sep items)/\hl b x y) ⟨vs.length,c_ x ab.ext,?_⟩
 refine bj.loop (by kernel_rfl) (λk st=>∃i y Γ,st=⟨Γ,[],.none,y⟩/\cg [(1,.str sep),(2,.fn fb [] hI),(3,.fn fz [] hJ),(4,.ptr b 0),(5,.ptr (b+1) 0),(12,v),(13,.int .i64 (Int.ofNat vs.length)),(14,.int .i64 (Int.ofNat i))] Γ/\vs.length-i=k/\i<=vs.length/\fv b h0 y (w++dZ sep (items.take i))/\hl b x y/\K y) ?_ vs.length _ (by omega) ⟨0,x,_,rfl,⟨rfl,rfl,rfl,rfl,rfl,rfl,rfl,rfl,trivial⟩,by omega,by omega,by simpa[dZ] using ab,l5.refl _ _ _ _,pF⟩
 rintro k st ⟨i,y,Γ,rfl,cJ,av,ae,a2,hw,xn⟩
 by_cases aa:i<vs.length
 · have ad:i<items.length:=by omega
   rcases aC with⟨rfl,rfl⟩|⟨dT,off,aH,rfl,af,fA,a_,aA⟩
   · simp at aa
   have t1:=w1 sep items (i+1)
   have t2:=w0 sep items ad
   have JW:=DZ i ad
   have item:∀y dw,fv b h0 y dw->K y->dw.length+(items[i]).length<=1000000->∃a ar,Y (m+3) (.fn fb) (.int .i64 (Int.ofNat i)::hI) y=.ret (.str a) ar/\∃cl aZ,Y (m+3) (.fn 130) [.ptr b 0,.str a] ar=.ret (.aP [.int .i64 (Int.ofNat cl),.ew]) aZ/\au aZ (b+1) 0=some (.fn 132 [] (nP b))/\∃cb,Y (m+3) (.fn 132) (vs[i]::nP b) aZ=.ret (.aP []) cb/\∃z da,Y (m+3) (.fn fz) (.int .i64 (Int.ofNat i)::hJ) cb=.ret (.str z) da/\∃fr e2,Y (m+3) (.fn 130) [.ptr b 0,.str z] da=.ret (.aP [.int .i64 (Int.ofNat fr),.ew]) e2/\fv b h0 e2 (dw++items[i])/\hl b y e2:=by
    intro y dw JX D0 hT
    rw[JW] at hT
    simp only[List.length_append] at hT
    obtain⟨aZ,c3,dP,fr⟩:=JX.ws m (A i) (by omega)
    obtain⟨cb,c4,kn,o8⟩:=pb i aa aZ _ dP (du _ _ D0 fr) (by simp;omega)
    have UJ:=du _ _ (du _ _ D0 fr) o8
    obtain⟨e2,xo,ko,wb⟩:=kn.ws m (Z i) (by simp;omega)
    refine⟨A i,y,iB i y _ aa JX D0,_,aZ,c3,aL dP.one rfl,cb,c4,Z i,cb,UI i cb _ aa kn UJ,_,e2,xo,?_,(fr.trans o8).trans wb⟩
    rw[JW]
    simpa only[List.append_assoc] using ko
   have oN:∀e2,fv b h0 e2 (w++dZ sep (items.take (i+1)))->hl b y e2->(dI (λs=>∃j,j<k/\(λk st=>∃i y Γ,st=⟨Γ,[],.none,y⟩/\cg [(1,.str sep),(2,.fn fb [] hI),(3,.fn fz [] hJ),(4,.ptr b 0),(5,.ptr (b+1) 0),(12,.slice dT off vs.length aH),(13,.int .i64 (Int.ofNat vs.length)),(14,.int .i64 (Int.ofNat i))] Γ/\vs.length-i=k/\i<=vs.length/\fv b h0 y (w++dZ sep (items.take i))/\hl b x y/\K y) j s) (λcq cr=>∃(g:J) (bU:Env),cq=.exit 0/\cr=⟨bU,[],.none,g⟩/\cg [] bU/\∃y,ao.ret (.aP []) g=.ret (.aP []) y/\fv b h0 y (w++dZ sep items)/\hl b x y)) .nrm ⟨[(1,.str sep),(2,.fn fb [] hI),(3,.fn fz [] hJ),(4,.ptr b 0),(5,.ptr (b+1) 0),(12,.slice dT off vs.length aH),(13,.int .i64 (Int.ofNat vs.length)),(14,.int .i64 (Int.ofNat (i+1)))],[],.none,e2⟩:=λe2 ko wb=>
    ⟨_,(by show vs.length-(i+1)<k;omega),i+1,e2,_,rfl,⟨rfl,rfl,rfl,rfl,rfl,rfl,rfl,rfl,trivial⟩,rfl,by omega,ko,hw.trans wb,du _ _ xn wb⟩
   refine bj.pre (Uv (Y (m+3)) sep fb fz b (b+1) dT off _ i 132 aH hI hJ (nP b) y ⟨λ_=>⟨aa,_,gg a2.ext af (fA i aa),λvS=>?_,λvS=>?_⟩,λaj=>absurd aa aj⟩) cJ rfl rfl rfl
   · rw[if_pos vS] at t2
     rw[t2] at t1
     simp only[List.length_append] at t1
     obtain⟨al,c1,a5,bQ⟩:=a2.ws m sep (by simp;omega)
     obtain⟨a,ar,c2,cl,aZ,c3,c4,cb,nQ,z,da,xo,fr,e2,D1,ko,bV⟩:=item al _ a5 (du _ _ xn bQ) (by simp;omega)
     exact⟨_,_,al,c1,a,ar,c2,cl,_,aZ,c3,c4,cb,nQ,z,da,xo,fr,_,e2,D1,by omega,oN e2 (by rw[t2];simpa only[List.append_assoc] using ko) (bQ.trans bV)⟩
   · rw[if_neg vS] at t2
     rw[t2] at t1
     have dt:items.take i=[]:=by rw[show i=0 by omega];rfl
     rw[dt] at a2
     obtain⟨a,ar,c2,cl,aZ,c3,c4,cb,nQ,z,da,xo,fr,e2,D1,ko,bV⟩:=item y _ a2 xn (by simp[dZ];omega)
     exact⟨a,ar,c2,cl,_,aZ,c3,c4,cb,nQ,z,da,xo,fr,_,e2,D1,by omega,oN e2 (by rw[t2];simpa[dZ] using ko) bV⟩
 · refine bj.pre (Uw (Y (m+3)) sep fb fz b (b+1) vs.length i hI hJ v y ⟨aa,y,_,rfl,rfl,trivial,y,rfl,?_,hw⟩) cJ rfl rfl rfl
   rw[List.take_of_length_le (by omega)] at a2
   exact a2
end Go.Proofs.cD
namespace Go.Proofs.cD
open Go aB Go.Proofs df
set_option maxRecDepth 100000
set_option maxHeartbeats 1000000
theorem UK{k:Nat}(aa:1<=k)(bS:k<=5):kx Tryz.prog 9 [.str [],.str [97,110,121],.str [105,110,116],.str [98,111,111,108],.str [115,116,114],.str [110,105,108]] (k*1)=some (.str (word k)):=by
 have:k=1\/k=2\/k=3\/k=4\/k=5:=by omega
 rcases this with rfl|rfl|rfl|rfl|rfl<;>rfl
theorem JY{a b c:aO}:(a++b++c).length=a.length+b.length+c.length:=by simp;omega
theorem JZ:∀(K:Nat) (t:a6),sz t<=K->e0 t=true->sz t<=100->∀(m b:Nat) (h0:J) (v:I),2*sz t+6<=m->cW b h0 t v->∀(x:J) (w:aO),fv b h0 x w->w.length+(wr t).length<=1000000->∃y,Y m (.fn 132) (v::nP b) x=.ret (.aP []) y/\fv b h0 y (w++wr t)/\hl b x y
 |0,t,du,_,_,_,_,_,_,_,_,_,_,_,_=>by
  have:=py t
  omega
 |K+1,.mk k bK aJ xs rt,du,s_,fX,m,b,h0,v,hm,aC,x,w,ab,aq=>by
  obtain⟨R,c5,bZ,cG,vs,bV,bk,up,rfl,ad,aw,aQ,bS,dm,eG⟩:=aC
  have di:=w2 _ s_
  rw[JN] at s_
  simp only[Bool.and_eq_true,decide_eq_true_eq] at s_
  obtain⟨⟨bQ,jb⟩,iQ,hQ,xd⟩:=s_
  rw[okW] at di
  simp only[Bool.and_eq_true,Bool.or_eq_true,decide_eq_true_eq] at di
  obtain⟨⟨⟨⟨⟨_,_⟩,gR⟩,jd⟩,pF⟩,pG⟩:=di
  rw[q3] at du fX hm
  rw[q6] at aq
  obtain⟨m,rfl⟩:∃j,m=j+5:=⟨m-5,by omega⟩
  have gM:=dq.len dm
  have jS:=pz xs
  have hZ:=uD xs
  have mN:∀i (i2:i<xs.length),e0 xs[i]=true:=λi i2=>zP hQ (List.getElem_mem i2)
  have bd:∀(u:a6),sz u<=K->e0 u=true->sz u<=100->∀(m b:Nat) (h0:J) (v:I),2*sz u+6<=m->cW b h0 u v->∀(x:J) (w:aO),fv b h0 x w->w.length+(wr u).length<=1000000->∃y,Y m (.fn 132) (v::nP b) x=.ret (.aP []) y/\fv b h0 y (w++wr u)/\hl b x y:=JZ K
  rw[q6]
  obtain⟨H,cS⟩:∃H,H=x.push (.cells [.ptr R 0] 47 .own 0 0):=⟨_,rfl⟩
  have dz:Ext x.n x H:=by rw[cS];exact Ext.push (Nat.le_refl _) _
  have jf:H.n=x.n+1:=by rw[cS];rfl
  have h9:H.get x.n=some (.cells [.ptr R 0] 47 .own 0 0):=by rw[cS];exact gf rfl
  obtain⟨rh,xp⟩:=ab.z7 dz
  have Fb:=ab.n
  have fc:∀y s,fv b h0 y s->y.get R=some (.cells [.int .i64 (Int.ofNat k),.str bK,c5,bZ,cG] 51 bV bk up):=λy s a2=>(a2.ext.get R ad).trans aw
  have ri:∀y,hl b H y->y.get x.n=some (.cells [.ptr R 0] 47 .own 0 0):=λy k=>(k.own (by omega) (by omega) h9).2
  have z8:∀n y s,fv b h0 y s->fv b h0 (y.room n) s/\hl b y (y.room n):=λn y s a2=>a2.z7 (Ext.room _ y n)
  have item:∀i (ae:i<vs.length) y s,fv b h0 y s->s.length+(wn (cv xs) i).length<=1000000->∃z,Y (m+3) (.fn 132) (vs[i]::nP b) y=.ret (.aP []) z/\fv b h0 z (s++wn (cv xs) i)/\hl b y z:=λi ae y s a2 aq=>by
   have i2:i<xs.length:=by omega
   have a4:=kR (List.getElem_mem i2)
   rw[show wn (cv xs) i=wr xs[i] by simp[wn,hZ,i2,uE xs i i2]] at aq⊢
   exact bd xs[i] (by omega) (mN i i2) (by omega) (m+3) b h0 vs[i] (by omega) (dq.get dm i ae i2) y s a2 aq
  refine Uz (m+4) b (b+2) (b+3) (b+1) R k bK bZ cG x (R:=λr=>∃y,r=.ret (.aP []) y/\fv b h0 y (w++df.shape k bK aJ (xs.map a6.k) (cv xs) (j3 rt))/\hl b x y) ?_
  rw[<-cS]
  refine⟨aL h9 rfl,aL (fc H _ rh) rfl,λfC=>?_,λfC=>⟨λe6=>?_,λe6=>⟨λgj=>?_,λgj=>⟨λgW=>?_,λgW=>?_⟩⟩⟩⟩
  · subst fC
    have:(bK:aO).length<=161:=by
     have:kS bK=true:=by simpa[fO] using xd
     unfold kS at this
     simp only[Bool.and_eq_true,decide_eq_true_eq] at this
     exact this.1.2
    obtain⟨y,c,D2,k⟩:=rh.ws (m+1) bK (by omega)
    exact⟨aL h9 rfl,aL (fc H _ rh) rfl,_,_,y,c,y,rfl,D2,xp.trans k⟩
  · subst e6
    have s3:xs.length=aJ.length:=by rcases gR with gR|gR;exact absurd rfl gR;exact gR
    have hs:df.shape 7 bK aJ (xs.map a6.k) (cv xs) (j3 rt)=[123]++dZ [44,32] (gq aJ (cv xs))++[125]:=rfl
    rw[hs] at aq⊢
    rw[JY] at aq
    simp only[List.length_cons,List.length_nil] at aq
    have nL:(gq aJ (cv xs)).length=vs.length:=by unfold gq;rw[List.length_zipWith];omega
    obtain⟨al,c1,a5,bQ⟩:=rh.ws (m+1) [123] (by simp;omega)
    obtain⟨eh,uV⟩:=z8 8 al _ a5
    have ta:=bQ.trans uV
    obtain⟨ar,c2,bt,cl⟩:=DY m (v:=bZ) (vs:=vs) [44,32] 133 131 [.ptr x.n 0] [] (λi=>wn aJ i++[58,32]) (wn (cv xs)) (λ_=>[]) (gq aJ (cv xs)) (λy=>hl b H y) (λ_ _ k ff=>k.trans ff) bS (by omega) nL (λi ae=>by
      have i1:i<aJ.length:=by omega
      have i2:i<(cv xs).length:=by omega
      rw[DB ae i1 i2];simp[wn,i1,i2]) (λi y s ae a2 av=>by
      have i1:i<aJ.length:=by omega
      rcases aQ.strs with⟨_,rfl⟩|⟨UL,off,aH,rfl,af,fA⟩
      · simp at i1
      refine Ux (m+2) i x.n y (R:=λr=>r=_) ⟨R,aL (ri y av) rfl,UL,off,_,aH,aL (fc y s a2) rfl,i1,aJ[i],gg a2.ext af (fA i i1),?_,?_⟩
      · have t2:=sX [44,32] (gq aJ (cv xs)) (i:=i) (by omega)
        rw[DB (by omega) i1 (by omega)] at t2
        simp at t2⊢;omega
      · simp[wn,i1])
     (λi y s ae a2 av=>DX (m+2) i y (R:=λr=>r=_) rfl) (λi ae y s a2 av aq=>item i ae y s a2 aq) eh ta (by simp;omega)
    obtain⟨aZ,c3,dP,fr⟩:=bt.ws (m+1) [125] (by simp;omega)
    refine⟨_,_,al,c1,aL eh.uU rfl,aL (ri _ ta) rfl,aL (fc _ _ eh) rfl,aL eh.nx rfl,ar,c2,bS.snd,_,_,aZ,c3,aZ,rfl,by simpa only[List.append_assoc] using dP,xp.trans (ta.trans (cl.trans fr))⟩
  · subst gj
    have hs:df.shape 8 bK aJ (xs.map a6.k) (cv xs) (j3 rt)=[102,110,40]++dZ [44,32] (cv xs)++[41,32,45,62,32]++j3 rt:=rfl
    rw[hs] at aq⊢
    rw[List.length_append,JY] at aq
    simp only[List.length_cons,List.length_nil] at aq
    obtain⟨al,c1,a5,bQ⟩:=rh.ws (m+1) [102,110,40] (by simp;omega)
    obtain⟨eh,uV⟩:=z8 8 al _ a5
    have ta:=bQ.trans uV
    obtain⟨ar,c2,bt,cl⟩:=DY m (v:=bZ) (vs:=vs) [44,32] 131 131 [] [] (λ_=>[]) (wn (cv xs)) (λ_=>[]) (cv xs) (λy=>hl b H y) (λ_ _ k ff=>k.trans ff) bS (by omega) (by omega) (λi ae=>by simp[wn,ae]) (λi y s ae a2 av=>DX (m+2) i y (R:=λr=>r=_) rfl)
     (λi y s ae a2 av=>DX (m+2) i y (R:=λr=>r=_) rfl) (λi ae y s a2 av aq=>item i ae y s a2 aq) eh ta (by simp;omega)
    obtain⟨aZ,c3,dP,fr⟩:=bt.ws (m+1) [41,32,45,62,32] (by simp;omega)
    obtain⟨D3,UM⟩:=z8 6 aZ _ dP
    have J0:=ta.trans (cl.trans (fr.trans UM))
    cases rt with
    |none=>rcases jd with jd|jd<;>simp at jd
    |some u=>
     rw[m1] at du fX hm
     have pI:j3 (some u)=wr u:=by rw[j3]
     rw[pI] at aq⊢
     have UN:e0 u=true:=by simpa[fO,iI] using xd
     obtain⟨cb,c4,kn,o8⟩:=bd u (by omega) UN (by omega) (m+4) b h0 cG (by omega) eG (aZ.room 6) _ D3 (by simp;omega)
     exact⟨_,_,al,c1,aL eh.uU rfl,aL (ri _ ta) rfl,aL (fc _ _ eh) rfl,aL eh.nx rfl,aL eh.nx rfl,ar,c2,bS.snd,_,_,aZ,c3,aL D3.one rfl,aL (ri _ J0) rfl,aL (fc _ _ D3) rfl,cb,c4,dE.snd (ot:=some u) eG,cb,rfl,by simpa only[List.append_assoc] using kn,xp.trans (J0.trans o8)⟩
  · subst gW
    have hs:df.shape 9 bK aJ (xs.map a6.k) (cv xs) (j3 rt)=dZ [32,124,32] (g1 (xs.map a6.k) (cv xs)):=rfl
    rw[hs] at aq⊢
    have nL:(g1 (xs.map a6.k) (cv xs)).length=vs.length:=by unfold g1;rw[List.length_zipWith,List.length_map];omega
    obtain⟨eh,uV⟩:=z8 10 H _ rh
    obtain⟨al,eW⟩:∃g,g=(H.room 10).push (.cells [.str [40]] 9 .own 0 0):=⟨_,rfl⟩
    obtain⟨ar,m4⟩:∃g,g=al.push (.cells [.str [41]] 9 .own 0 0):=⟨_,rfl⟩
    have aN:al.n=(H.room 10).n+1:=by rw[eW];rfl
    have bz:ar.n=al.n+1:=by rw[m4];rfl
    have a8:Ext (H.room 10).n (H.room 10) al:=by rw[eW];exact Ext.push (Nat.le_refl _) _
    have bu:Ext al.n al ar:=by rw[m4];exact Ext.push (Nat.le_refl _) _
    obtain⟨a5,bQ⟩:=eh.z7 a8
    obtain⟨bt,cl⟩:=a5.z7 bu
    have aV:ar.get (H.room 10).n=some (.cells [.str [40]] 9 .own 0 0):=(bu.get _ (by omega)).trans (by rw[eW];exact gf rfl)
    have aY:ar.get al.n=some (.cells [.str [41]] 9 .own 0 0):=by rw[m4];exact gf rfl
    have YC:=eh.n
    have J1:=uV.trans bQ
    have D4:=J1.trans cl
    have xa:∀i (ae:i<vs.length),∃M,vs[i]=.ptr M 0/\∀y,Ext b h0 y->au y M (0+0)=some (.int .i64 (Int.ofNat ((xs.map a6.k)[i]?.getD 0))):=λi ae=>by
     have i2:i<xs.length:=by omega
     obtain⟨M,hU,pE⟩:=(dq.get dm i ae i2).kind
     exact⟨M,hU,λy e=>by rw[pE y e];simp[i2]⟩
    have m6:∀(q:Nat) (mk:aO),(∀y,hl b ar y->y.get q=some (.cells [.str mk] 9 .own 0 0))->∀i y s,i<vs.length->fv b h0 y s->hl b ar y->Y (m+3) (.fn 135) [.int .i64 (Int.ofNat i),.ptr x.n 0,.ptr q 0] y=.ret (.str (if(xs.map a6.k)[i]?.getD 0=8 then mk else[])) y:=λq mk bp i y s ae a2 av=>by
     obtain⟨M,hU,pE⟩:=xa i ae
     rcases bS with⟨_,rfl⟩|⟨dT,off,aH,rfl,af,fA,_⟩
     · simp at ae
     have ax:=fA i ae
     rw[hU] at ax
     refine Uy (m+2) i x.n q y (R:=λr=>r=_) ⟨R,aL (ri y (D4.trans av)) rfl,dT,off,_,aH,aL (fc y s a2) rfl,ae,M,gg a2.ext af ax,_,pE y a2.ext,λe=>⟨mk,aL (bp y av) rfl,by rw[if_pos e]⟩,λe=>by rw[if_neg e]⟩
    obtain⟨aZ,c3,dP,fr⟩:=DY m (v:=bZ) (vs:=vs) [32,124,32] 135 135 [.ptr x.n 0,.ptr (H.room 10).n 0] [.ptr x.n 0,.ptr al.n 0] (λi=>if(xs.map a6.k)[i]?.getD 0=8 then[40] else[]) (wn (cv xs)) (λi=>if(xs.map a6.k)[i]?.getD 0=8 then[41] else[]) (g1 (xs.map a6.k) (cv xs)) (λy=>hl b ar y) (λ_ _ k ff=>k.trans ff) bS (by omega) nL (λi ae=>by
      have i1:i<(xs.map a6.k).length:=by rw[List.length_map];omega
      have i2:i<(cv xs).length:=by omega
      rw[Jc ae i1 i2,show(xs.map a6.k)[i]?.getD 0=(xs.map a6.k)[i] by rw[List.getElem?_eq_getElem i1];rfl,show wn (cv xs) i=(cv xs)[i] by simp[wn,i2]]
      split<;>simp)
     (m6 _ [40] (λy k=>(k.own (by omega) (by omega) aV).2)) (m6 _ [41] (λy k=>(k.own (by omega) (by omega) aY).2)) (λi ae y s a2 av aq=>item i ae y s a2 aq) bt (l5.refl _ _ _ _) (by omega)
    refine⟨aL eh.uU rfl,aL (ri _ uV) rfl,aL (fc _ _ eh) rfl,_,al,JR (m+3) [40] x.n (H.room 10) (R:=λr=>r=_) (by rw[<-eW]),_,ar,JR (m+3) [41] x.n al (R:=λr=>r=_) (by rw[<-m4]),aZ,c3,aL bt.uU rfl,aL a5.uU rfl,aL (ri _ D4) rfl,aL (ri _ J1) rfl,bS.snd,aL (fc _ _ bt) rfl,aL (fc _ _ a5) rfl,aZ,rfl,dP,xp.trans (D4.trans fr)⟩
  · have hs:df.shape k bK aJ (xs.map a6.k) (cv xs) (j3 rt)=word k:=by
      unfold df.shape
      rw[if_neg fC,if_neg e6,if_neg gj,if_neg gW]
    rw[hs] at aq⊢
    obtain⟨y,c,D2,xn⟩:=rh.ws (m+1) (word k) (by omega)
    exact⟨aL h9 rfl,aL (fc H _ rh) rfl,word k,⟨by omega,UK bQ (by omega)⟩,_,_,y,c,y,rfl,D2,xp.trans xn⟩
theorem UO:JO:=λu s_ fX m B h v hm bI aC=>by
 obtain⟨m,rfl⟩:∃j,m=j+2:=⟨m-2,by omega⟩
 have hZ:=zR u s_
 obtain⟨R,rfl⟩:∃R,v=.ptr R 0:=by
  cases u with
  |mk bQ cl fr o8 yO=>obtain⟨R,_,_,_,_,_,_,_,rfl,_⟩:=aC;exact⟨R,rfl⟩
 refine UA (m+1) R h ?_
 obtain⟨eO,lA⟩:∃p,p=h.push (.cells [.bm,.bf] 166 .own 0 0):=⟨_,rfl⟩
 obtain⟨fY,lC⟩:∃p,p=eO.push (.cells [.e4] 127 .own 0 0):=⟨_,rfl⟩
 obtain⟨k8,uW⟩:∃p,p=fY.push (.cells [.e4] 172 .own 0 0):=⟨_,rfl⟩
 rw[<-lA,<-lC,<-uW]
 have aN:eO.n=h.n+1:=by rw[lA];rfl
 have bz:fY.n=h.n+2:=by rw[lC];show eO.n+1=_;omega
 have cm:k8.n=h.n+3:=by rw[uW];show fY.n+1=_;omega
 rw[aN,bz]
 obtain⟨n7,z9⟩:∃p,p=k8.set (h.n+2) (some (.cells [.fn 129 [] [.ptr h.n 0,.ptr (h.n+1) 0]] 172 .own 0 0)):=⟨_,rfl⟩
 have cy:n7.n=h.n+3:=by rw[z9];exact cm
 have st1:aB.storeCells k8 (h.n+2) 0 [.fn 129 [] [.ptr h.n 0,.ptr (h.n+1) 0]]=some n7:=by
  rw[z9];exact iE (cs:=[.e4]) (by rw[uW];exact gf bz.symm) rfl rfl
 obtain⟨D5,xq⟩:∃p,p=n7.push (.cells [.e4] 167 .own 0 0):=⟨_,rfl⟩
 obtain⟨uX,xr⟩:∃p,p=D5.set (h.n+3) (some (.cells [.fn 131 [] []] 167 .own 0 0)):=⟨_,rfl⟩
 have dr:uX.n=h.n+4:=by rw[xr];show D5.n=_;rw[xq];show n7.n+1=_;omega
 have jW:aB.storeCells D5 (h.n+3) 0 [.fn 131 [] []]=some uX:=by
  rw[xr];exact iE (cs:=[.e4]) (by rw[xq];exact gf cy.symm) rfl rfl
 have da:∀d,d≠h.n+2->d<h.n+3->uX.get d=k8.get d:=λd aa ad=>by
  rw[xr,J.b2,if_neg (by omega),xq,J.eB,if_neg (by omega),z9,J.b2,if_neg aa]
 have aY:k8.get (h.n+1)=some (.cells [.e4] 127 .own 0 0):=by
  rw[uW,J.eB,if_neg (by omega),lC];exact gf aN.symm
 have aV:k8.get h.n=some (.cells [.bm,.bf] 166 .own 0 0):=by
  rw[uW,J.eB,if_neg (by omega),lC,J.eB,if_neg (by omega),lA];exact gf rfl
 obtain⟨uY,rj⟩:∃p,p=uX.set (h.n+1) (some (.cells [.fn 132 [] (nP h.n)] 127 .own 0 0)):=⟨_,rfl⟩
 have UP:aB.storeCells uX (h.n+1) 0 [.fn 132 [] (nP h.n)]=some uY:=by
  rw[rj];exact iE (cs:=[.e4]) ((da _ (by omega) (by omega)).trans aY) rfl rfl
 have ev:uY.n=h.n+4:=by rw[rj];exact dr
 have e6:Ext h.n h uY:=⟨by omega,λd aA=>by
  rw[rj,J.b2,if_neg (by omega),da d (by omega) (by omega),uW,J.eB,if_neg (by omega),lC,J.eB,if_neg (by omega),lA,J.eB,if_neg (by omega)]⟩
 have box:fv h.n h uY []:=by
  refine⟨⟨.bm,.bf,?_,.inl rfl,.inl ⟨rfl,rfl⟩,by omega,by omega,λ_=>rfl⟩,?_,?_,?_,e6⟩
  · rw[rj,J.b2,if_neg (by omega),da _ (by omega) (by omega)];exact aV
  · rw[rj];exact iW rfl
  · rw[rj,J.b2,if_neg (by omega),xr,J.b2,if_neg (by omega),xq,J.eB,if_neg (by omega),z9];exact iW rfl
  · rw[rj,J.b2,if_neg (by omega),xr];exact iW rfl
 obtain⟨y,c1,a5,bQ⟩:=JZ (sz u) u (Nat.le_refl _) s_ fX (m+1) h.n h (.ptr R 0) (by omega) (cW.le bI _ _ aC) uY [] box (by simp;omega)
 rw[List.nil_append] at a5
 obtain⟨z,c2,bu⟩:=UH m h.n (h.n+4) y (wr u) a5.z6 (by omega)
 refine⟨n7,st1,uX,?_,uY,?_,nP h.n,?_,y,c1,wr u,z,c2,bM.mk ⟨?_,λd aA=>?_⟩⟩
 · rw[cy,<-xq];exact jW
 · rw[cy];exact UP
 · rw[rj];exact aL (iW rfl) rfl
 · have:=bQ.x.n;have:=bu.n;omega
 · rw[bu.get d (by omega),bQ.x.get d (by omega) (by omega),e6.get d (by omega)]
theorem UQ{ot:Option a6}{B:Nat}{h:J}{v:I}(m:Nat)(fX:ei ot<=90000)(aI:∀t,ot=some t->iH t<=90000)(hm:4*ei ot+20<=m)(bI:B<=h.n)(aC:dE B h ot v):
  bM B h (.int .i64 (Int.ofNat (kr ot))) (Y (m+1) (.fn 76) [v] h):=by
 cases ot with
 |none=>
  obtain rfl:v=.bm:=aC
  exact T2 m h (bM.mk (Ext.refl _ _))
 |some t=>
  have bH:ei (some t)=sz t:=m1 t
  obtain⟨R,rfl⟩:∃R,v=.ptr R 0:=by
   cases t with
   |mk bQ cl fr o8 yO=>obtain⟨R,_,_,_,_,_,_,_,rfl,_⟩:=aC;exact⟨R,rfl⟩
  obtain⟨m,rfl⟩:∃j,m=j+1:=⟨m-1,by omega⟩
  obtain⟨al,c1,a8⟩:=Re (m-1) fX bI aC (by omega)
  replace a8:=a8.le bI
  rw[show m-1+2=m+1 by omega] at c1
  rw[bH] at c1 fX hm
  refine T1 (m+1) R h ⟨_,al,c1,λnJ=>?_,λnJ=>?_⟩
  · exact bM.of (by rw[kr,if_pos (by omega)]) a8
  · obtain⟨ar,c2,bu⟩:=JP UO (sz t) t (Nat.le_refl _) (by omega) (aI t rfl) (m+1) B al (.ptr R 0) (by omega) (Nat.le_trans bI a8.n) (cW.b6 (e3.ext a8 (Nat.le_refl _)) _ _ aC)
    have J2:=a8.trans (Nat.le_refl _) bu
    refine⟨_,ar,c2,λaf=>?_,λaf=>?_⟩
    · have:e0 t=true:=by simpa using af
      exact bM.of (by rw[kr,if_neg (by omega),if_pos this]) J2
    · have:e0 t=false:=by simpa using af
      exact bM.of (by rw[kr,if_neg (by omega),if_neg (by rw[this];simp)]) J2
end Go.Proofs.cD
