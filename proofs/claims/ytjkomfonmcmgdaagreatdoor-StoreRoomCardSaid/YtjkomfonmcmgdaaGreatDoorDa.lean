/-
  PROVED HERE: contracts of functions (Da). No condition beside each statement's own.
-/
import Derived.Test.YtjkomfonmcmgdaaGreatDoorTx
import Derived.Test.YtjkomfonmcmgdaaGreatDoorAx
import Derived.Test.YtjkomfonmcmgdaaGreatDoorProg
import Derived.Test.YtjkomfonmcmgdaaGreatDoorSxa
set_option linter.unusedVariables false
set_option linter.unusedSimpArgs false
namespace Go.Proofs.dj
open Go aP Go.Proofs
set_option maxRecDepth 100000
set_option maxHeartbeats 1000000
theorem TS(call:aI->List I->J->av)(c:Nat)(m:Nat)(h:J){Q:bn->ah->Prop}(H:∃aD:Nat,au h c 0=some (.ptr aD 0)/\au h aD (0+3)=some (.map m)/\∃bj:Nat,∃ai:J,A1 h (.map m)=some (.ptr bj 0,ai)/\Q .nrm (ah.mk [(0,.ptr c 0),(1,.int .u64 (.ofNat 0)),(8,.ptr bj 0)] [] .none ai)):
  a3 Tryz.prog Tryz.f40 call [1,0,0] ⟨[(0,.ptr c 0),(1,.int .u64 (.ofNat 0))],[],.none,h⟩ Q:=
 dB [(7,.bA (.is (.map m))),(8,.bA .p)] [0,1,8] [(0,.v (.ptr c 0)),(1,.v (.int .u64 (.ofNat 0)))] rfl (Eq.mp (by kernel_rfl) H)
theorem TT(call:aI->List I->J->av)(c:Nat)(h:J){Q:bn->ah->Prop}(H:Q .nrm (ah.mk [(0,.ptr c 0),(1,.int .u64 (.ofNat 0))] [] .none h)):
  a3 Tryz.prog Tryz.f40 call [0] ⟨[(0,.ptr c 0)],[],.none,h⟩ Q:=
 dB [] [0,1] [(0,.v (.ptr c 0))] rfl (Eq.mp (by kernel_rfl) H)
theorem vU(call:aI->List I->J->av)(c:Nat)(b:Nat)(it:Nat)(x:Bool)(h:J){Q:bn->ah->Prop}(H:(x=true->∃aD:Nat,∃bj:Nat,sW h (.ptr it 0)=some (.aQ [.int .u64 (.ofNat aD),.ptr bj 0])/\∃bD:Nat,au (h.room 32) bj (0+7)=some (.int .i64 (.ofNat bD))/\(bD=0->∃bT:Nat,au (h.room 32) bj (0+8)=some (.int .i64 (.ofNat bT))/\(bT=0->(b=0->Q .nrm (ah.mk [(0,.ptr c 0),(1,.int .u64 (.ofNat aD)),(8,.ptr it 0)] [] .none (h.room 32)))/\(¬b=0->∃b5:Nat,au (h.room 32) bj (0+9)=some (.int .u64 (.ofNat b5))/\∃cx:Nat,au (h.room 32) c 0=some (.ptr cx 0)/\∃v1:I,au (h.room 32) cx (0+3)=some v1/\∃da:Nat,hy Tryz.prog (h.room 32) 55 v1 (.int .u64 (.ofNat b)) false=some (.ptr da 0)/\∃et:Nat,au (h.room 32) da (0+9)=some (.int .u64 (.ofNat et))/\I.sound v1=true/\(b5<et->Q .nrm (ah.mk [(0,.ptr c 0),(1,.int .u64 (.ofNat aD)),(8,.ptr it 0)] [] .none (h.room 32)))/\(¬b5<et->Q .nrm (ah.mk [(0,.ptr c 0),(1,.int .u64 (.ofNat b)),(8,.ptr it 0)] [] .none (h.room 32)))))/\(¬bT=0->Q .nrm (ah.mk [(0,.ptr c 0),(1,.int .u64 (.ofNat b)),(8,.ptr it 0)] [] .none (h.room 32))))/\(¬bD=0->Q .nrm (ah.mk [(0,.ptr c 0),(1,.int .u64 (.ofNat b)),(8,.ptr it 0)] [] .none (h.room 32))))/\(x=false->Q (.exit 0) (ah.mk [(0,.ptr c 0),(1,.int .u64 (.ofNat b)),(8,.ptr it 0)] [] .none h))):
  a3 Tryz.prog Tryz.f40 call [1,0,1,0,0,1] ⟨[(0,.ptr c 0),(1,.int .u64 (.ofNat b)),(8,.ptr it 0),(10,.bool x)],[],.none,h⟩ Q:=
 dB [(11,.bA (.fL [.n .u64,.p]))] [0,1,8] [(0,.v (.ptr c 0)),(1,.v (.int .u64 (.ofNat b))),(8,.v (.ptr it 0)),(10,.v (.bool x))] rfl (Eq.mp (by kernel_rfl) H)
theorem TU(call:aI->List I->J->av)(b:Nat)(h:J){Q:bn->ah->Prop}(H:Q .ret (ah.mk [(1,.int .u64 (.ofNat b))] [] .none h)):
  a3 Tryz.prog Tryz.f40 call [1,1] ⟨[(1,.int .u64 (.ofNat b))],[],.none,h⟩ Q:=
 dB [] [1] [(1,.v (.int .u64 (.ofNat b)))] rfl (Eq.mp (by kernel_rfl) H)
theorem a3.run{P:Program}{fn:Func}{call:aI->List I->J->av}{p:List Nat}{st s:ah}{e:bn}(h:a3 P fn call p st λcF bc=>cF=e/\bc=s):aL P fn none call p st e s:=by
 obtain⟨cF,bc,r,rfl,rfl⟩:=h;exact r
structure dX where
 id:Nat
 b:Nat
 pins:Nat
 held:Nat
 used:Nat
 born:Nat
def dX.loose(d:dX):Bool:=Nat.beq d.pins 0&&Nat.beq d.held 0
def sd(h:J)(e:dN):Option dX:=match e.key,e.val with
 |.int .u64 (.ofNat id),.ptr b 0=>match au h b 7,au h b 8,au h b 9 with
  |some (.int .i64 (.ofNat p)),some (.int .i64 (.ofNat q)),some (.int .u64 (.ofNat u))=>some ⟨id,b,p,q,u,e.born⟩
  |_,_,_=>none
 |_,_=>none
theorem uf{h:J}{e:dN}{d:dX}(ao:sd h e=some d):e.key=.int .u64 (Int.ofNat d.id)/\e.val=.ptr d.b 0/\au h d.b 7=some (.int .i64 (Int.ofNat d.pins))/\au h d.b 8=some (.int .i64 (Int.ofNat d.held))/\au h d.b 9=some (.int .u64 (Int.ofNat d.used))/\e.born=d.born:=by
 unfold sd at ao
 split at ao
 · rename_i id b ab ad
   split at ao
   · rename_i p q u ar aG bJ
     cases ao
     exact⟨ab,ad,ar,aG,bJ,rfl⟩
   · cases ao
 · cases ao
def ug(h:J):List dN->Option (List dX)
 |[]=>some []
 |e::es=>match sd h e with
  |some d=>match ug h es with
   |some l=>some (d::l)
   |none=>none
  |none=>none
inductive pQ(h:J):List dN->List dX->Prop where
 |nil:pQ h [] []
 |cons {e es d l}:sd h e=some d->pQ h es l->pQ h (e::es) (d::l)
theorem K4{h:J}:∀{es:List dN} {l:List dX},ug h es=some l->pQ h es l
 |[],l,aw=>by cases aw;exact .nil
 |e::es,l,aw=>by
  unfold ug at aw
  split at aw
  · rename_i d ao
    split at aw
    · rename_i oj qp
      cases aw
      exact .cons ao (K4 qp)
    · cases aw
  · cases aw
theorem pQ.eu{h:J}{es:List dN}{l:List dX}(aw:pQ h es l):∀e∈es,∃d∈l,sd h e=some d:=by
 induction aw with
 |nil=>intro e he;cases he
 |cons ab ad a7=>
  intro e he
  rcases List.mem_cons.1 he with rfl|he
  · exact⟨_,by simp,ab⟩
  · obtain⟨d,ar,aG⟩:=a7 e he;exact⟨d,by simp[ar],aG⟩
theorem pQ.K5{h:J}{es:List dN}{l:List dX}(aw:pQ h es l):∀d∈l,∃e∈es,sd h e=some d:=by
 induction aw with
 |nil=>intro e he;cases he
 |cons ab ad a7=>
  intro e he
  rcases List.mem_cons.1 he with rfl|he
  · exact⟨_,by simp,ab⟩
  · obtain⟨d,ar,aG⟩:=a7 e he;exact⟨d,by simp[ar],aG⟩
def md:List Nat->Bool
 |[]=>true
 |a::l=>match l.any λx=>Nat.beq a x with
  |true=>false
  |false=>md l
theorem yH{α:Type}(f:α->Nat):∀(l:List α),md (l.map f)=true->∀a∈l,∀b∈l,f a=f b->a=b
 |[],_,a,aT,_,_,_=>by cases aT
 |x::l,h,a,aT,b,ae,e=>by
  simp only[List.map_cons,md] at h
  split at h
  · cases h
  · rename_i ab
    have aa:∀y∈l,f x≠f y:=λy aS e=>by
     have:((l.map f).any λz=>Nat.beq (f x) z)=true:=List.any_eq_true.2 ⟨f y,List.mem_map.2 ⟨y,aS,rfl⟩,by rw[e];exact Nat.beq_refl _⟩
     rw[this] at ab;cases ab
    rcases List.mem_cons.1 aT with hk|Bv<;>rcases List.mem_cons.1 ae with nR|j_
    · rw[hk,nR]
    · rw[hk] at e;exact absurd e (aa b j_)
    · rw[nR] at e;exact absurd e.symm (aa a Bv)
    · exact yH f l h a Bv b j_ e
def uh(l:List dX)(clock:Nat):Bool:=md (l.map dX.born)&&(md (l.map dX.id)&&(md ((l.filter dX.loose).map dX.used)&&(l.all λd=>Nat.blt d.born clock&&Nat.blt 0 d.id)))
def nS:List dX->Option dX
 |[]=>none
 |d::l=>match d.loose with
  |true=>match nS l with
   |none=>some d
   |some x=>match Nat.blt x.used d.used with
    |true=>some x
    |false=>some d
  |false=>nS l
def Ff:Option dX->Nat
 |some d=>d.id
 |none=>0
theorem Bz:∀{l:List dX},nS l=none->∀d∈l,d.loose=false
 |[],_,d,ao=>by cases ao
 |x::l,h,d,ao=>by
  unfold nS at h
  split at h
  · split at h
    · cases h
    · split at h<;>cases h
  · rename_i aa
    rcases List.mem_cons.1 ao with rfl|ao
    · exact aa
    · exact Bz h d ao
theorem yI:∀{l:List dX} {m:dX},nS l=some m->m∈l/\m.loose=true/\∀d∈l,d.loose=true->m.used<=d.used
 |[],m,h=>by cases h
 |x::l,m,h=>by
  unfold nS at h
  split at h
  · rename_i aa
    split at h
    · rename_i aN
      cases h
      refine⟨by simp,aa,λd ao aw=>?_⟩
      rcases List.mem_cons.1 ao with rfl|ao
      · exact Nat.le_refl _
      · have:=Bz aN d ao;rw[aw] at this;cases this
    · rename_i y aS
      obtain⟨ab,ad,ar⟩:=yI aS
      split at h
      · rename_i cd
        cases h
        rw[Nat.blt_eq] at cd
        refine⟨by simp[ab],ad,λd ao aw=>?_⟩
        rcases List.mem_cons.1 ao with rfl|ao
        · omega
        · exact ar d ao aw
      · rename_i cd
        cases h
        have cd:¬y.used<x.used:=λe=>by rw[<-Nat.blt_eq] at e;rw[e] at cd;cases cd
        refine⟨by simp,aa,λd ao aw=>?_⟩
        rcases List.mem_cons.1 ao with rfl|ao
        · exact Nat.le_refl _
        · have:=ar d ao aw;omega
  · rename_i aa
    obtain⟨ab,ad,ar⟩:=yI h
    refine⟨by simp[ab],ad,λd ao aw=>?_⟩
    rcases List.mem_cons.1 ao with rfl|ao
    · rw[aw] at aa;cases aa
    · exact ar d ao aw
def lC(l:List dX)(S:List Nat)(b:Nat):Prop:=
 (b=0/\∀d∈l,d.born∈S->d.loose=false)\/∃m∈l,m.born∈S/\m.loose=true/\b=m.id/\∀d∈l,d.born∈S->d.loose=true->m.used<=d.used
theorem lC.fin{l:List dX}{clock:Nat}(aq:uh l clock=true){S:List Nat}{b:Nat}(ae:lC l S b)(il:∀d∈l,d.born∈S):b=Ff (nS l):=by
 simp only[uh,Bool.and_eq_true] at aq
 obtain⟨_,_,hu,_⟩:=aq
 cases hm:nS l with
 |none=>
  have:=Bz hm
  rcases ae with⟨rfl,_⟩|⟨m,ab,_,ad,_⟩
  · rfl
  · rw[this m ab] at ad;cases ad
 |some x=>
  obtain⟨ab,ad,ar⟩:=yI hm
  rcases ae with⟨rfl,aG⟩|⟨m,aZ,_,bQ,rfl,lb⟩
  · rw[aG x ab (il x ab)] at ad;cases ad
  · have aA:=ar m aZ bQ
    have ay:=lb x ab (il x ab) ad
    have:=yH dX.used (l.filter dX.loose) hu m (List.mem_filter.2 ⟨aZ,bQ⟩) x (List.mem_filter.2 ⟨ab,ad⟩) (by omega)
    rw[this];rfl
def se(l:List dX)(S:List Nat):Nat:=(l.filter λd=>!S.contains d.born).length
theorem TV{l:List dX}(ao:md (l.map dX.born)=true){S:List Nat}{d:dX}(hm:d∈l)(hs:d.born∉S):se l (S++[d.born])+1=se l S:=by
 unfold se
 have Ak:∀a∈l,∀b∈l,a.born=b.born->a=b:=yH dX.born l ao
 have key:∀(l:List dX),md (l.map dX.born)=true->d∈l->(l.filter λx=>!(S++[d.born]).contains x.born).length+1=(l.filter λx=>!S.contains x.born).length:=by
  intro l
  induction l with
  |nil=>intro _ h;cases h
  |cons x l a7=>
   intro ao hm
   have K3:=ao
   simp only[List.map_cons,md] at ao
   split at ao
   · cases ao
   · rename_i ab
     by_cases aa:x.born=d.born
     · have nt:∀y∈l,¬y.born=d.born:=λy aS e=>by
         have:((l.map dX.born).any λz=>Nat.beq x.born z)=true:=List.any_eq_true.2 ⟨y.born,List.mem_map.2 ⟨y,aS,rfl⟩,by rw[aa,e];exact Nat.beq_refl _⟩
         rw[this] at ab;cases ab
       have aA:(l.filter λx=>!(S++[d.born]).contains x.born)=l.filter λx=>!S.contains x.born:=by
        apply List.filter_congr
        intro y aS
        have:=nt y aS
        simp[this]
       have ay:(!(S++[d.born]).contains x.born)=false:=by simp[aa]
       have bw:(!S.contains x.born)=true:=by rw[aa];simpa using hs
       rw[List.filter_cons,ay,List.filter_cons,bw]
       simp only[Bool.false_eq_true,if_false,if_true,List.length_cons]
       rw[aA]
     · have qo:d∈l:=by
         rcases List.mem_cons.1 hm with rfl|h
         · exact absurd rfl aa
         · exact h
       have D8:=a7 ao qo
       have ay:(!(S++[d.born]).contains x.born)=(!S.contains x.born):=by simp[aa]
       rw[List.filter_cons,List.filter_cons,ay]
       cases ag:(!S.contains x.born) with
       |true=>simp only[if_true,List.length_cons];omega
       |false=>simp only[Bool.false_eq_true,if_false];exact D8
 exact key l ao hm
theorem TW{h0:J}{h:J}{kt:TypeId}{x:dX}:∀{es:List dN} {l:List dX},pQ h es l->(∀a∈l,∀b∈l,a.id=b.id->a=b)->x∈l->∀i,∃j,jF Tryz.prog h0 kt (.int .u64 (Int.ofNat x.id)) es i=some (some (j,.ptr x.b 0)):=by
 intro es l aw
 induction aw with
 |nil=>intro _ aa;cases aa
 |@cons e es d l ab ad a7=>
  intro iJ aa i
  obtain⟨bH,bY,_⟩:=uf ab
  simp only[jF,o8,bH,o7,if_true]
  by_cases Fg:x.id=d.id
  · have:x=d:=iJ x aa d (by simp) Fg
    subst this
    have:a_ (Int.ofNat x.id) (Int.ofNat x.id)=true:=mU rfl
    rw[this]
    exact⟨i,by rw[bY]⟩
  · have:a_ (Int.ofNat x.id) (Int.ofNat d.id)=false:=jw Fg
    rw[this]
    have j2:x∈l:=by
     rcases List.mem_cons.1 aa with rfl|h
     · exact absurd rfl Fg
     · exact h
    exact a7 (λa aT b ae=>iJ a (by simp[aT]) b (by simp[ae])) j2 (i+1)
theorem K6{b:Nat}:∀{es:List dN} {e:dN},e∈es->(∀x∈es,x.born=e.born->x=e)->e.born=b->sV b es=some e
 |[],e,he,_,_=>by cases he
 |x::es,e,he,hu,ae=>by
  unfold sV
  by_cases aa:x.born=b
  · have:Nat.beq x.born b=true:=by rw[aa];exact Nat.beq_refl _
    rw[this]
    rw[hu x (by simp) (aa.trans ae.symm)]
  · have:Nat.beq x.born b=false:=by
      cases ag:Nat.beq x.born b with
      |false=>rfl
      |true=>exact absurd (Nat.eq_of_beq_eq_true ag) aa
    rw[this]
    rcases List.mem_cons.1 he with rfl|he
    · exact absurd ae aa
    · exact K6 he (λx aa=>hu x (by simp[aa])) ae
theorem TX(l:List Nat)(b:Nat):xa (l++[b])=some b:=by rw[Dk];simp
def vV(f:Nat)(args:List I)(h:J):Option (I×J):=match Nat.beq f 40,args with
 |true,[.ptr c 0]=>match au h c 0 with
  |some (.ptr st 0)=>match au h st 3 with
   |some (.map m)=>match h.get m with
    |some (.map es clock)=>match ug h es with
     |some l=>match uh l clock&&(Nat.blt c h.n&&(Nat.blt st h.n&&(Nat.blt m h.n&&(l.all λd=>Nat.blt d.b h.n)))) with
      |true=>some (.int .u64 (Int.ofNat (Ff (nS l))),h.room (1+32*l.length))
      |false=>none
     |none=>none
    |_=>none
   |_=>none
  |_=>none
 |_,_=>none
theorem yJ{S:List Nat}{x y:Nat}(h:x∈S++[y]):x∈S\/x=y:=by simpa using h
theorem lC.no{l:List dX}{S:List Nat}{b:Nat}{d:dX}(ae:lC l S b)(ao:d.loose=false)(hu:∀a∈l,a.born=d.born->a=d):lC l (S++[d.born]) b:=by
 rcases ae with⟨rfl,ab⟩|⟨m,ab,ad,ar,rfl,aG⟩
 · refine .inl ⟨rfl,λa aT hs=>?_⟩
   rcases yJ hs with h|h
   · exact ab a aT h
   · rw[hu a aT h];exact ao
 · refine .inr ⟨m,ab,by simp[ad],ar,rfl,λa aT hs aw=>?_⟩
   rcases yJ hs with h|h
   · exact aG a aT h aw
   · rw[hu a aT h,ao] at aw;cases aw
theorem lC.first{l:List dX}{S:List Nat}{d:dX}(ae:lC l S 0)(iJ:∀a∈l,0<a.id)(hm:d∈l)(ao:d.loose=true)(hu:∀a∈l,a.born=d.born->a=d):lC l (S++[d.born]) d.id:=by
 rcases ae with⟨_,ab⟩|⟨m,ab,ad,ar,h0,aG⟩
 · refine .inr ⟨d,hm,by simp,ao,rfl,λa aT hs aw=>?_⟩
   rcases yJ hs with h|h
   · rw[ab a aT h] at aw;cases aw
   · rw[hu a aT h];exact Nat.le_refl _
 · have:=iJ m ab;omega
theorem lC.cmp{l:List dX}{S:List Nat}{b:Nat}(ae:lC l S b)(h0:¬b=0):∃m∈l,b=m.id/\∀d∈l,d.loose=true->(∀a∈l,a.born=d.born->a=d)->(d.used<m.used->lC l (S++[d.born]) d.id)/\(¬d.used<m.used->lC l (S++[d.born]) b):=by
 rcases ae with⟨h,_⟩|⟨m,ab,ad,ar,rfl,aG⟩
 · exact absurd h h0
 · refine⟨m,ab,rfl,λd hm ao hu=>⟨λcd=>?_,λcd=>?_⟩⟩
   · refine .inr ⟨d,hm,by simp,ao,rfl,λa aT hs aw=>?_⟩
     rcases yJ hs with h|h
     · have:=aG a aT h aw;omega
     · rw[hu a aT h];exact Nat.le_refl _
   · refine .inr ⟨m,ab,by simp[ad],ar,rfl,λa aT hs aw=>?_⟩
     rcases yJ hs with h|h
     · exact aG a aT h aw
     · rw[hu a aT h];omega
abbrev sf(c b it:Nat):Env:=[(0,.ptr c 0),(1,.int .u64 (Int.ofNat b)),(8,.ptr it 0)]
structure yK(h:J)(m clock:Nat)(S:List Nat)(g:J):Prop where
 n:g.n=h.n+(1+32*S.length)
 low:∀b,b<h.n->g.get b=h.get b
 it:g.get h.n=some (.mapIter (some m) clock S clock)
theorem TY{h g:J}{b off:Nat}(e:g.get b=h.get b):au g b off=au h b off:=by unfold au;rw[e]
structure K7(h:J)(c st m clock:Nat)(es:List dN)(l:List dX):Prop where
 ag:au h c 0=some (.ptr st 0)
 ct:au h st 3=some (.map m)
 hm:h.get m=some (.map es clock)
 ha:pQ h es l
 ok:uh l clock=true
 TZ:c<h.n
 T0:st<h.n
 lX:m<h.n
 K8:∀d∈l,d.b<h.n
def BA(h:J)(c m clock:Nat)(l:List dX)(n:Nat)(s:ah):Prop:=∃S b g,s=⟨sf c b h.n,[],.none,g⟩/\yK h m clock S g/\lC l S b/\se l S=n/\S.length+n=l.length
def vW(h:J)(m clock:Nat)(l:List dX)(e:bn)(s:ah):Prop:=e=.exit 0/\∃b g S,s=⟨[(1,.int .u64 (Int.ofNat b))],[],.none,g⟩/\yK h m clock S g/\lC l S b/\S.length=l.length/\∀d∈l,d.born∈S
theorem T1{kK:aI->List I->J->av}(me:jq Tryz.prog kK)(hdr:∀need bP,mL Tryz.prog need bP kK){h:J}{c st m clock:Nat}{es:List dN}{l:List dX}(w:K7 h c st m clock es l)(n:Nat)(s:ah)(hs:BA h c m clock l n s):
  gb Tryz.prog Tryz.f40 none [1,0,1,0,0] s (Fe (BA h c m clock l) n (vW h m clock l)):=by
 obtain⟨S,b,g,rfl,al,ae,Fh,adx⟩:=hs
 have K9:=w.ok
 simp only[uh,Bool.and_eq_true] at K9
 obtain⟨yL,T2,ady,en⟩:=K9
 have K_:∀d∈l,d.born<clock/\0<d.id:=λd ao=>by
  have:=List.all_eq_true.1 en d ao
  simpa using this
 have T3:=yH dX.id l T2
 have La:=yH dX.born l yL
 have T4:∀x∈es,∀e∈es,x.born=e.born->x=e:=by
  intro x aa e he ae
  obtain⟨T5,T6,T7⟩:=w.ha.eu x aa
  obtain⟨Fi,T8,T9⟩:=w.ha.eu e he
  obtain⟨cr,cZ,_,_,_,dp⟩:=uf T7
  obtain⟨bo,bG,_,_,_,ed⟩:=uf T9
  have:=La T5 T6 Fi T8 (by omega)
  subst this
  obtain⟨bH,v1,cN⟩:=x
  obtain⟨bY,v2,cK⟩:=e
  simp only at cr cZ dp bo bG ed
  rw[cr,cZ,dp,bo,bG,ed]
 have Lb:¬m=h.n:=by have:=w.lX;omega
 have xJ:g.get m=some (.map es clock):=(al.low m w.lX).trans w.hm
 refine gb.seq (p:=[1,0,1,0,0]) (R1:=λe s=>e=.nrm/\((s=⟨put 10 (.bool false) (sf c b h.n),[],.none,g⟩/\∀e∈es,e.born∈S)\/∃e∈es,e.born∉S/\s=⟨put 10 (.bool true) (sf c b h.n),[],.none,g.set h.n (some (.mapIter (some m) clock (S++[e.born]) clock))⟩)) (by kernel_rfl)
  (gb.next me (p:=[1,0,1,0,0,0]) (it:=8) (a:=9) (t:=10) (by kernel_rfl) (by kernel_rfl) (by kernel_rfl) (by kernel_rfl) (by kernel_rfl) rfl al.it xJ (λe he=>by
   obtain⟨d,d1,d2⟩:=w.ha.eu e he
   obtain⟨_,_,_,_,_,dp⟩:=uf d2
   have:=(K_ d d1).1;omega) (Nat.le_refl _) (λen=>⟨rfl,.inl ⟨rfl,en⟩⟩) λe he iH=>⟨rfl,.inr ⟨e,he,iH,rfl⟩⟩) (λbc ab=>?_) λe bc he ab=>absurd ab.1 he
 obtain⟨_,⟨rfl,il⟩|⟨e,he,iH,rfl⟩⟩:=ab
 · have Lc:∀d∈l,d.born∈S:=λd ao=>by
     obtain⟨e,he,AE⟩:=w.ha.K5 d ao
     obtain⟨_,_,_,_,_,dp⟩:=uf AE
     rw[<-dp];exact il e he
   have h0:se l S=0:=by
    unfold se
    rw[List.length_eq_zero_iff,List.filter_eq_nil_iff]
    intro d ao
    simpa using Lc d ao
   have rx:aL Tryz.prog Tryz.f40 none kK [1,0,1,0,0,1] ⟨[(0,.ptr c 0),(1,.int .u64 (Int.ofNat b)),(8,.ptr h.n 0),(10,.bool false)],[],.none,g⟩ (.exit 0) ⟨sf c b h.n,[],.none,g⟩:=a3.run (vU kK c b h.n false g ⟨λh=>(by cases h),λ_=>⟨rfl,rfl⟩⟩)
   have T_:aL Tryz.prog Tryz.f40 none kK [1,0,1,0,0,1] ⟨[(0,.ptr c 0),(1,.int .u64 (Int.ofNat b)),(8,.ptr h.n 0),(10,.bool false)],[],.none,g⟩ (.exit 0) ⟨[(1,.int .u64 (Int.ofNat b))],[],.none,g⟩:=c5.post rx ⟨rfl,trivial⟩
   exact gb.pre (gb.of_run me hdr (by kernel_rfl) T_ (.inr ⟨by simp,rfl,b,g,S,rfl,al,ae,by omega,Lc⟩)) ⟨rfl,rfl,rfl,rfl,trivial⟩ rfl rfl rfl
 · obtain⟨d,d1,d2⟩:=w.ha.eu e he
   obtain⟨cr,cZ,dp,eS,eG,qR⟩:=uf d2
   have vX:=w.K8 d d1
   obtain⟨ai,dZ⟩:∃ai,ai=g.set h.n (some (.mapIter (some m) clock (S++[e.born]) clock)):=⟨_,rfl⟩
   rw[<-dZ]
   have Fj:∀b,b<h.n->ai.get b=h.get b:=λb ae=>by rw[dZ,J.cV,if_neg (by omega)];exact al.low b ae
   have Ld:ai.get h.n=some (.mapIter (some m) clock (S++[e.born]) clock):=by rw[dZ];exact gR rfl
   have AM:ai.get m=some (.map es clock):=(Fj m w.lX).trans w.hm
   have eu:sW ai (.ptr h.n 0)=some (.aQ [.int .u64 (Int.ofNat d.id),.ptr d.b 0]):=by
    have Dl:=K6 he (λx aa ae=>T4 x aa e he ae) rfl
    unfold sW
    simp only[Ld,AM,TX,Dl,cr,cZ]
    rw[Nat.beq_refl]
   have aD:ai.n=g.n:=by rw[dZ];rfl
   have eH:d.born∉S:=by rw[<-qR];exact iH
   have iw:=TV yL d1 eH
   have sg:yK h m clock (S++[d.born]) (ai.room 32):=⟨by rw[J.JW,aD,al.n,List.length_append];simp;omega,Fj,by rw[J.SM,Ld,qR]⟩
   have BB:∀a∈l,a.born=d.born->a=d:=λa aT e=>La a aT d d1 e
   have vY:∀(b off:Nat) (v:I),b<h.n->au h b off=some v->au (ai.room 32) b off=some v:=λb off v ae aC=>(TY (Fj b ae)).trans aC
   have yM:=vY d.b 7 _ vX dp
   have BC:=vY d.b 8 _ vX eS
   have Le:=vY d.b 9 _ vX eG
   have Lf:=vY c 0 _ w.TZ w.ag
   have Lg:=vY st 3 _ w.T0 w.ct
   have fin:∀hS,lC l (S++[d.born]) hS->aL Tryz.prog Tryz.f40 none kK [1,0,1,0,0,1] ⟨[(0,.ptr c 0),(1,.int .u64 (Int.ofNat b)),(8,.ptr h.n 0),(10,.bool true)],[],.none,ai⟩ .nrm ⟨sf c hS h.n,[],.none,ai.room 32⟩->
     gb Tryz.prog Tryz.f40 none [1,0,1,0,0,1] ⟨put 10 (.bool true) (sf c b h.n),[],.none,ai⟩ (Fe (BA h c m clock l) n (vW h m clock l)):=λhS j_ aj=>
    gb.pre (gb.of_run me hdr (by kernel_rfl) aj (.inl ⟨rfl,se l (S++[d.born]),by omega,S++[d.born],hS,ai.room 32,rfl,sg,j_,rfl,by rw[List.length_append];simp;omega⟩)) ⟨rfl,rfl,rfl,rfl,trivial⟩ rfl rfl rfl
   by_cases aK:d.pins=0
   · have Fk:a_ (Int.ofNat d.pins) (Int.ofNat 0)=true:=mU aK
     by_cases aM:d.held=0
     · have Fl:a_ (Int.ofNat d.held) (Int.ofNat 0)=true:=mU aM
       have nT:d.loose=true:=by unfold dX.loose;rw[aK,aM];rfl
       by_cases h0:b=0
       · have cE:a_ (Int.ofNat b) (Int.ofNat 0)=true:=mU h0
         exact fin d.id ((h0▸ae).first (λa aT=>(K_ a aT).2) d1 nT BB) (a3.run (vU kK c b h.n true ai ⟨λ_=>⟨d.id,d.b,eu,d.pins,yM,λ_=>⟨d.held,BC,λ_=>⟨λ_=>⟨rfl,rfl⟩,λh=>absurd h0 h⟩,λh=>absurd aM h⟩,λh=>absurd aK h⟩,λh=>(by cases h)⟩))
       · have cE:a_ (Int.ofNat b) (Int.ofNat 0)=false:=jw h0
         obtain⟨x,bC,c0,dU⟩:=ae.cmp h0
         obtain⟨g_,pN⟩:=dU d d1 nT BB
         obtain⟨ex,ui,Ua⟩:=w.ha.K5 x bC
         obtain⟨_,_,_,_,yN,_⟩:=uf Ua
         have Lh:=vY x.b 9 _ (w.K8 x bC) yN
         have look:hy Tryz.prog (ai.room 32) 55 (.map m) (.int .u64 (Int.ofNat b)) false=some (.ptr x.b 0):=by
          obtain⟨j,aJ⟩:=TW (h0:=ai.room 32) (kt:=32) w.ha T3 bC 0
          have hu:Tryz.prog.underlying 55=some (.map 32 59):=by kernel_rfl
          have aq:lO Tryz.prog 32 (.int .u64 (Int.ofNat b))=true:=by
           have pq:Tryz.prog.underlying 32=some (.int .u64):=by kernel_rfl
           simp only[lO,n8,pq]
          have Ub:(ai.room 32).get m=some (.map es clock):=AM
          rw[c0] at aq⊢
          simp only[hy,hu,aq,Ub,aJ,o9,Bool.false_eq_true,if_false]
         by_cases cd:d.used<x.used
         · have Uc:=dT cd
           exact fin d.id (g_ cd) (a3.run (vU kK c b h.n true ai ⟨λ_=>⟨d.id,d.b,eu,d.pins,yM,λ_=>⟨d.held,BC,λ_=>⟨λh=>absurd h h0,λ_=>⟨d.used,Le,st,Lf,_,Lg,x.b,look,x.used,Lh,rfl,λ_=>⟨rfl,rfl⟩,λh=>absurd cd h⟩⟩,λh=>absurd aM h⟩,λh=>absurd aK h⟩,λh=>(by cases h)⟩))
         · have Uc:=eZ cd
           exact fin b (pN cd) (a3.run (vU kK c b h.n true ai ⟨λ_=>⟨d.id,d.b,eu,d.pins,yM,λ_=>⟨d.held,BC,λ_=>⟨λh=>absurd h h0,λ_=>⟨d.used,Le,st,Lf,_,Lg,x.b,look,x.used,Lh,rfl,λh=>absurd h cd,λ_=>⟨rfl,rfl⟩⟩⟩,λh=>absurd aM h⟩,λh=>absurd aK h⟩,λh=>(by cases h)⟩))
     · have Fl:a_ (Int.ofNat d.held) (Int.ofNat 0)=false:=jw aM
       have nT:d.loose=false:=by
        unfold dX.loose
        cases ag:Nat.beq d.held 0 with
        |false=>simp
        |true=>exact absurd (Nat.eq_of_beq_eq_true ag) aM
       exact fin b (ae.no nT BB) (a3.run (vU kK c b h.n true ai ⟨λ_=>⟨d.id,d.b,eu,d.pins,yM,λ_=>⟨d.held,BC,λh=>absurd h aM,λ_=>⟨rfl,rfl⟩⟩,λh=>absurd aK h⟩,λh=>(by cases h)⟩))
   · have Fk:a_ (Int.ofNat d.pins) (Int.ofNat 0)=false:=jw aK
     have nT:d.loose=false:=by
      unfold dX.loose
      cases ag:Nat.beq d.pins 0 with
      |false=>simp
      |true=>exact absurd (Nat.eq_of_beq_eq_true ag) aK
     exact fin b (ae.no nT BB) (a3.run (vU kK c b h.n true ai ⟨λ_=>⟨d.id,d.b,eu,d.pins,yM,λh=>absurd h aK,λ_=>⟨rfl,rfl⟩⟩,λh=>(by cases h)⟩))
theorem Li(hf:Fit Tryz.prog):nG Tryz.prog vV:=by
 intro f args h v aW aa μ wd vs ak al aC
 unfold vV at aa
 split at aa
 · rename_i c BD
   obtain rfl:=Nat.eq_of_beq_eq_true BD
   split at aa
   · rename_i st ag
     split at aa
     · rename_i m ct
       split at aa
       · rename_i es clock hm
         split at aa
         · rename_i l aw
           split at aa
           · rename_i Lj
             cases aa
             simp only[Bool.and_eq_true,Nat.blt_eq] at Lj
             obtain⟨de,qq,Ud,Lb,xz⟩:=Lj
             have w:K7 h c st m clock es l:=⟨ag,ct,hm,K4 aw,de,qq,Ud,Lb,λd ao=>by
              have:=List.all_eq_true.1 xz d ao
              simpa using this⟩
             have me:jq Tryz.prog (fa Tryz.prog (λ_ _ _=>none) 0):=D_ hf (R2 _) 0
             have hdr:∀need bP,mL Tryz.prog need bP (fa Tryz.prog (λ_ _ _=>none) 0):=λneed bP=>JJ hf.mixed me need bP
             obtain⟨kK,Ue⟩:∃kK,kK=fa Tryz.prog (λ_ _ _=>none) 0:=⟨_,rfl⟩
             rw[<-Ue] at me hdr
             have Uf:∀g,yK h m clock [] g->gb Tryz.prog Tryz.f40 none [1,0,1] ⟨sf c 0 h.n,[],.none,g⟩ (λe s=>e=.nrm/\vW h m clock l (.exit 0) s):=λg al=>
              gb.block (p:=[1,0,1]) (id:=0) (R1:=vW h m clock l) (by kernel_rfl)
               (gb.loop (p:=[1,0,1,0]) (BA h c m clock l) (by kernel_rfl) (λn s hs=>T1 me hdr w n s hs) l.length ⟨[],0,g,rfl,al,.inl ⟨rfl,λd _ hs=>(by cases hs)⟩,by unfold se;simp,by simp⟩)
               λe s hs=>by obtain⟨rfl,hs⟩:=hs;exact⟨rfl,rfl,hs⟩
             have yO:yK h m clock [] (h.push (.mapIter (some m) clock [] clock)):=⟨rfl,λb ae=>l7 ae rfl,fo rfl⟩
             have Ug:=a3.run (TS kK c m h ⟨st,ag,ct,h.n,(h.push (.mapIter (some m) clock [] clock)),by simp only[A1,hm],rfl,rfl⟩)
             have ve:gb Tryz.prog Tryz.f40 none [] ⟨nJ 0 [.ptr c 0],[],.none,h⟩ (λe s=>e=.ret/\vW h m clock l (.exit 0) s):=
              gb.seq (p:=[]) (R1:=λe s=>e=.nrm/\s=⟨[(0,.ptr c 0),(1,.int .u64 (Int.ofNat 0))],[],.none,h⟩) (by kernel_rfl) (gb.of_run me hdr (by kernel_rfl) (a3.run (TT kK c h ⟨rfl,rfl⟩)) ⟨rfl,rfl⟩)
               (λs hs=>by
                obtain⟨_,rfl⟩:=hs
                refine gb.seq (p:=[1]) (R1:=λe s=>e=.nrm/\vW h m clock l (.exit 0) s) (by kernel_rfl)
                 (gb.seq (p:=[1,0]) (R1:=λe s=>e=.nrm/\s=⟨sf c 0 h.n,[],.none,h.push (.mapIter (some m) clock [] clock)⟩) (by kernel_rfl) (gb.of_run me hdr (by kernel_rfl) Ug ⟨rfl,rfl⟩)
                  (λs hs=>by obtain⟨_,rfl⟩:=hs;exact Uf _ yO) λe s he hs=>absurd hs.1 he)
                 (λs hs=>?_) λe s he hs=>absurd hs.1 he
                obtain⟨_,ab⟩:=hs
                obtain⟨_,b,g,S,rfl,ad⟩:=ab
                exact gb.of_run me hdr (by kernel_rfl) (a3.run (TU kK b g ⟨rfl,rfl⟩)) ⟨rfl,rfl,b,g,S,rfl,ad⟩)
               λe s he hs=>absurd hs.1 he
             refine TN (args:=[.ptr c 0]) me hdr hf.code Tryz.func40 (c:=e9 Tryz.f40) rfl (show 1<=Tryz.f40.ntmps from of_decide_eq_true (by kernel_rfl)) ?_ ak al aC
             have fB:=ve (np 0 [.ptr c 0] .leaf) (Be _)
             refine iN.mono fB λe r' bd bk g ⟨cq,aZ,he,_,b,f_,S,hs,mH,uj,hlen,il⟩=>?_
             obtain⟨rfl,rfl,rfl,rfl⟩:cq=[(1,.int .u64 (Int.ofNat b))]/\bd=[]/\bk=.none/\g=f_:=by injection hs with a8 a6 b4 fX;exact⟨a8,a6,b4,fX⟩
             have yp:=uj.fin de il
             subst yp
             refine⟨.inr he,rfl,rfl,EC aZ (by kernel_rfl),by rw[J.JW,mH.n,hlen],λb=>?_⟩
             by_cases ae:b<h.n
             · exact .inl (mH.low b ae).symm
             · exact .inr ⟨ak.bound b (by omega),by omega⟩
           · cases aa
         · cases aa
       · cases aa
     · cases aa
   · cases aa
 · cases aa
end Go.Proofs.dj
namespace Go.Proofs.cG
open Go aP Go.Proofs
set_option maxRecDepth 100000
set_option maxHeartbeats 1000000
abbrev Uh:Nat->List I->J->Option (I×J):=Go.Proofs.dj.vV
end Go.Proofs.cG
namespace c8
open aP
abbrev a5:=List UInt8
inductive aE where
 |mk (k:Nat) (nm:a5) (ns:List a5) (xs:List aE) (rt:Option aE)
def aE.k:aE->Nat|.mk k _ _ _ _=>k
def aE.nm:aE->a5|.mk _ nm _ _ _=>nm
def aE.xs:aE->List aE|.mk _ _ _ xs _=>xs
mutual
def sz:aE->Nat
 |.mk _ _ _ xs rt=>1+c1 xs+dq rt
def c1:List aE->Nat
 |[]=>0
 |t::ck=>sz t+c1 ck
def dq:Option aE->Nat
 |none=>0
 |some t=>sz t
end
def Ui:List a5->List a5->Bool
 |[],[]=>true
 |x::xs,y::ys=>dK x y&&Ui xs ys
 |_,_=>false
theorem mf(k:Nat)(nm:a5)(ns:List a5)(xs:List aE)(rt:Option aE):sz (.mk k nm ns xs rt)=1+c1 xs+dq rt:=by rw[sz]
theorem ld(t:aE):dq (some t)=sz t:=by rw[dq]
theorem sh:∀t:aE,0<sz t
 |.mk _ _ _ _ _=>by unfold sz;omega
theorem oH{t:aE}:∀{l:List aE},t∈l->sz t<=c1 l
 |[],h=>by cases h
 |x::l,h=>by
  unfold c1
  rcases List.mem_cons.1 h with rfl|h
  · omega
  · have:=oH h;omega
theorem nU:∀l:List aE,l.length<=c1 l
 |[]=>Nat.le_refl _
 |x::l=>by
  have:=nU l
  have:=sh x
  unfold c1
  simp;omega
mutual
def lf:aE->Nat
 |.mk _ _ ns xs rt=>ns.length+pR xs+qW rt
def pR:List aE->Nat
 |[]=>0
 |t::ck=>lf t+pR ck
def qW:Option aE->Nat
 |none=>0
 |some t=>lf t
end
theorem Fm{t:aE}:∀{l:List aE},t∈l->lf t<=pR l
 |[],h=>by cases h
 |x::l,h=>by
  rw[pR]
  rcases List.mem_cons.1 h with rfl|h
  · omega
  · have:=Fm h;omega
def hq(n:Nat):Bool:=(decide (97<=n)&&decide (n<=122))||((decide (65<=n)&&decide (n<=90))||decide (n=95))
def jb(n:Nat):Bool:=decide (48<=n)&&decide (n<=57)
def j3(n:Nat):Bool:=hq n||jb n||decide (n=45)||decide (n=47)||decide (n=46)
def Fo:a5->Bool
 |[]=>false
 |c::_=>hq c.toNat
def hX(s:a5):Bool:=decide (1<=s.length)&&decide (s.length<=24)&&Fo s&&s.all (λc=>hq c.toNat||jb c.toNat)
def lD(s:a5):Bool:=decide (1<=s.length)&&decide (s.length<=161)&&s.all (λc=>j3 c.toNat)
theorem yP(x y:UInt8)(a b:a5):dF (x::a) (y::b)=if x.toNat=y.toNat then dF a b else decide (x.toNat<y.toNat):=by
 by_cases h:x.toNat=y.toNat
 · rw[if_pos h];simp only[dF,h,Nat.beq_refl]
 · rw[if_neg h]
   have ae:Nat.beq x.toNat y.toNat=false:=by
    cases aa:Nat.beq x.toNat y.toNat with
    |false=>rfl
    |true=>exact absurd (Nat.eq_of_beq_eq_true aa) h
   simp only[dF,ae]
   exact Bool.eq_iff_iff.2 (by rw[Nat.blt_eq];simp)
def oI:a5:=(List.range 26).map (λi=>UInt8.ofNat (97+i))++(List.range 26).map (λi=>UInt8.ofNat (65+i))++(List.range 10).map (λi=>UInt8.ofNat (48+i))++[95]
def pS(n:Nat):Bool:=hq n||jb n
def ki(p:Nat->Bool):List I:=(List.range 256).map λn=>.bool (p n)
def d_(sep:a5):List a5->a5
 |[]=>[]
 |x::l=>x++l.flatMap (λy=>sep++y)
theorem Uj(sep:a5):∀(l:List a5) (y:a5),l≠[]->d_ sep (l++[y])=d_ sep l++sep++y
 |[],y,h=>absurd rfl h
 |x::l,y,_=>by
  show x++(l++[y]).flatMap _=x++l.flatMap _++sep++y
  rw[List.flatMap_append]
  simp
theorem Uk(sep y:a5):d_ sep ([]++[y])=y:=by simp[d_]
theorem uk(sep:a5)(l:List a5){i:Nat}(h:i<l.length):d_ sep (l.take (i+1))=if 0<i then d_ sep (l.take i)++sep++l[i] else l[i]:=by
 rw[List.take_succ_eq_append_getElem h]
 by_cases h0:0<i
 · rw[if_pos h0,Uj]
   intro e
   have aw:(l.take i).length=i:=by rw[List.length_take];omega
   rw[e] at aw
   simp at aw
   omega
 · rw[if_neg h0]
   obtain rfl:i=0:=by omega
   exact Uk sep _
theorem yQ(sep:a5)(l:List a5):∀(i:Nat),(d_ sep (l.take i)).length<=(d_ sep l).length:=by
 intro i
 cases l with
 |nil=>simp
 |cons x l=>
  cases i with
  |zero=>simp[d_]
  |succ i=>
   show(x++(l.take i).flatMap _).length<=(x++l.flatMap _).length
   have e:l.flatMap (λy=>sep++y)=(l.take i).flatMap (λy=>sep++y)++(l.drop i).flatMap (λy=>sep++y):=by
    rw[<-List.flatMap_append,List.take_append_drop]
   rw[e]
   simp only[List.length_append]
   omega
theorem um(sep:a5)(l:List a5){i:Nat}(h:i<l.length):l[i].length<=(d_ sep l).length:=by
 have ab:=yQ sep l (i+1)
 rw[uk sep l h] at ab
 split at ab
 · simp at ab;omega
 · exact ab
def word:Nat->a5
 |1=>[97,110,121]
 |2=>[105,110,116]
 |3=>[98,111,111,108]
 |4=>[115,116,114]
 |5=>[110,105,108]
 |_=>[]
def g0(ns ws:List a5):List a5:=List.zipWith (λn w=>n++[58,32]++w) ns ws
def hI(ey:List Nat)(ws:List a5):List a5:=List.zipWith (λk w=>if k=8 then[40]++w++[41] else w) ey ws
def shape(k:Nat)(nm:a5)(ns:List a5)(ey:List Nat)(ws:List a5)(r:a5):a5:=
 if k=6 then nm else if k=7 then[123]++d_ [44,32] (g0 ns ws)++[125] else if k=8 then[102,110,40]++d_ [44,32] ws++[41,32,45,62,32]++r
 else if k=9 then d_ [32,124,32] (hI ey ws) else word k
mutual
def wr:aE->a5
 |.mk k nm ns xs rt=>shape k nm ns (xs.map aE.k) (cv xs) (kL rt)
def cv:List aE->List a5
 |[]=>[]
 |t::ck=>wr t::cv ck
def kL:Option aE->a5
 |none=>[]
 |some t=>wr t
end
mutual
def okW:aE->Bool
 |.mk k nm ns xs rt=>decide (1<=k)&&decide (k<=9)&&(decide (k≠7)||decide (xs.length=ns.length))&&(decide (k≠8)||rt.isSome)&&uo xs&&yR rt
def uo:List aE->Bool
 |[]=>true
 |t::ck=>okW t&&uo ck
def yR:Option aE->Bool
 |none=>true
 |some t=>okW t
end
theorem vZ:∀l:List aE,(cv l).length=l.length
 |[]=>by rw[cv];rfl
 |x::l=>by rw[cv];simp[vZ l]
theorem v3:∀(l:List aE) (i:Nat) (h:i<l.length) (an:i<(cv l).length),(cv l)[i]=wr l[i]
 |[],i,h,_=>by simp at h
 |x::l,0,_,_=>by simp only[cv];rfl
 |x::l,i+1,h,an=>by
  have:=v3 l i (by simpa using h) (by rw[vZ];simpa using h)
  simpa only[cv,List.getElem_cons_succ] using this
theorem Lk{t:aE}:∀{l:List aE},uo l=true->t∈l->okW t=true
 |[],_,h=>by cases h
 |x::l,aw,h=>by
  rw[uo,Bool.and_eq_true] at aw
  rcases List.mem_cons.1 h with rfl|h
  · exact aw.1
  · exact Lk aw.2 h
def mg(p:Option a5)(x:a5):Bool:=match p with
 |none=>true
 |some q=>dF q x
def jM(p:Option a5):List a5->Bool
 |[]=>true
 |x::l=>hX x&&(mg p x&&jM (some x) l)
def kM(p:Option a5):List Nat->List a5->Bool
 |k::ey,w::ws=>(decide (k≠9)&&decide (k≠1))&&(mg p w&&kM (some w) ey ws)
 |_,_=>true
def mh(l:List a5):Nat->Option a5
 |0=>none
 |i+1=>l[i]?
theorem Ll{s:a5}(h:hX s=true):s.length<=24:=by
 unfold hX at h
 simp only[Bool.and_eq_true,decide_eq_true_eq] at h
 exact h.1.1.2
def hY(k:Nat)(s:a5)(N M:Nat)(o:Bool):Bool:=(!((!dK s []) !=decide (k=6)))&&(!(decide (0<N)&&decide (k≠7)))&&(!(decide (0<M)&&decide (k<7)))&&(!(o !=decide (k=8)))
def eT(k:Nat)(nm:a5)(ns:List a5)(ey:List Nat)(ws:List a5)(n:Nat)(r:Bool):Bool:=
 if k=6 then lD nm else if k=7 then decide (ns.length=n)&&jM none ns else if k=8 then r else if k=9 then kM none ey ws&&decide (2<=n) else true
mutual
def ef:aE->Bool
 |.mk k nm ns xs rt=>(decide (1<=k)&&decide (k<=9))&&(hY k nm ns.length xs.length rt.isSome&&(hr xs&&eT k nm ns (xs.map aE.k) (cv xs) xs.length (ix rt)))
def hr:List aE->Bool
 |[]=>true
 |t::ck=>ef t&&hr ck
def ix:Option aE->Bool
 |none=>false
 |some t=>ef t
end
theorem yS{t:aE}:∀{l:List aE},hr l=true->t∈l->ef t=true
 |[],_,h=>by cases h
 |x::l,aw,h=>by
  rw[hr,Bool.and_eq_true] at aw
  rcases List.mem_cons.1 h with rfl|h
  · exact aw.1
  · exact yS aw.2 h
theorem m3(k:Nat)(nm:a5)(ns:List a5)(xs:List aE)(rt:Option aE):ef (.mk k nm ns xs rt)=((decide (1<=k)&&decide (k<=9))&&(hY k nm ns.length xs.length rt.isSome&&(hr xs&&eT k nm ns (xs.map aE.k) (cv xs) xs.length (ix rt)))):=by rw[ef]
mutual
theorem yT:∀t:aE,ef t=true->okW t=true
 |.mk k nm ns xs rt,h=>by
  rw[m3] at h
  simp only[Bool.and_eq_true,decide_eq_true_eq] at h
  obtain⟨⟨bH,iO⟩,aK,aa,aq⟩:=h
  have j2:=Lm xs aa
  have Ln:rt.isSome=decide (k=8):=by
   unfold hY at aK
   simp only[Bool.and_eq_true] at aK
   have:=aK.2
   revert this
   cases rt.isSome<;>cases ao:decide (k=8)<;>simp
  have a4:yR rt=true:=by
   cases rt with
   |none=>rw[yR]
   |some u=>
    have Fp:k=8:=by simpa using Ln.symm
    subst Fp
    have hu:ef u=true:=by simpa[eT,ix] using aq
    rw[yR]
    exact yT u hu
  rw[okW]
  simp only[Bool.and_eq_true,Bool.or_eq_true,decide_eq_true_eq]
  refine⟨⟨⟨⟨⟨bH,iO⟩,?_⟩,?_⟩,j2⟩,a4⟩
  · by_cases e:k=7
    · subst e
      right
      have:ns.length=xs.length/\jM none ns=true:=by simpa[eT] using aq
      exact this.1.symm
    · exact .inl e
  · by_cases e:k=8
    · right;rw[Ln];simp[e]
    · exact .inl e
theorem Lm:∀l:List aE,hr l=true->uo l=true
 |[],_=>by rw[uo]
 |t::l,h=>by
  rw[hr,Bool.and_eq_true] at h
  rw[uo,yT t h.1,Lm l h.2];rfl
end
def fE(c:Nat):List a5->Nat
 |[]=>0
 |x::l=>x.length+c+fE c l
theorem Lo(sep:a5):∀l:List a5,(l.flatMap (λy=>sep++y)).length=fE sep.length l
 |[]=>rfl
 |x::l=>by
  rw[List.flatMap_cons,List.length_append,Lo sep l,List.length_append,fE]
  omega
theorem BE(sep:a5):∀l:List a5,(d_ sep l).length<=fE sep.length l
 |[]=>Nat.le_refl _
 |x::l=>by
  show(x++l.flatMap _).length<=_
  rw[List.length_append,Lo,fE]
  omega
theorem Fq:∀(p:Option a5) (ns:List a5),jM p ns=true->∀n∈ns,n.length<=24
 |_,[],_,n,aN=>by cases aN
 |p,x::l,h,n,aN=>by
  rw[jM,Bool.and_eq_true,Bool.and_eq_true] at h
  rcases List.mem_cons.1 aN with rfl|aN
  · exact Ll h.1
  · exact Fq (some x) l h.2.2 n aN
def yU:List aE->Prop
 |[]=>True
 |t::l=>(wr t).length+30<=300*sz t/\yU l
theorem Lp:∀xs:List aE,yU xs->fE 2 (cv xs)<=300*c1 xs
 |[],_=>by rw[cv,fE];omega
 |t::l,h=>by
  have ab:=h.1
  have:=Lp l h.2
  rw[cv,fE,c1];omega
theorem Lq:∀(ns:List a5) (xs:List aE),yU xs->(∀n∈ns,n.length<=24)->fE 2 (g0 ns (cv xs))<=300*c1 xs
 |[],xs,_,_=>by simp[g0,fE]
 |n::ns,[],_,_=>by simp[g0,cv,fE]
 |n::ns,t::l,h,aN=>by
  have ab:=h.1
  have ad:=aN n (by simp)
  have:=Lq ns l h.2 (λm hm=>aN m (by simp[hm]))
  unfold g0 at this⊢
  rw[cv,List.zipWith_cons_cons,fE,c1]
  simp only[List.length_append,List.length_cons,List.length_nil]
  omega
theorem Lr:∀(xs:List aE),yU xs->fE 3 (hI (xs.map aE.k) (cv xs))<=300*c1 xs
 |[],_=>by simp[hI,cv,fE]
 |t::l,h=>by
  have ab:=h.1
  have:=Lr l h.2
  unfold hI at this⊢
  rw[List.map_cons,cv,List.zipWith_cons_cons,fE,c1]
  split
  · simp only[List.length_append,List.length_cons,List.length_nil]
    omega
  · omega
mutual
theorem v5:∀t:aE,ef t=true->(wr t).length+30<=300*sz t
 |.mk k nm ns xs rt,h=>by
  rw[m3] at h
  simp only[Bool.and_eq_true,decide_eq_true_eq] at h
  obtain⟨⟨bH,iO⟩,aK,aa,aq⟩:=h
  have hs:=Ls xs aa
  rw[wr,mf]
  unfold shape
  split
  · rename_i e
    subst e
    have:lD nm=true:=by simpa[eT] using aq
    unfold lD at this
    simp only[Bool.and_eq_true,decide_eq_true_eq] at this
    omega
  split
  · rename_i e
    subst e
    have hf:ns.length=xs.length/\jM none ns=true:=by simpa[eT] using aq
    have bo:=Lq ns xs hs (Fq none ns hf.2)
    have bG:(d_ [44,32] (g0 ns (cv xs))).length<=fE 2 (g0 ns (cv xs)):=BE [44,32] _
    simp only[List.length_append,List.length_cons,List.length_nil]
    omega
  split
  · rename_i e
    subst e
    have bo:=Lp xs hs
    have bG:(d_ [44,32] (cv xs)).length<=fE 2 (cv xs):=BE [44,32] _
    have aj:(kL rt).length<=300*dq rt:=by
     cases rt with
     |none=>rw[kL];simp
     |some u=>
      have hu:ef u=true:=by simpa[eT,ix] using aq
      have:=v5 u hu
      rw[kL,ld];omega
    simp only[List.length_append,List.length_cons,List.length_nil]
    omega
  split
  · have bo:=Lr xs hs
    have bG:(d_ [32,124,32] (hI (xs.map aE.k) (cv xs))).length<=fE 3 (hI (xs.map aE.k) (cv xs)):=BE [32,124,32] _
    omega
  · have:(word k).length<=4:=by
      unfold word;split<;>simp
    omega
theorem Ls:∀l:List aE,hr l=true->yU l
 |[],_=>trivial
 |t::l,h=>by
  rw[hr,Bool.and_eq_true] at h
  exact⟨v5 t h.1,Ls l h.2⟩
end
theorem Ul(u:aE)(h:ef u=true):okW u=true/\(wr u).length<=300*sz u:=⟨yT u h,by have:=v5 u h;omega⟩
end c8
namespace Go.Proofs.cG
open Go aP Go.Proofs c8
set_option maxRecDepth 100000
set_option maxHeartbeats 1000000
def db(B:Nat)(h:J)(v:I)(vs:List I):Prop:=(v=.a0/\vs=[])\/∃b off cp,v=.slice b off vs.length cp/\b<B/\(∀i (af:i<vs.length),au h b (off+i*1)=some vs[i])/\0<vs.length/\cp≠ .dead
mutual
def dJ(B:Nat)(h:J):aE->I->Prop
 |.mk k nm ns xs rt,v=>∃r bL bg c2 vs bh aO up,v=.ptr r 0/\r<B/\h.get r=some (.cells [.int .i64 (Int.ofNat k),.str nm,bL,bg,c2] 80 bh aO up)/\db B h bL (ns.map .str)/\db B h bg vs/\dS B h xs vs/\ez B h rt c2
def dS(B:Nat)(h:J):List aE->List I->Prop
 |[],vs=>vs=[]
 |t::ck,vs=>∃v ws,vs=v::ws/\dJ B h t v/\dS B h ck ws
def ez(B:Nat)(h:J):Option aE->I->Prop
 |none,v=>v=.bb
 |some t,v=>dJ B h t v
end
def gU(B:Nat)(h g:J):Prop:=∀b,b<B->g.get b=h.get b
theorem gU.ext{B C:Nat}{h g:J}(e:Ext C h g)(cM:B<=C):gU B h g:=λb ae=>e.get b (by omega)
theorem db.b8{B:Nat}{h g:J}{v:I}{vs:List I}(e:gU B h g)(hs:db B h v vs):db B g v vs:=by
 rcases hs with hs|⟨b,off,cp,ab,ad,ar,aG⟩
 · exact .inl hs
 · refine .inr ⟨b,off,cp,ab,ad,λi af=>?_,aG⟩
   rw[<-ar i af]
   unfold au
   rw[e b ad]
theorem db.le{B C:Nat}{h:J}{v:I}{vs:List I}(e:B<=C)(hs:db B h v vs):db C h v vs:=by
 rcases hs with hs|⟨b,off,cp,ab,ad,ar,aG⟩
 · exact .inl hs
 · exact .inr ⟨b,off,cp,ab,by omega,ar,aG⟩
mutual
theorem dJ.b8{B:Nat}{h g:J}(e:gU B h g):∀(t:aE) (v:I),dJ B h t v->dJ B g t v
 |.mk k nm ns xs rt,v,aa=>by
  obtain⟨r,bL,bg,c2,vs,bh,aO,up,ab,ad,ar,aG,bJ,cu,dg⟩:=aa
  exact⟨r,bL,bg,c2,vs,bh,aO,up,ab,ad,(e r ad).trans ar,aG.b8 e,bJ.b8 e,dS.b8 e xs vs cu,ez.b8 e rt c2 dg⟩
theorem dS.b8{B:Nat}{h g:J}(e:gU B h g):∀(ck:List aE) (vs:List I),dS B h ck vs->dS B g ck vs
 |[],vs,aa=>aa
 |t::ck,vs,aa=>by
  obtain⟨v,ws,ab,ad,ar⟩:=aa
  exact⟨v,ws,ab,dJ.b8 e t v ad,dS.b8 e ck ws ar⟩
theorem ez.b8{B:Nat}{h g:J}(e:gU B h g):∀(t:Option aE) (v:I),ez B h t v->ez B g t v
 |none,v,aa=>aa
 |some t,v,aa=>dJ.b8 e t v aa
end
mutual
theorem dJ.le{B C:Nat}{h:J}(e:B<=C):∀(t:aE) (v:I),dJ B h t v->dJ C h t v
 |.mk k nm ns xs rt,v,aa=>by
  obtain⟨r,bL,bg,c2,vs,bh,aO,up,ab,ad,ar,aG,bJ,cu,dg⟩:=aa
  exact⟨r,bL,bg,c2,vs,bh,aO,up,ab,by omega,ar,aG.le e,bJ.le e,dS.le e xs vs cu,ez.le e rt c2 dg⟩
theorem dS.le{B C:Nat}{h:J}(e:B<=C):∀(ck:List aE) (vs:List I),dS B h ck vs->dS C h ck vs
 |[],vs,aa=>aa
 |t::ck,vs,aa=>by
  obtain⟨v,ws,ab,ad,ar⟩:=aa
  exact⟨v,ws,ab,dJ.le e t v ad,dS.le e ck ws ar⟩
theorem ez.le{B C:Nat}{h:J}(e:B<=C):∀(t:Option aE) (v:I),ez B h t v->ez C h t v
 |none,v,aa=>aa
 |some t,v,aa=>dJ.le e t v aa
end
theorem dS.len{B:Nat}{h:J}:∀{ck:List aE} {vs:List I},dS B h ck vs->vs.length=ck.length
 |[],vs,aa=>by
  have e:vs=[]:=aa
  subst e;rfl
 |s::ck,vs,aa=>by
  obtain⟨u,ws,rfl,ad,ar⟩:=aa
  simp[dS.len ar]
theorem dS.get{B:Nat}{h:J}:∀{ck:List aE} {vs:List I},dS B h ck vs->∀i (ab:i<vs.length) (ad:i<ck.length),dJ B h ck[i] vs[i]
 |[],vs,aa,i,ab,ad=>by simp at ad
 |s::ck,vs,aa,i,ab,ad=>by
  obtain⟨u,ws,rfl,ar,aG⟩:=aa
  cases i with
  |zero=>exact ar
  |succ i=>exact dS.get aG i (by simpa using ab) (by simpa using ad)
theorem db.snd{B:Nat}{h:J}{v:I}{vs:List I}(hs:db B h v vs):I.sound v=true:=by
 rcases hs with⟨rfl,_⟩|⟨b,off,cp,rfl,_⟩<;>rfl
theorem db.len{B:Nat}{h g:J}{v:I}{vs:List I}{t e:TypeId}(hu:Tryz.prog.underlying t=some (.slice e))(hs:db B h v vs):cc Tryz.prog g t v=some (.int .i64 (Int.ofNat vs.length)):=by
 rcases hs with⟨rfl,rfl⟩|⟨b,off,cp,rfl,_⟩
 · simp only[cc,hu];rfl
 · simp only[cc,hu]
theorem ez.BF{B:Nat}{h:J}{ot:Option aE}{v:I}(aC:ez B h ot v):v=.bb\/∃R,v=.ptr R 0:=by
 cases ot with
 |none=>exact .inl aC
 |some u=>
  cases u with
  |mk k nm ns ys rt=>obtain⟨r,bL,bg,_,vs,bh,aO,up,rfl,_⟩:=aC;exact .inr ⟨r,rfl⟩
theorem ez.snd{B:Nat}{h:J}{ot:Option aE}{v:I}(aC:ez B h ot v):I.sound v=true:=by
 rcases aC.BF with rfl|⟨R,rfl⟩<;>rfl
theorem dJ.snd{B:Nat}{h:J}{t:aE}{v:I}(aC:dJ B h t v):I.sound v=true:=ez.snd (ot:=some t) aC
noncomputable def b0:Nat->List I->J->Option (I×J):=Fa (qJ [⟨15,[],.bool true⟩,⟨106,[.str oI],.aQ [.agg (ki pS),.bool true]⟩,⟨106,[.str (oI++[45,47,46])],.aQ [.agg (ki j3),.bool true]⟩]) Uh
noncomputable def Y(n:Nat):aI->List I->J->av:=fa Tryz.prog b0 n
end Go.Proofs.cG
namespace Go.Proofs.cG
open Go aP Go.Proofs c8
set_option maxRecDepth 100000
set_option maxHeartbeats 1000000
theorem Um(call:aI->List I->J->av)(n:Nat)(h:J):
  aL Tryz.prog Tryz.f80 none call [] (ah.mk [(0,.bb),(1,.int .i64 (.ofNat n))] [] .none h) (.ret)
   (ah.mk [(4,.int .i64 (.ofNat n))] [] .none h):=
 bI [4] (hs:=[.v (.bool true),.b true,.b true,.b true,.b true]) (by kernel_rfl)<| .cons (by kernel_rfl:eJ Tryz.prog h BinOp.eql 35 (Operand.tmp 6) (Operand.const (Value.pointer none)) I.bb I.bb=some (I.bool true))<| .cons (by kernel_rfl:true=true)<| .cons (by kernel_rfl:true=true)<| .cons (by kernel_rfl:true=true)<| .cons (by kernel_rfl:true=true)<| .nil
theorem Lt(call:aI->List I->J->av)(r n:Nat)(h:J):
  aL Tryz.prog Tryz.f80 none call [0] (ah.mk [(0,.ptr r 0),(1,.int .i64 (.ofNat n))] [] .none h) (.nrm)
   (ah.mk [(0,.ptr r 0),(1,.int .i64 (.ofNat n))] [] .none h):=
 bI [0,1] (hs:=[]) (by kernel_rfl)<| .nil
theorem Un(call:aI->List I->J->av)(r n:Nat)(h:J)
  (H1:bM (.ofNat 60) (.ofNat n)=true):
  aL Tryz.prog Tryz.f80 none call [1,0] (ah.mk [(0,.ptr r 0),(1,.int .i64 (.ofNat n))] [] .none h) (.ret)
   (ah.mk [(0,.ptr r 0),(1,.int .i64 (.ofNat n)),(4,.int .i64 (.ofNat n))] [] .none h):=
 bI [0,1,4] (hs:=[.v (.bool false),.b false,.b false,.b false,.b true]) (by kernel_rfl)<| .cons (by kernel_rfl:eJ Tryz.prog h BinOp.eql 35 (Operand.tmp 6) (Operand.const (Value.pointer none)) (I.ptr r 0) I.bb=some (I.bool false))<| .cons (by kernel_rfl:false=false)<| .cons (by kernel_rfl:false=false)<| .cons (by kernel_rfl:false=false)<| .cons H1<| .nil
theorem Uo(call:aI->List I->J->av)(r n:Nat)(h:J)
  (H1:bM (.ofNat 60) (.ofNat n)=false):
  aL Tryz.prog Tryz.f80 none call [1,0] (ah.mk [(0,.ptr r 0),(1,.int .i64 (.ofNat n))] [] .none h) (.nrm)
   (ah.mk [(0,.ptr r 0),(1,.int .i64 (.ofNat n))] [] .none h):=
 bI [0,1,4] (hs:=[.v (.bool false),.b false,.b false,.b false,.b false]) (by kernel_rfl)<| .cons (by kernel_rfl:eJ Tryz.prog h BinOp.eql 35 (Operand.tmp 6) (Operand.const (Value.pointer none)) (I.ptr r 0) I.bb=some (I.bool false))<| .cons (by kernel_rfl:false=false)<| .cons (by kernel_rfl:false=false)<| .cons (by kernel_rfl:false=false)<| .cons H1<| .nil
theorem Up(call:aI->List I->J->av)(r n k:Nat)(h:J)
  (H1:arith .add .i64 (.ofNat n) (.ofNat 1)=some (.int .i64 (.ofNat k))):
  aL Tryz.prog Tryz.f80 none call [1,1,0] (ah.mk [(0,.ptr r 0),(1,.int .i64 (.ofNat n))] [] .none h) (.nrm)
   (ah.mk [(0,.ptr r 0),(1,.int .i64 (.ofNat k))] [] .none h):=
 bI [0,1] (hs:=[.v (.int .i64 (.ofNat k))]) (by kernel_rfl)<| .cons H1<| .nil
theorem Uq(call:aI->List I->J->av)(r n:Nat)(h:J):
  aL Tryz.prog Tryz.f80 none call [1,1,1,0,0] (ah.mk [(0,.ptr r 0),(1,.int .i64 (.ofNat n))] [] .none h) (.nrm)
   (ah.mk [(0,.ptr r 0),(1,.int .i64 (.ofNat n)),(5,.int .i64 (.ofNat 0))] [] .none h):=
 bI [0,1,5] (hs:=[]) (by kernel_rfl)<| .nil
theorem Ur(call:aI->List I->J->av)(r n:Nat)(h:J)
  (H1:au h r (0+3)=some .a0):
  aL Tryz.prog Tryz.f80 none call [1,1,1,0,1,0,0] (ah.mk [(0,.ptr r 0),(1,.int .i64 (.ofNat n)),(5,.int .i64 (.ofNat 0))] [] .none h) (.exit 0)
   (ah.mk [(0,.ptr r 0),(1,.int .i64 (.ofNat n))] [] .none h):=
 bI [0,1] (hs:=[.v .a0,.b false,.b false,.b false,.b false]) (by kernel_rfl)<| .cons H1<| .cons (by kernel_rfl:bM (Int.ofNat 0) (Int.ofNat 0)=false)<| .cons (by kernel_rfl:bM (Int.ofNat 0) (Int.ofNat 0)=false)<| .cons (by kernel_rfl:bM (Int.ofNat 0) (Int.ofNat 0)=false)<| .cons (by kernel_rfl:false=false)<| .nil
theorem Us(call:aI->List I->J->av)(r n b off N i q k j:Nat)(cp:b3)(x:I)(h g:J)
  (H1:au h r (0+3)=some (.slice b off N cp))
  (aR:bM (.ofNat i) (.ofNat N)=true)
  (br:fh (.ofNat n) (.ofNat 60)=true)
  (bp:Nat.le (Nat.succ i) N/\I.ptr b q=I.ptr b (off+i*1))
  (b1:au h b q=some x)
  (cL:call (.fn 80) [x,.int .i64 (.ofNat n)] h=av.ret (.int .i64 (.ofNat k)) g)
  (dr:arith .add .i64 (.ofNat i) (.ofNat 1)=some (.int .i64 (.ofNat j))):
  aL Tryz.prog Tryz.f80 none call [1,1,1,0,1,0,0] (ah.mk [(0,.ptr r 0),(1,.int .i64 (.ofNat n)),(5,.int .i64 (.ofNat i))] [] .none h) (.nrm)
   (ah.mk [(0,.ptr r 0),(1,.int .i64 (.ofNat k)),(5,.int .i64 (.ofNat j))] [] .none g):=
 bI [0,1,5] (hs:=[.v (.slice b off N cp),.b true,.b true,.b true,.b true,.v (.slice b off N cp),.v (.ptr b q),.v x,.c (.int .i64 (.ofNat k)) g,.v (.int .i64 (.ofNat j))]) (by kernel_rfl)<| .cons H1<| .cons aR<| .cons aR<| .cons aR<| .cons br<| .cons H1<| .cons bp<| .cons b1<| .cons cL<| .cons dr<| .nil
theorem Ut(call:aI->List I->J->av)(r n b off N i q k j:Nat)(cp:b3)(x:I)(h g:J)
  (H1:au h r (0+3)=some (.slice b off N cp))
  (aR:bM (.ofNat i) (.ofNat N)=true)
  (br:fh (.ofNat n) (.ofNat 60)=false):
  aL Tryz.prog Tryz.f80 none call [1,1,1,0,1,0,0] (ah.mk [(0,.ptr r 0),(1,.int .i64 (.ofNat n)),(5,.int .i64 (.ofNat i))] [] .none h) (.exit 0)
   (ah.mk [(0,.ptr r 0),(1,.int .i64 (.ofNat n)),(5,.int .i64 (.ofNat i))] [] .none h):=
 bI [0,1,5] (hs:=[.v (.slice b off N cp),.b true,.b true,.b true,.b false]) (by kernel_rfl)<| .cons H1<| .cons aR<| .cons aR<| .cons aR<| .cons br<| .nil
theorem Uu(call:aI->List I->J->av)(r n b off N i q k j:Nat)(cp:b3)(x:I)(h g:J)
  (H1:au h r (0+3)=some (.slice b off N cp))
  (aR:bM (.ofNat i) (.ofNat N)=false):
  aL Tryz.prog Tryz.f80 none call [1,1,1,0,1,0,0] (ah.mk [(0,.ptr r 0),(1,.int .i64 (.ofNat n)),(5,.int .i64 (.ofNat i))] [] .none h) (.exit 0)
   (ah.mk [(0,.ptr r 0),(1,.int .i64 (.ofNat n)),(5,.int .i64 (.ofNat i))] [] .none h):=
 bI [0,1,5] (hs:=[.v (.slice b off N cp),.b false,.b false,.b false,.b false]) (by kernel_rfl)<| .cons H1<| .cons aR<| .cons aR<| .cons aR<| .cons (by kernel_rfl:false=false)<| .nil
theorem Uv(call:aI->List I->J->av)(r n k:Nat)(x:I)(h g:J)
  (H1:au h r (0+4)=some x)
  (aR:call (.fn 80) [x,.int .i64 (.ofNat n)] h=av.ret (.int .i64 (.ofNat k)) g):
  aL Tryz.prog Tryz.f80 none call [1,1,1,1] (ah.mk [(0,.ptr r 0),(1,.int .i64 (.ofNat n))] [] .none h) (.ret)
   (ah.mk [(4,.int .i64 (.ofNat k))] [] .none g):=
 bI [4] (hs:=[.v x,.c (.int .i64 (.ofNat k)) g]) (by kernel_rfl)<| .cons H1<| .cons aR<| .nil
theorem Lu(call:aI->List I->J->av)(k:Nat)(x:I)(h g:J)
  (H1:call (.fn 80) [x,.int .i64 (.ofNat 0)] h=av.ret (.int .i64 (.ofNat k)) g):
  aL Tryz.prog Tryz.f52 none call [] (ah.mk [(0,x)] [] .none h) (.ret)
   (ah.mk [(2,.int .i64 (.ofNat k))] [] .none g):=
 bI [2] (hs:=[.c (.int .i64 (.ofNat k)) g]) (by kernel_rfl)<| .cons H1<| .nil
theorem Lv{B:Nat}{h:J}{xs:List aE}{vs:List I}(call:aI->List I->J->av)(r b off:Nat)(cp:b3)(aC:au h r (0+3)=some (.slice b off vs.length cp))(aa:dS B h xs vs)(aw:∀i (af:i<vs.length),au h b (off+i*1)=some vs[i])(hlen:vs.length<=1000000)
  (a7:∀i (ab:i<vs.length) (ad:i<xs.length) n,n<=61->call (.fn 80) [vs[i],.int .i64 (Int.ofNat n)] h=.ret (.int .i64 (Int.ofNat (min (n+sz xs[i]) 61))) h):∀(k i n:Nat),vs.length-i=k->i<=vs.length->n<=61->
  fx Tryz.prog Tryz.f80 none call [1,1,1,0,1,0] (k+1) ⟨[(0,.ptr r 0),(1,.int .i64 (Int.ofNat n)),(5,.int .i64 (Int.ofNat i))],[],.none,h⟩ (.exit 0) ⟨[(0,.ptr r 0),(1,.int .i64 (Int.ofNat (min (n+c1 (xs.drop i)) 61)))],[],.none,h⟩
 |0,i,n,aq,af,aN=>by
  have fw:=dS.len aa
  obtain rfl:i=vs.length:=by omega
  rw[List.drop_of_length_le (by omega)]
  have e:min (n+c1 []) 61=n:=by show min (n+0) 61=n;omega
  rw[e]
  exact .exit (c5.post (Uu call r n b off vs.length _ 0 0 0 cp .bb h h aC (eZ (by omega))) ⟨rfl,rfl,trivial⟩) (by simp)
 |k+1,i,n,aq,af,aN=>by
  have fw:=dS.len aa
  have ab:i<vs.length:=by omega
  have ad:i<xs.length:=by omega
  rw[List.drop_eq_getElem_cons ad]
  by_cases pU:n<=60
  · have st:=Us call r n b off vs.length i (off+i*1) (min (n+sz xs[i]) 61) (i+1) cp vs[i] h h aC (dT ab) (mT (by omega)) ⟨ab,rfl⟩ (aw i ab) (a7 i ab ad n aN) (kf ab (by omega))
    have e:min (n+c1 (xs[i]::xs.drop (i+1))) 61=min (min (n+sz xs[i]) 61+c1 (xs.drop (i+1))) 61:=by
     show min (n+(sz xs[i]+c1 (xs.drop (i+1)))) 61=_
     omega
    rw[e]
    exact .step st (Lv call r b off cp aC aa aw hlen a7 k (i+1) _ (by omega) (by omega) (by omega))
  · have e:min (n+c1 (xs[i]::xs.drop (i+1))) 61=n:=by omega
    rw[e]
    exact .exit (c5.post (Ut call r n b off vs.length i 0 0 0 cp .bb h h aC (dT ab) (oC (by omega))) ⟨rfl,rfl,trivial⟩) (by simp)
theorem Lw(m n:Nat)(h:J):Y (m+1) (.fn 80) [.bb,.int .i64 (Int.ofNat n)] h=.ret (.int .i64 (Int.ofNat n)) h:=
 eR (intr:=b0) (n:=m) (args:=[.bb,.int .i64 (Int.ofNat n)]) Tryz.func80 (by kernel_rfl) rfl (by kernel_rfl) (Um (Y m) n h) (.inl rfl) (by kernel_rfl)
theorem Fs:∀(N:Nat) (t:aE),sz t<=N->sz t<=90000->∀(B:Nat) (h:J) (v:I) (m n:Nat),sz t<m->n<=61->dJ B h t v->Y m (.fn 80) [v,.int .i64 (Int.ofNat n)] h=.ret (.int .i64 (Int.ofNat (min (n+sz t) 61))) h
 |0,t,gP,_,_,_,_,_,_,_,_,_=>by have:=sh t;omega
 |N+1,.mk k nm ns xs rt,gP,ya,B,h,v,m,n,hm,aN,aC=>by
  obtain⟨r,bL,bg,c2,vs,bh,aO,up,rfl,ad,ar,aG,bJ,cu,dg⟩:=aC
  have hs:sz (.mk k nm ns xs rt)=1+c1 xs+dq rt:=by unfold sz;rfl
  rw[hs] at gP hm ya⊢
  obtain⟨m,rfl⟩:∃j,m=j+1:=⟨m-1,by omega⟩
  have fw:=dS.len cu
  have jm:=nU xs
  by_cases pU:n<=60
  · have hT:=Lt (Y m) r n h
    have s1:=Uo (Y m) r n h (eZ (by omega))
    have s2:=Up (Y m) r n (n+1) h (kf (m:=100000) (by omega) (by decide))
    have bK:=Uq (Y m) r (n+1) h
    have a7:∀i (ab:i<vs.length) (ad:i<xs.length) n,n<=61->Y m (.fn 80) [vs[i],.int .i64 (Int.ofNat n)] h=.ret (.int .i64 (Int.ofNat (min (n+sz xs[i]) 61))) h:=λi ab ad n aN=>by
     have h8:=oH (List.getElem_mem ad)
     exact Fs N xs[i] (by omega) (by omega) B h vs[i] m n (by omega) aN (dS.get cu i ab ad)
    have fp:au h r (0+3)=some bg:=aV ar rfl
    have loop:aL Tryz.prog Tryz.f80 none (Y m) [1,1,1,0,1,0] ⟨[(0,.ptr r 0),(1,.int .i64 (Int.ofNat (n+1))),(5,.int .i64 (Int.ofNat 0))],[],.none,h⟩ (.exit 0) ⟨[(0,.ptr r 0),(1,.int .i64 (Int.ofNat (min (n+1+c1 xs) 61)))],[],.none,h⟩:=by
     rcases bJ with⟨rfl,rfl⟩|⟨b,off,cp,rfl,ae,aw,_⟩
     · have mF:xs=[]:=List.eq_nil_of_length_eq_zero (by simpa using fw.symm)
       subst mF
       have e:min (n+1+c1 []) 61=n+1:=by show min (n+1+0) 61=n+1;omega
       rw[e]
       exact fx.run (p:=[1,1,1,0,1,0]) (n:=1) (by kernel_rfl) (.exit (Ur (Y m) r (n+1) h fp) (by simp)) (by omega)
     · have:=Lv (Y m) r b off cp fp cu aw (by omega) a7 vs.length 0 (n+1) (by omega) (by omega) (by omega)
       rw[List.drop_zero] at this
       exact fx.run (p:=[1,1,1,0,1,0]) (by kernel_rfl) this (by omega)
    have Uw:=aL.block (p:=[1,1,1,0,1]) (id:=0) (by kernel_rfl) loop
    have xY:Y m (.fn 80) [c2,.int .i64 (Int.ofNat (min (n+1+c1 xs) 61))] h=.ret (.int .i64 (Int.ofNat (min (n+(1+c1 xs+dq rt)) 61))) h:=by
     cases rt with
     |none=>
      have e:c2=.bb:=dg
      subst e
      obtain⟨m,rfl⟩:∃j,m=j+1:=⟨m-1,by omega⟩
      have e:min (n+(1+c1 xs+dq none)) 61=min (n+1+c1 xs) 61:=by show min (n+(1+c1 xs+0)) 61=_;omega
      rw[e]
      exact Lw m _ h
     |some u=>
      have eB:dq (some u)=sz u:=by unfold dq;rfl
      rw[eB] at gP hm ya⊢
      rw[Fs N u (by omega) (by omega) B h c2 m _ (by omega) (by omega) dg]
      congr 3
      omega
    have bN:=Uv (Y m) r (min (n+1+c1 xs) 61) (min (n+(1+c1 xs+dq rt)) 61) c2 h h (aV ar rfl) xY
    exact eR (intr:=b0) (n:=m) (args:=[.ptr r 0,.int .i64 (Int.ofNat n)]) Tryz.func80 (by kernel_rfl) rfl (by kernel_rfl) (aL.seq (p:=[]) (by kernel_rfl) hT (aL.seq (p:=[1]) (by kernel_rfl) s1 (aL.seq (p:=[1,1]) (by kernel_rfl) s2 (aL.seq (p:=[1,1,1]) (by kernel_rfl) (aL.seq (p:=[1,1,1,0]) (by kernel_rfl) bK Uw) bN)))) (.inl rfl) (by kernel_rfl)
  · have hT:=Lt (Y m) r n h
    have e:min (n+(1+c1 xs+dq rt)) 61=n:=by omega
    rw[e]
    have s1:=Un (Y m) r n h (dT (by omega))
    exact eR (intr:=b0) (n:=m) (args:=[.ptr r 0,.int .i64 (Int.ofNat n)]) Tryz.func80 (by kernel_rfl) rfl (by kernel_rfl) (aL.seq (p:=[]) (by kernel_rfl) hT (aL.iM (p:=[1]) (by kernel_rfl) s1 (by simp))) (.inl rfl) (by kernel_rfl)
theorem Lx{t:aE}{B:Nat}{h:J}{v:I}{m:Nat}(ae:sz t<=90000)(hm:sz t<m)(aC:dJ B h t v):Y (m+1) (.fn 52) [v] h=.ret (.int .i64 (Int.ofNat (min (sz t) 61))) h:=by
 have e:=Fs (sz t) t (Nat.le_refl _) ae B h v m 0 hm (by decide) aC
 rw[Nat.zero_add] at e
 exact eR (intr:=b0) (n:=m) (args:=[v]) Tryz.func52 (by kernel_rfl) rfl (by kernel_rfl) (Lu (Y m) _ v h h e) (.inl rfl) (by kernel_rfl)
end Go.Proofs.cG
namespace Go.Proofs.cG
open Go aP Go.Proofs c8
set_option maxRecDepth 100000
set_option maxHeartbeats 1000000
theorem Ux(call:aI->List I->J->av)(v:I)(h:J):
  aL Tryz.prog Tryz.f16 none call [0] (ah.mk [(0,v)] [] .none h) (.nrm)
   (ah.mk [(0,v)] [] .none h):=
 bI [0] (hs:=[]) (by kernel_rfl)<| .nil
theorem Uy(call:aI->List I->J->av)(v:I)(h g:J)
  (H1:aP.storeCells (J.push h (.cells [.int .i64 (.ofNat 0)] 3 .own 0 0)) (J.n h) 0 [.int .i64 (.ofNat 0)]=some g):
  aL Tryz.prog Tryz.f16 none call [1,0] (ah.mk [(0,v)] [] .none h) (.nrm)
   (ah.mk [(0,v),(3,.ptr (J.n h) 0)] [] .none g):=
 bI [0,3] (hs:=[.l5 (.aQ []) g]) (by kernel_rfl)<| .cons (⟨by kernel_rfl,H1,rfl⟩:some 1=some 1/\aP.storeCells (J.push h (df.cells [I.int IntKind.i64 (Int.ofNat 0)] 3 gM.own 0 0)) (J.n h) 0 [I.int IntKind.i64 (Int.ofNat 0)]=some g/\I.aQ []=I.aQ [])<| .nil
theorem Uz(call:aI->List I->J->av)(v w:I)(a:Nat)(h g:J)
  (H1:call (.fn 37) [v] h=av.ret w g):
  aL Tryz.prog Tryz.f16 none call [1,1,0,0] (ah.mk [(0,v),(3,.ptr a 0)] [] .none h) (.nrm)
   (ah.mk [(3,.ptr a 0),(5,w)] [] .none g):=
 bI [3,5] (hs:=[.c w g]) (by kernel_rfl)<| .cons H1<| .nil
theorem UA(call:aI->List I->J->av)(l a i j:Nat)(h g:J)
  (H1:au h a 0=some (.int .i64 (.ofNat i)))
  (aR:arith .add .i64 (.ofNat i) (.ofNat 1)=some (.int .i64 (.ofNat j)))
  (br:aP.storeCells h a 0 [.int .i64 (.ofNat j)]=some g)
  (bp:au g a 0=some (.int .i64 (.ofNat j)))
  (b1:bM (.ofNat 60) (.ofNat j)=true):
  aL Tryz.prog Tryz.f16 (some l) call [1,1,0,1,0,1] (ah.mk [(3,.ptr a 0)] [] .none h) (.exit 0)
   (ah.mk [(3,.ptr a 0)] [] .none g):=
 bI [3] (hs:=[.v (.int .i64 (.ofNat i)),.v (.int .i64 (.ofNat j)),.l5 (.aQ []) g,.v (.int .i64 (.ofNat j)),.b true]) (by kernel_rfl)<| .cons H1<| .cons aR<| .cons (⟨by kernel_rfl,br,rfl⟩:some 1=some 1/\aP.storeCells h a 0 [I.int IntKind.i64 (Int.ofNat j)]=some g/\I.aQ []=I.aQ [])<| .cons bp<| .cons b1<| .nil
theorem UB(call:aI->List I->J->av)(l a i j:Nat)(h g:J)
  (H1:au h a 0=some (.int .i64 (.ofNat i)))
  (aR:arith .add .i64 (.ofNat i) (.ofNat 1)=some (.int .i64 (.ofNat j)))
  (br:aP.storeCells h a 0 [.int .i64 (.ofNat j)]=some g)
  (bp:au g a 0=some (.int .i64 (.ofNat j)))
  (b1:bM (.ofNat 60) (.ofNat j)=false):
  aL Tryz.prog Tryz.f16 (some l) call [1,1,0,1,0,1] (ah.mk [(3,.ptr a 0)] [] .none h) (.nrm)
   (ah.mk [(3,.ptr a 0)] [] .none g):=
 bI [3] (hs:=[.v (.int .i64 (.ofNat i)),.v (.int .i64 (.ofNat j)),.l5 (.aQ []) g,.v (.int .i64 (.ofNat j)),.b false]) (by kernel_rfl)<| .cons H1<| .cons aR<| .cons (⟨by kernel_rfl,br,rfl⟩:some 1=some 1/\aP.storeCells h a 0 [I.int IntKind.i64 (Int.ofNat j)]=some g/\I.aQ []=I.aQ [])<| .cons bp<| .cons b1<| .nil
theorem UC(call:aI->List I->J->av)(a j eL:Nat)(h:J)
  (H1:au h a 0=some (.int .i64 (.ofNat j))):
  aL Tryz.prog Tryz.f16 none call [1,1,1] (ah.mk [(3,.ptr a 0)] [.collected eL] .none h) (.ret)
   (ah.mk [(2,.int .i64 (.ofNat j))] [.collected eL] .none h):=
 bI [2] (hs:=[.v (.int .i64 (.ofNat j))]) (by kernel_rfl)<| .cons H1<| .nil
theorem UD(call:aI->List I->J->av)(r:Nat)(h:J):
  aL Tryz.prog Tryz.f37 none call [] (ah.mk [(0,.ptr r 0)] [] .none h) (.ret)
   (ah.mk [(2,.fn 57 [] [.ptr (J.n h) 0])] [] .none (J.push h (.cells [.ptr r 0] 35 .own 0 0))):=
 bI [2] (hs:=[]) (by kernel_rfl)<| .nil
theorem UE(call:aI->List I->J->av)(h:J):
  aL Tryz.prog Tryz.f37 none call [] (ah.mk [(0,.bb)] [] .none h) (.ret)
   (ah.mk [(2,.fn 57 [] [.ptr (J.n h) 0])] [] .none (J.push h (.cells [.bb] 35 .own 0 0))):=
 bI [2] (hs:=[]) (by kernel_rfl)<| .nil
theorem UF(call:aI->List I->J->av)(l a:Nat)(v w:I)(h ab ad:J)
  (H1:aP.storeCells (J.push (J.push h (.cells [.dh l] 89 .own 0 0)) (.cells [.fR] 89 .own 0 0)) (J.n (J.push h (.cells [.dh l] 89 .own 0 0))) 0 [.fn 58 [] [.ptr (J.n h) 0,.ptr (J.n (J.push h (.cells [.dh l] 89 .own 0 0))) 0]]=some ab)
  (aR:au ab (J.n (J.push h (.cells [.dh l] 89 .own 0 0))) 0=some (.fn 58 [] [.ptr (J.n h) 0,.ptr (J.n h+1) 0]))
  (br:au ab a 0=some v)
  (bp:call (.fn 58) [v,.ptr (J.n h) 0,.ptr (J.n h+1) 0] ab=av.ret w ad):
  aL Tryz.prog Tryz.f57 none call [] (ah.mk [(0,.dh l),(1,.ptr a 0)] [] .none h) (.nrm)
   (ah.mk [] [] .none ad):=
 bI [] (hs:=[.l5 (.aQ []) ab,.v (.fn 58 [] [.ptr (J.n h) 0,.ptr (J.n h+1) 0]),.v v,.c w ad]) (by kernel_rfl)<| .cons (⟨by kernel_rfl,H1,rfl⟩:some 1=some 1/\aP.storeCells (J.push (J.push h (df.cells [I.dh l] 89 gM.own 0 0)) (df.cells [I.fR] 89 gM.own 0 0)) (J.n (J.push h (df.cells [I.dh l] 89 gM.own 0 0))) 0 [I.fn 58 [] [I.ptr (J.n h) 0,I.ptr (J.n (J.push h (df.cells [I.dh l] 89 gM.own 0 0))) 0]]=some ab/\I.aQ []=I.aQ [])<| .cons aR<| .cons br<| .cons bp<| .nil
theorem UG(call:aI->List I->J->av)(y z:Nat)(h:J):
  aL Tryz.prog Tryz.f58 none call [] (ah.mk [(0,.bb),(1,.ptr y 0),(2,.ptr z 0)] [] .none h) (.ret)
   (ah.mk [(4,.bool true)] [] .none h):=
 bI [4] (hs:=[.v (.bool true),.b true]) (by kernel_rfl)<| .cons (by kernel_rfl:eJ Tryz.prog h BinOp.eql 35 (Operand.tmp 7) (Operand.const (Value.pointer none)) I.bb I.bb=some (I.bool true))<| .cons (by kernel_rfl:true=true)<| .nil
theorem UH(call:aI->List I->J->av)(r y z:Nat)(h:J):
  aL Tryz.prog Tryz.f58 none call [0] (ah.mk [(0,.ptr r 0),(1,.ptr y 0),(2,.ptr z 0)] [] .none h) (.nrm)
   (ah.mk [(0,.ptr r 0),(1,.ptr y 0),(2,.ptr z 0)] [] .none h):=
 bI [0,1,2] (hs:=[]) (by kernel_rfl)<| .nil
theorem UI(call:aI->List I->J->av)(r y z:Nat)(h:J):
  aL Tryz.prog Tryz.f58 none call [1,0] (ah.mk [(0,.ptr r 0),(1,.ptr y 0),(2,.ptr z 0)] [] .none h) (.nrm)
   (ah.mk [(0,.ptr r 0),(1,.ptr y 0),(2,.ptr z 0)] [] .none h):=
 bI [0,1,2] (hs:=[.v (.bool false),.b false]) (by kernel_rfl)<| .cons (by kernel_rfl:eJ Tryz.prog h BinOp.eql 35 (Operand.tmp 7) (Operand.const (Value.pointer none)) (I.ptr r 0) I.bb=some (I.bool false))<| .cons (by kernel_rfl:false=false)<| .nil
theorem UJ(call:aI->List I->J->av)(r y z l:Nat)(h g:J)
  (H1:au h y 0=some (.dh l))
  (aR:call (.dh l) [.ptr r 0] h=av.ret (.bool true) g):
  aL Tryz.prog Tryz.f58 none call [1,1,0] (ah.mk [(0,.ptr r 0),(1,.ptr y 0),(2,.ptr z 0)] [] .none h) (.nrm)
   (ah.mk [(0,.ptr r 0),(1,.ptr y 0),(2,.ptr z 0)] [] .none g):=
 bI [0,1,2] (hs:=[.v (.dh l),.c (.bool true) g,.b false]) (by kernel_rfl)<| .cons H1<| .cons aR<| .cons (by kernel_rfl:(!true)=false)<| .nil
theorem UK(call:aI->List I->J->av)(r y z l:Nat)(h g:J)
  (H1:au h y 0=some (.dh l))
  (aR:call (.dh l) [.ptr r 0] h=av.ret (.bool false) g):
  aL Tryz.prog Tryz.f58 none call [1,1,0] (ah.mk [(0,.ptr r 0),(1,.ptr y 0),(2,.ptr z 0)] [] .none h) (.ret)
   (ah.mk [(4,.bool false)] [] .none g):=
 bI [4] (hs:=[.v (.dh l),.c (.bool false) g,.b true]) (by kernel_rfl)<| .cons H1<| .cons aR<| .cons (by kernel_rfl:(!false)=true)<| .nil
theorem UL(call:aI->List I->J->av)(r y z b off N:Nat)(cp:b3)(h:J)
  (H1:au h r (0+3)=some (.slice b off N cp)):
  aL Tryz.prog Tryz.f58 none call [1,1,1,0,0] (ah.mk [(0,.ptr r 0),(1,.ptr y 0),(2,.ptr z 0)] [] .none h) (.nrm)
   (ah.mk [(0,.ptr r 0),(1,.ptr y 0),(2,.ptr z 0),(16,.slice b off N cp),(17,.int .i64 (.ofNat N)),(18,.int .i64 (.ofNat 0))] [] .none h):=
 bI [0,1,2,16,17,18] (hs:=[.v (.slice b off N cp)]) (by kernel_rfl)<| .cons H1<| .nil
theorem UM(call:aI->List I->J->av)(r y z:Nat)(h:J)
  (H1:au h r (0+3)=some .a0):
  aL Tryz.prog Tryz.f58 none call [1,1,1,0,0] (ah.mk [(0,.ptr r 0),(1,.ptr y 0),(2,.ptr z 0)] [] .none h) (.nrm)
   (ah.mk [(0,.ptr r 0),(1,.ptr y 0),(2,.ptr z 0),(16,.a0),(17,.int .i64 (.ofNat 0)),(18,.int .i64 (.ofNat 0))] [] .none h):=
 bI [0,1,2,16,17,18] (hs:=[.v .a0]) (by kernel_rfl)<| .cons H1<| .nil
theorem Ly(call:aI->List I->J->av)(r y z N i:Nat)(v:I)(h:J)
  (H1:bM (.ofNat i) (.ofNat N)=false):
  aL Tryz.prog Tryz.f58 none call [1,1,1,0,1,0,0] (ah.mk [(0,.ptr r 0),(1,.ptr y 0),(2,.ptr z 0),(16,v),(17,.int .i64 (.ofNat N)),(18,.int .i64 (.ofNat i))] [] .none h) (.exit 0)
   (ah.mk [(0,.ptr r 0),(1,.ptr y 0),(2,.ptr z 0)] [] .none h):=
 bI [0,1,2] (hs:=[.b false]) (by kernel_rfl)<| .cons H1<| .nil
theorem UN(call:aI->List I->J->av)(r y z b off N i q j:Nat)(cp:b3)(x:I)(h g:J)
  (H1:bM (.ofNat i) (.ofNat N)=true)
  (aR:Nat.le (Nat.succ i) N/\I.ptr b q=I.ptr b (off+i*1))
  (br:au h b q=some x)
  (bp:au h z 0=some (.fn 58 [] [.ptr y 0,.ptr z 0]))
  (b1:call (.fn 58) [x,.ptr y 0,.ptr z 0] h=av.ret (.bool true) g)
  (cL:arith .add .i64 (.ofNat i) (.ofNat 1)=some (.int .i64 (.ofNat j))):
  aL Tryz.prog Tryz.f58 none call [1,1,1,0,1,0,0] (ah.mk [(0,.ptr r 0),(1,.ptr y 0),(2,.ptr z 0),(16,.slice b off N cp),(17,.int .i64 (.ofNat N)),(18,.int .i64 (.ofNat i))] [] .none h) (.nrm)
   (ah.mk [(0,.ptr r 0),(1,.ptr y 0),(2,.ptr z 0),(16,.slice b off N cp),(17,.int .i64 (.ofNat N)),(18,.int .i64 (.ofNat j))] [] .none g):=
 bI [0,1,2,16,17,18] (hs:=[.b true,.v (.ptr b q),.v x,.v (.fn 58 [] [.ptr y 0,.ptr z 0]),.c (.bool true) g,.b false,.v (.int .i64 (.ofNat j))]) (by kernel_rfl)<| .cons H1<| .cons aR<| .cons br<| .cons bp<| .cons b1<| .cons (by kernel_rfl:(!true)=false)<| .cons cL<| .nil
theorem UO(call:aI->List I->J->av)(r y z b off N i q:Nat)(cp:b3)(x:I)(h g:J)
  (H1:bM (.ofNat i) (.ofNat N)=true)
  (aR:Nat.le (Nat.succ i) N/\I.ptr b q=I.ptr b (off+i*1))
  (br:au h b q=some x)
  (bp:au h z 0=some (.fn 58 [] [.ptr y 0,.ptr z 0]))
  (b1:call (.fn 58) [x,.ptr y 0,.ptr z 0] h=av.ret (.bool false) g):
  aL Tryz.prog Tryz.f58 none call [1,1,1,0,1,0,0] (ah.mk [(0,.ptr r 0),(1,.ptr y 0),(2,.ptr z 0),(16,.slice b off N cp),(17,.int .i64 (.ofNat N)),(18,.int .i64 (.ofNat i))] [] .none h) (.ret)
   (ah.mk [(4,.bool false)] [] .none g):=
 bI [4] (hs:=[.b true,.v (.ptr b q),.v x,.v (.fn 58 [] [.ptr y 0,.ptr z 0]),.c (.bool false) g,.b true]) (by kernel_rfl)<| .cons H1<| .cons aR<| .cons br<| .cons bp<| .cons b1<| .cons (by kernel_rfl:(!false)=true)<| .nil
theorem UP(call:aI->List I->J->av)(r y z:Nat)(x v:I)(h g:J)
  (H1:au (J.room h 7) z 0=some (.fn 58 [] [.ptr y 0,.ptr z 0]))
  (aR:au (J.room h 7) r (0+4)=some x)
  (br:call (.fn 58) [x,.ptr y 0,.ptr z 0] (J.room h 7)=av.ret v g)
  (bp:I.sound x=true:=by first|with_reducible assumption|rfl|exact db.snd (by with_reducible assumption)|exact db.hb (by with_reducible assumption)|exact ez.snd (by with_reducible assumption)|exact ez.hb (by with_reducible assumption)|exact dJ.snd (by with_reducible assumption)|exact dJ.hb (by with_reducible assumption))
  (b1:I.sound v=true:=by first|with_reducible assumption|rfl|exact db.snd (by with_reducible assumption)|exact db.hb (by with_reducible assumption)|exact ez.snd (by with_reducible assumption)|exact ez.hb (by with_reducible assumption)|exact dJ.snd (by with_reducible assumption)|exact dJ.hb (by with_reducible assumption)):
  aL Tryz.prog Tryz.f58 none call [1,1,1,1] (ah.mk [(0,.ptr r 0),(1,.ptr y 0),(2,.ptr z 0)] [] .none h) (.ret)
   (ah.mk [(4,v)] [] .none g):=
 bI [4] (hs:=[.v (.fn 58 [] [.ptr y 0,.ptr z 0]),.v x,.c v g]) (by kernel_rfl)<| .cons H1<| .cons aR<| .cons br<| .cons (by kernel_rfl:I.sound (I.fn 58 [] [I.ptr y 0,I.ptr z 0])=true)<| .cons H1<| .cons (by kernel_rfl:I.sound (I.ptr r 0)=true)<| .cons (by kernel_rfl:I.ptr r 0=I.ptr r 0)<| .cons (by kernel_rfl:I.sound (I.ptr r 0)=true)<| .cons (by kernel_rfl:I.ptr r 0=I.ptr r 0)<| .cons (by kernel_rfl:I.sound (I.ptr r (0+4))=true)<| .cons (by kernel_rfl:I.ptr r (0+4)=I.ptr r (0+4))<| .cons bp<| .cons aR<| .cons b1<| .cons (by kernel_rfl:v=v)<| .nil
noncomputable def Ft:Code:=sub (e9 Tryz.f16) [1,1,0,1,0,0]
noncomputable def UQ:Code:=sub (e9 Tryz.f16) [1,1,0,1,0,1]
theorem UR:Ft=.skip:=by kernel_rfl
noncomputable abbrev v7(s:LoopState)(p:Option Code)(r:aY)(N:Nat):df:=.loop s p (dL Tryz.f16) r [6] Ft UQ (N+2)
structure qX(N:Nat)(h:J)(r:aY)(c:Nat)(x:J):Prop where
 yV:x.get N=some (.cells [.int .i64 (Int.ofNat c)] 3 .own 0 0)
 ll:x.get (N+2)=some (.defrd (some []))
 v8:x.get (N+3)=some (v7 .ready none r N)
 dh:x.get (N+4)=some (.cells [.dh (N+3)] 89 .own 0 0)
 v9:x.get (N+5)=some (.cells [.fn 58 [] [.ptr (N+4) 0,.ptr (N+5) 0]] 89 .own 0 0)
 ext:Ext N h x
structure Lz(N:Nat)(h:J)(r:aY)(x:J):Prop where
 yV:x.get N=some (.cells [.int .i64 (Int.ofNat 61)] 3 .own 0 0)
 ll:x.get (N+2)=some (.defrd (some []))
 v8:x.get (N+3)=some (v7 .done (some (.exit 0)) r N)
 ext:Ext N h x
theorem qX.room{N:Nat}{h:J}{r:aY}{c:Nat}{x:J}(af:qX N h r c x)(k:Nat):qX N h r c (x.room k):=⟨af.yV,af.ll,af.v8,af.dh,af.v9,af.ext.h_⟩
theorem US(m:Nat){N:Nat}{h:J}{r:aY}{c:Nat}{x:J}(aj:aP.Mod r [(3,.ptr N 0)])(af:qX N h r c x)(ag:c<=60)(v:I):
  ∃b y,Y (m+1) (.dh (N+3)) [v] x=.ret (.bool b) y/\((b=true/\c+1<=60/\qX N h r (c+1) y)\/(b=false/\60<c+1/\Lz N h r y)):=by
 have aS:Y (m+1) (.dh (N+3)) [v] x=sZ Tryz.prog (Y m) (N+3) [v] x:=rfl
 rw[aS]
 have aT:∀q,c5 Tryz.prog (dL Tryz.f16) (some (N+3)) (Y m) Ft ⟨put 6 v [(3,.ptr N 0)],[],q,x⟩ .nrm ⟨[(3,.ptr N 0)],[],q,x⟩:=λq r' hm=>by
  rw[UR]
  exact⟨r',rfl,hm.sub ⟨rfl,trivial⟩⟩
 have dZ:(x.set (N+3) (some (v7 .busy none r N))).get N=some (.cells [.int .i64 (Int.ofNat c)] 3 .own 0 0):=by
  rw[J.cV,if_neg (by omega)];exact af.yV
 by_cases pU:c+1<=60
 · have ae:=UB (Y m) (N+3) N c (c+1) _ _ (nL dZ) (kf (m:=100) (by omega) (by decide)) (Bi (y:=.int .i64 (Int.ofNat (c+1))) rfl dZ) (nL (t:=3) (by rw[J.cV,if_pos rfl])) (eZ (by omega))
   have e:=Kh af.v8 aj (aT _) ae (by rw[J.cV,if_neg (by omega),J.cV,if_pos rfl])
   rw[e]
   refine⟨true,_,rfl,.inl ⟨rfl,pU,?_,?_,?_,?_,?_,?_⟩⟩
   · simp only[J.cV];rw[if_neg (by omega),if_pos trivial]
   · simp only[J.cV];rw[if_neg (by omega),if_neg (by omega),if_neg (by omega)];exact af.ll
   · simp only[J.cV];rw[if_pos trivial]
   · simp only[J.cV];rw[if_neg (by omega),if_neg (by omega),if_neg (by omega)];exact af.dh
   · simp only[J.cV];rw[if_neg (by omega),if_neg (by omega),if_neg (by omega)];exact af.v9
   · exact((af.ext.iX (by omega)).iX (by omega)).iX (by omega)
 · have ae:=UA (Y m) (N+3) N c (c+1) _ _ (nL dZ) (kf (m:=100) (by omega) (by decide)) (Bi (y:=.int .i64 (Int.ofNat (c+1))) rfl dZ) (nL (t:=3) (by rw[J.cV,if_pos rfl])) (dT (by omega))
   have e:=Kh af.v8 aj (aT _) ae (by rw[J.cV,if_neg (by omega),J.cV,if_pos rfl])
   rw[e]
   have xQ:c+1=61:=by omega
   refine⟨false,_,rfl,.inr ⟨rfl,by omega,?_,?_,?_,?_⟩⟩
   · simp only[J.cV];rw[if_neg (by omega),if_pos trivial,xQ]
   · simp only[J.cV];rw[if_neg (by omega),if_neg (by omega),if_neg (by omega)];exact af.ll
   · simp only[J.cV];rw[if_pos trivial]
   · exact((af.ext.iX (by omega)).iX (by omega)).iX (by omega)
def uq(N:Nat)(h:J)(r:aY)(c s:Nat)(b:Bool)(y:J):Prop:=(b=true/\c+s<=60/\qX N h r (c+s) y)\/(b=false/\60<c+s/\Lz N h r y)
def Fu(m:Nat)(N:Nat)(h:J)(r:aY)(B:Nat)(ot:Option aE):Prop:=∀(v:I) (c:Nat) (x:J),c<=60->ez B h ot v->qX N h r c x->∃b y,Y m (.fn 58) [v,.ptr (N+4) 0,.ptr (N+5) 0] x=.ret (.bool b) y/\uq N h r c (dq ot) b y
theorem LA{m N B R b off:Nat}{h:J}{r:aY}{xs:List aE}{vs:List I}(cp:b3)(cM:B<=N)(ae:b<B)(aa:dS B h xs vs)(aw:∀i (af:i<vs.length),au h b (off+i*1)=some vs[i])(hlen:vs.length<=1000000)
  (a7:∀i (ad:i<xs.length),Fu m N h r B (some xs[i])):∀(k i c:Nat) (x:J),vs.length-i=k->i<=vs.length->c<=60->qX N h r c x->
  ∃e Γ y,fx Tryz.prog Tryz.f58 none (Y m) [1,1,1,0,1,0] (k+1) ⟨[(0,.ptr R 0),(1,.ptr (N+4) 0),(2,.ptr (N+5) 0),(16,.slice b off vs.length cp),(17,.int .i64 (Int.ofNat vs.length)),(18,.int .i64 (Int.ofNat i))],[],.none,x⟩ e ⟨Γ,[],.none,y⟩/\
   ((e=.exit 0/\Γ=[(0,.ptr R 0),(1,.ptr (N+4) 0),(2,.ptr (N+5) 0)]/\uq N h r c (c1 (xs.drop i)) true y)\/(e=.ret/\Γ=[(4,.bool false)]/\uq N h r c (c1 (xs.drop i)) false y))
 |0,i,c,x,aq,af,ag,mi=>by
  have fw:=dS.len aa
  obtain rfl:i=vs.length:=by omega
  rw[List.drop_of_length_le (by omega)]
  exact⟨_,_,_,.exit (Ly (Y m) R (N+4) (N+5) _ _ _ x (eZ (by omega))) (by simp),.inl ⟨rfl,rfl,.inl ⟨rfl,ag,mi⟩⟩⟩
 |k+1,i,c,x,aq,af,ag,mi=>by
  have fw:=dS.len aa
  have ab:i<vs.length:=by omega
  have ad:i<xs.length:=by omega
  have ao:c1 (xs.drop i)=sz xs[i]+c1 (xs.drop (i+1)):=by
   rw[List.drop_eq_getElem_cons ad];rfl
  have fp:au x b (off+i*1)=some vs[i]:=by
   rw[<-aw i ab]
   unfold au
   rw[mi.ext.get b (by omega)]
  obtain⟨fl,y,aA,ay⟩:=a7 i ad vs[i] c x ag (dS.get aa i ab ad) mi
  have eB:dq (some xs[i])=sz xs[i]:=by unfold dq;rfl
  rw[eB] at ay
  rcases ay with⟨rfl,bw,eh⟩|⟨rfl,bw,eh⟩
  · have st:=UN (Y m) R (N+4) (N+5) b off vs.length i (off+i*1) (i+1) cp vs[i] x y (dT ab) ⟨ab,rfl⟩ fp (nL mi.v9) aA (kf ab (by omega))
    obtain⟨e,Γ,z,bz,bR⟩:=LA (R:=R) cp cM ae aa aw hlen a7 k (i+1) (c+sz xs[i]) y (by omega) (by omega) bw eh
    refine⟨e,Γ,z,.step st bz,?_⟩
    unfold uq at bR⊢
    rw[ao,<-Nat.add_assoc]
    exact bR
  · have st:=UO (Y m) R (N+4) (N+5) b off vs.length i (off+i*1) cp vs[i] x y (dT ab) ⟨ab,rfl⟩ fp (nL mi.v9) aA
    exact⟨_,_,_,.exit st (by simp),.inr ⟨rfl,rfl,.inr ⟨rfl,by omega,eh⟩⟩⟩
theorem Fv{N B:Nat}{h:J}{r:aY}(aj:aP.Mod r [(3,.ptr N 0)])(cM:B<=N):∀(K:Nat) (ot:Option aE),dq ot<=K->dq ot<=90000->∀m,dq ot+3<=m->Fu m N h r B ot
 |K,none,_,_,m,hm=>λv c x ag aC mi=>by
  obtain rfl:v=.bb:=aC
  obtain⟨m,rfl⟩:∃j,m=j+1:=⟨m-1,by omega⟩
  exact⟨true,x,eR (intr:=b0) (n:=m) (args:=[.bb,.ptr (N+4) 0,.ptr (N+5) 0]) Tryz.func58 (by kernel_rfl) rfl (by kernel_rfl) (UG (Y m) (N+4) (N+5) x) (.inl rfl) (by kernel_rfl),.inl ⟨rfl,ag,mi⟩⟩
 |0,some t,dk,_,m,hm=>by
  have eB:dq (some t)=sz t:=by unfold dq;rfl
  have:=sh t
  omega
 |K+1,some (.mk k nm ns xs rt),dk,g3,m,hm=>λv c x ag aC mi=>by
  have hs:dq (some (.mk k nm ns xs rt))=1+c1 xs+dq rt:=by rw[ld,mf]
  obtain⟨R,bL,bg,c2,vs,bh,aO,up,rfl,ad,ar,aG,bJ,cu,dg⟩:=aC
  rw[hs] at dk g3 hm⊢
  obtain⟨m,rfl⟩:∃j,m=j+1:=⟨m-1,by omega⟩
  obtain⟨m,rfl⟩:∃j,m=j+1:=⟨m-1,by omega⟩
  have fw:=dS.len cu
  have jm:=nU xs
  have hT:=UH (Y (m+1)) R (N+4) (N+5) x
  have s1:=UI (Y (m+1)) R (N+4) (N+5) x
  obtain⟨fl,y,aA,ay⟩:=US m aj mi ag (.ptr R 0)
  rcases ay with⟨rfl,bw,eh⟩|⟨rfl,bw,eh⟩
  · have s2:=UJ (Y (m+1)) R (N+4) (N+5) (N+3) x y (nL mi.dh) aA
    have UT:y.get R=some (.cells [.int .i64 (Int.ofNat k),.str nm,bL,bg,c2] 80 bh aO up):=by
     rw[eh.ext.get R (by omega)];exact ar
    have fp:au y R (0+3)=some bg:=aV UT rfl
    have a7:∀i (ad:i<xs.length),Fu (m+1) N h r B (some xs[i]):=λi ad=>by
     have h8:=oH (List.getElem_mem ad)
     have eB:dq (some xs[i])=sz xs[i]:=by unfold dq;rfl
     exact Fv aj cM K (some xs[i]) (by omega) (by omega) (m+1) (by omega)
    have loop:∃e Γ z,aL Tryz.prog Tryz.f58 none (Y (m+1)) [1,1,1,0] ⟨[(0,.ptr R 0),(1,.ptr (N+4) 0),(2,.ptr (N+5) 0)],[],.none,y⟩ e ⟨Γ,[],.none,z⟩/\
      ((e=.nrm/\Γ=[(0,.ptr R 0),(1,.ptr (N+4) 0),(2,.ptr (N+5) 0)]/\uq N h r (c+1) (c1 xs) true z)\/(e=.ret/\Γ=[(4,.bool false)]/\uq N h r (c+1) (c1 xs) false z)):=by
     rcases bJ with⟨rfl,rfl⟩|⟨b,off,cp,rfl,ae,aw,_⟩
     · have mF:xs=[]:=List.eq_nil_of_length_eq_zero (by simpa using fw.symm)
       subst mF
       refine⟨_,_,_,aL.seq (p:=[1,1,1,0]) (by kernel_rfl) (UM (Y (m+1)) R (N+4) (N+5) y fp) (aL.block (p:=[1,1,1,0,1]) (id:=0) (by kernel_rfl) (fx.run (p:=[1,1,1,0,1,0]) (n:=1) (by kernel_rfl) (.exit (Ly (Y (m+1)) R (N+4) (N+5) 0 0 _ y (by kernel_rfl)) (by simp)) (by omega))),.inl ⟨rfl,rfl,.inl ⟨rfl,bw,eh⟩⟩⟩
     · obtain⟨e,Γ,z,bz,bR⟩:=LA (R:=R) cp cM ae cu aw (by omega) a7 vs.length 0 (c+1) y (by omega) (by omega) bw eh
       rw[List.drop_zero] at bR
       have cU:=fx.run (p:=[1,1,1,0,1,0]) (by kernel_rfl) bz (by omega)
       have iy:=UL (Y (m+1)) R (N+4) (N+5) b off vs.length cp y fp
       rcases bR with⟨rfl,iz,Fw⟩|⟨rfl,iz,Fw⟩
       · exact⟨_,_,_,aL.seq (p:=[1,1,1,0]) (by kernel_rfl) iy (aL.block (p:=[1,1,1,0,1]) (id:=0) (by kernel_rfl) cU),.inl ⟨rfl,iz,Fw⟩⟩
       · exact⟨_,_,_,aL.seq (p:=[1,1,1,0]) (by kernel_rfl) iy (aL.tJ (p:=[1,1,1,0,1]) (id:=0) (by kernel_rfl) cU (by simp)),.inr ⟨rfl,iz,Fw⟩⟩
    obtain⟨e,Γ,z,bz,bR⟩:=loop
    rcases bR with⟨rfl,rfl,bR⟩|⟨rfl,rfl,bR⟩
    · rcases bR with⟨_,cU,iy⟩|⟨cU,_⟩
      · have iz:=iy.room 7
        have UU:(z.room 7).get R=some (.cells [.int .i64 (Int.ofNat k),.str nm,bL,bg,c2] 80 bh aO up):=by
         rw[iz.ext.get R (by omega)];exact ar
        obtain⟨fl,w,cN,cK⟩:=Fv aj cM K rt (by omega) (by omega) (m+1) (by omega) c2 (c+1+c1 xs) _ cU dg iz
        have eH:I.sound c2=true:=by
         cases rt with
         |none=>obtain rfl:c2=.bb:=dg;rfl
         |some u=>
          cases u with
          |mk k nm ns ys rt=>obtain⟨r,bL,bg,_,vs,bh,aO,up,rfl,_⟩:=dg;rfl
        have bN:=UP (Y (m+1)) R (N+4) (N+5) c2 (.bool fl) z w (nL iz.v9) (aV UU rfl) cN eH rfl
        refine⟨fl,w,eR (intr:=b0) (n:=m+1) (args:=[.ptr R 0,.ptr (N+4) 0,.ptr (N+5) 0]) Tryz.func58 (by kernel_rfl) rfl (by kernel_rfl) (aL.seq (p:=[]) (by kernel_rfl) hT (aL.seq (p:=[1]) (by kernel_rfl) s1 (aL.seq (p:=[1,1]) (by kernel_rfl) s2 (aL.seq (p:=[1,1,1]) (by kernel_rfl) bz bN)))) (.inl rfl) rfl,?_⟩
        have hk:c+1+c1 xs+dq rt=c+(1+c1 xs+dq rt):=by omega
        unfold uq at cK⊢
        rw[hk] at cK
        exact cK
      · simp at cU
    · rcases bR with⟨cU,_⟩|⟨_,cU,iy⟩
      · simp at cU
      · exact⟨false,z,eR (intr:=b0) (n:=m+1) (args:=[.ptr R 0,.ptr (N+4) 0,.ptr (N+5) 0]) Tryz.func58 (by kernel_rfl) rfl (by kernel_rfl) (aL.seq (p:=[]) (by kernel_rfl) hT (aL.seq (p:=[1]) (by kernel_rfl) s1 (aL.seq (p:=[1,1]) (by kernel_rfl) s2 (aL.iM (p:=[1,1,1]) (by kernel_rfl) bz (by simp))))) (.inl rfl) (by kernel_rfl),.inr ⟨rfl,by omega,iy⟩⟩
  · have s2:=UK (Y (m+1)) R (N+4) (N+5) (N+3) x y (nL mi.dh) aA
    exact⟨false,y,eR (intr:=b0) (n:=m+1) (args:=[.ptr R 0,.ptr (N+4) 0,.ptr (N+5) 0]) Tryz.func58 (by kernel_rfl) rfl (by kernel_rfl) (aL.seq (p:=[]) (by kernel_rfl) hT (aL.seq (p:=[1]) (by kernel_rfl) s1 (aL.iM (p:=[1,1]) (by kernel_rfl) s2 (by simp)))) (.inl rfl) (by kernel_rfl),.inr ⟨rfl,by omega,eh⟩⟩
end Go.Proofs.cG
namespace Go.Proofs.cG
open Go aP Go.Proofs c8
set_option maxRecDepth 100000
set_option maxHeartbeats 1000000
theorem UW{call:aI->List I->J->av}(j N:Nat)(r:aY)(q:bF)(h:J)(hm:aP.Mod r [(2,.int .i64 (Int.ofNat j))])(ao:h.get (N+2)=some (.defrd (some []))):
  pg Tryz.prog call Tryz.f16 (.ok .ret r [.collected (N+2)] q h)=.ret (.int .i64 (Int.ofNat j)) (h.set (N+2) (some (.defrd none))):=by
 have aj:=EC hm (rfl:r0 Tryz.prog (dL Tryz.f16) Tryz.f16 [(2,.int .i64 (Int.ofNat j))] (h.set (N+2) (some (.defrd none)))=some (.int .i64 (Int.ofNat j)))
 simp only[pg,jj,ao,List.nil_append,aj]
theorem LB{ot:Option aE}{B:Nat}{h:J}{v:I}(m:Nat)(g3:dq ot<=90000)(cM:B<=h.n)(aC:ez B h ot v)(hm:dq ot+3<=m):
  ∃an,Y (m+2) (.fn 16) [v] h=.ret (.int .i64 (Int.ofNat (min (dq ot) 61))) an/\Ext h.n h an:=by
 have UX:=aC.BF
 let ab:=(h.push (.cells [.int .i64 (Int.ofNat 0)] 3 .own 0 0)).set h.n (some (.cells [.int .i64 (Int.ofNat 0)] 3 .own 0 0))
 let ad:=ab.push (.cells [v] 35 .own 0 0)
 have aD:ab.n=h.n+1:=rfl
 have bj:ad.n=h.n+2:=rfl
 have aH:aP.storeCells (h.push (.cells [.int .i64 (Int.ofNat 0)] 3 .own 0 0)) h.n 0 [.int .i64 (Int.ofNat 0)]=some ab:=
  Bi (x:=.int .i64 (Int.ofNat 0)) (t:=3) rfl (by rw[J.gp,if_pos rfl])
 have UY:Y (m+1) (.fn 37) [v] ab=.ret (.fn 57 [] [.ptr (h.n+1) 0]) ad:=by
  rcases UX with rfl|⟨R,rfl⟩
  · exact eR (intr:=b0) (n:=m) (args:=[.bb]) Tryz.func37 (by kernel_rfl) rfl (by kernel_rfl) (UE (Y m) ab) (.inl rfl) rfl
  · exact eR (intr:=b0) (n:=m) (args:=[.ptr R 0]) Tryz.func37 (by kernel_rfl) rfl (by kernel_rfl) (UD (Y m) R ab) (.inl rfl) rfl
 have w:WF Tryz.prog Tryz.f16 none (Y (m+1)) [] (λe r d q an=>∃lA,pg Tryz.prog (Y (m+1)) Tryz.f16 (.ok e r d q an)=.ret (.int .i64 (Int.ofNat (min (dq ot) 61))) lA/\Ext h.n h lA) (np 0 [v] .leaf) [] .none h:=by
  refine WF.seq (p:=[]) (by kernel_rfl) (W.of (Ux (Y (m+1)) v h) (Be [v]) λr1 aZ=>.inl ⟨rfl,?_⟩)
  refine WF.seq (p:=[1]) (by kernel_rfl) (W.of (Uy (Y (m+1)) v h ab aH) aZ λr2 bQ=>.inl ⟨rfl,?_⟩)
  refine WF.seq (p:=[1,1]) (by kernel_rfl) ?_
  refine WF.seq (p:=[1,1,0]) (by kernel_rfl) (W.of (Uz (Y (m+1)) v _ h.n ab ad UY) bQ λec lb=>.inl ⟨rfl,?_⟩)
  refine WF.block (p:=[1,1,0,1]) (id:=0) (by kernel_rfl) ?_
  refine WF.range (p:=[1,1,0,1,0]) (t:=5) (ps:=[6]) (by kernel_rfl) (by kernel_rfl) (hf:=rfl) (hm:=lb) ?_
  let lE:=(ad.push (.defrd (some []))).push (v7 .ready none ec h.n)
  let bC:=((lE.push (.cells [.dh (h.n+3)] 89 .own 0 0)).push (.cells [.fR] 89 .own 0 0)).set (h.n+5) (some (.cells [.fn 58 [] [.ptr (h.n+4) 0,.ptr (h.n+5) 0]] 89 .own 0 0))
  have LC:aP.Mod ec [(3,.ptr h.n 0)]:=lb.sub ⟨rfl,trivial⟩
  have adz:lE.n=h.n+4:=rfl
  have hk:Ext h.n h ab:=(Ext.push (Nat.le_refl _) _).iX (Nat.le_refl _)
  have nR:Ext h.n h ad:=hk.kG (by omega)
  have si:Ext h.n h lE:=(nR.kG (by omega)).kG (by show h.n<=h.n+3;omega)
  have ui:Ext h.n h bC:=((si.kG (by omega)).kG (by show h.n<=h.n+5;omega)).iX (by omega)
  have i0:qX h.n h ec 0 bC:=by
   refine⟨?_,?_,?_,?_,?_,?_⟩
   · simp only[bC,lE,ad,ab,J.gp,J.cV,J.rl,J.uY];grind
   · simp only[bC,lE,ad,ab,J.gp,J.cV,J.rl,J.uY];grind
   · simp only[bC,lE,ad,ab,J.gp,J.cV,J.rl,J.uY];grind
   · simp only[bC,lE,ad,ab,J.gp,J.cV,J.rl,J.uY];grind
   · simp only[bC,lE,ad,ab,J.gp,J.cV,J.rl,J.uY];grind
   · exact ui
  obtain⟨fl,y,aA,ay⟩:=Fv LC cM (dq ot) ot (Nat.le_refl _) g3 m hm v 0 bC (by decide) aC i0
  have ct:aP.storeCells ((lE.push (.cells [.dh (h.n+3)] 89 .own 0 0)).push (.cells [.fR] 89 .own 0 0)) (h.n+5) 0 [.fn 58 [] [.ptr (h.n+4) 0,.ptr (h.n+5) 0]]=some bC:=
   Bi (x:=.fR) rfl (by rw[J.gp];exact if_pos rfl)
  have iw:bC.get (h.n+1)=some (.cells [v] 35 .own 0 0):=by
   simp only[bC,lE,ad,ab,J.gp,J.cV,J.rl,J.uY];grind
  have UZ:=UF (Y m) (h.n+3) (h.n+1) v (.bool fl) lE bC y ct (nL i0.v9) (nL iw) aA
  have me:Y (m+1) (.fn 57) [.dh (h.n+3),.ptr (h.n+1) 0] lE=.ret (.aQ []) y:=
   eR (intr:=b0) (n:=m) (args:=[.dh (h.n+3),.ptr (h.n+1) 0]) Tryz.func57 (by kernel_rfl) rfl (by kernel_rfl) UZ (.inr rfl) (by kernel_rfl)
  have fin:∀(j:Nat) (z:J),j=min (dq ot) 61->z.get h.n=some (.cells [.int .i64 (Int.ofNat j)] 3 .own 0 0)->z.get (h.n+2)=some (.defrd (some []))->Ext h.n h z->
    WF Tryz.prog Tryz.f16 none (Y (m+1)) [1,1,1] (λe r d q an=>∃lA,pg Tryz.prog (Y (m+1)) Tryz.f16 (.ok e r d q an)=.ret (.int .i64 (Int.ofNat (min (dq ot) 61))) lA/\Ext h.n h lA) ec [.collected (h.n+2)] .none z:=λj z aJ a2 qn U0=>by
   refine W.of (UC (Y (m+1)) h.n j (h.n+2) _ (nL a2)) LC λfb U1=>?_
   subst aJ
   exact⟨_,UW (min (dq ot) 61) h.n fb _ _ U1 qn,U0.iX (by omega)⟩
  rcases ay with⟨rfl,bw,eh⟩|⟨rfl,bw,eh⟩
  · have ue:nn (h.n+3) ec [.collected (h.n+2)] .none (.ret (.aQ []) y)=.ok .nrm ec [.collected (h.n+2)] .none (y.set (h.n+3) (some (v7 .exhausted none ec h.n))):=by
      simp only[nn,eh.v8]
    refine⟨.nrm,_,(congrArg (nn (h.n+3) ec [.collected (h.n+2)] .none) me).trans ue,.inr ⟨by simp,.inl ⟨rfl,?_⟩⟩⟩
    exact fin (0+dq ot) _ (by omega) (by rw[J.cV,if_neg (by omega)];exact eh.yV) (by rw[J.cV,if_neg (by omega)];exact eh.ll) (eh.ext.iX (by omega))
  · have ue:nn (h.n+3) ec [.collected (h.n+2)] .none (.ret (.aQ []) y)=.ok (.exit 0) ec [.collected (h.n+2)] .none (y.set (h.n+3) (some (v7 .exhausted (some (.exit 0)) ec h.n))):=by
      simp only[nn,eh.v8]
    refine⟨.exit 0,_,(congrArg (nn (h.n+3) ec [.collected (h.n+2)] .none) me).trans ue,.inl ⟨rfl,.inl ⟨rfl,?_⟩⟩⟩
    exact fin 61 _ (by omega) (by rw[J.cV,if_neg (by omega)];exact eh.yV) (by rw[J.cV,if_neg (by omega)];exact eh.ll) (eh.ext.iX (by omega))
 obtain⟨e,r,d,q,an,cN,lA,cK,iK⟩:=w
 exact⟨lA,S7 (intr:=b0) (n:=m+1) (args:=[v]) Tryz.func16 (by kernel_rfl) rfl (by kernel_rfl) ⟨e,r,d,q,an,cN,cK⟩,iK⟩
end Go.Proofs.cG
namespace Go.Proofs.cG
open Go aP Go.Proofs c8
set_option maxRecDepth 100000
set_option maxHeartbeats 1000000
theorem Fx{a b:Nat}(h:a≠b):(!a_ (Int.ofNat a) (Int.ofNat b))=true:=by
 rw[jw h];rfl
theorem BG{a b:Nat}(h:a=b):(!a_ (Int.ofNat a) (Int.ofNat b))=false:=by
 rw[mU h];rfl
theorem db.strs{B:Nat}{h:J}{v:I}{us:List a5}(hs:db B h v (us.map .str)):(v=.a0/\us=[])\/∃b off cp,v=.slice b off us.length cp/\b<B/\∀i (af:i<us.length),au h b (off+i*1)=some (.str us[i]):=by
 rcases hs with⟨ab,ad⟩|⟨b,off,cp,ab,ad,ar,_⟩
 · exact .inl ⟨ab,by simpa using ad⟩
 · refine .inr ⟨b,off,cp,by simpa using ab,ad,λi af=>?_⟩
   have:=ar i (by simpa using af)
   simpa using this
theorem nV{B b i:Nat}{h x:J}(e:Ext B h x)(ae:b<B):au x b i=au h b i:=by
 unfold au;rw[e.get b ae]
end Go.Proofs.cG
namespace Go.Proofs.cG
open Go aP Go.Proofs c8
set_option maxRecDepth 100000
set_option maxHeartbeats 1000000
end Go.Proofs.cG
namespace Go.Proofs.cG
open Go aP Go.Proofs c8
set_option maxRecDepth 100000
set_option maxHeartbeats 1000000
end Go.Proofs.cG
namespace Go.Proofs.cG
open Go aP Go.Proofs c8
set_option maxRecDepth 100000
set_option maxHeartbeats 1000000
theorem db.v_{B:Nat}{h g:J}{v:I}{us:List a5}(hs:db B h v (us.map .str)):cc Tryz.prog g 63 v=some (.int .i64 (Int.ofNat us.length)):=by
 have:=db.len (g:=g) (t:=63) (e:=9) (by kernel_rfl) hs
 rwa [List.length_map] at this
theorem db.oJ{B:Nat}{h g:J}{v:I}{vs:List I}(hs:db B h v vs):cc Tryz.prog g 50 v=some (.int .i64 (Int.ofNat vs.length)):=db.len (e:=35) (by kernel_rfl) hs
end Go.Proofs.cG
namespace Go.Proofs.cG
open Go aP Go.Proofs c8
set_option maxRecDepth 100000
set_option maxHeartbeats 1000000
theorem U2{ot:Option aE}{B:Nat}{h:J}{v:I}{m:Nat}(ae:dq ot<=90000)(hm:dq ot<m)(aC:ez B h ot v):Y (m+1) (.fn 52) [v] h=.ret (.int .i64 (Int.ofNat (min (dq ot) 61))) h:=by
 cases ot with
 |none=>
  obtain rfl:v=.bb:=aC
  obtain⟨m,rfl⟩:∃j,m=j+1:=⟨m-1,by omega⟩
  exact eR (intr:=b0) (n:=m+1) (args:=[.bb]) Tryz.func52 (by kernel_rfl) rfl (by kernel_rfl) (Lu (Y (m+1)) _ .bb h h (Lw m 0 h)) (.inl rfl) (by kernel_rfl)
 |some t=>
  rw[ld] at ae hm⊢
  exact Lx ae hm aC
end Go.Proofs.cG
