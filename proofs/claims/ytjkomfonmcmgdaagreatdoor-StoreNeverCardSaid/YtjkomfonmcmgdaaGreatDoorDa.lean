/-
  PROVED HERE: contracts of functions (Da). No condition beside each statement's own.
-/
import Derived.Test.YtjkomfonmcmgdaaGreatDoorTx
import Derived.Test.YtjkomfonmcmgdaaGreatDoorAx
import Derived.Test.YtjkomfonmcmgdaaGreatDoorProg
import Derived.Test.YtjkomfonmcmgdaaGreatDoorSxa
set_option linter.unusedVariables false
set_option linter.unusedSimpArgs false
namespace Go.Proofs.dj
open Go aM Go.Proofs
set_option maxRecDepth 100000
set_option maxHeartbeats 1000000
theorem Ta(call:aI->List I->J->av)(c:Nat)(m:Nat)(h:J){Q:bn->ah->Prop}(H:∃aD:Nat,au h c 0=some (.ptr aD 0)/\au h aD (0+3)=some (.map m)/\∃bm:Nat,∃aj:J,Ay h (.map m)=some (.ptr bm 0,aj)/\Q .nrm (ah.mk [(0,.ptr c 0),(1,.int .u64 (.ofNat 0)),(8,.ptr bm 0)] [] .none aj)):
  a4 Tryz.prog Tryz.f40 call [1,0,0] ⟨[(0,.ptr c 0),(1,.int .u64 (.ofNat 0))],[],.none,h⟩ Q:=
 dI [(7,.bC (.is (.map m))),(8,.bC .p)] [0,1,8] [(0,.v (.ptr c 0)),(1,.v (.int .u64 (.ofNat 0)))] rfl (Eq.mp (by kernel_rfl) H)
theorem Tb(call:aI->List I->J->av)(c:Nat)(h:J){Q:bn->ah->Prop}(H:Q .nrm (ah.mk [(0,.ptr c 0),(1,.int .u64 (.ofNat 0))] [] .none h)):
  a4 Tryz.prog Tryz.f40 call [0] ⟨[(0,.ptr c 0)],[],.none,h⟩ Q:=
 dI [] [0,1] [(0,.v (.ptr c 0))] rfl (Eq.mp (by kernel_rfl) H)
theorem vq(call:aI->List I->J->av)(c:Nat)(b:Nat)(it:Nat)(x:Bool)(h:J){Q:bn->ah->Prop}(H:(x=true->∃aD:Nat,∃bm:Nat,sq h (.ptr it 0)=some (.aP [.int .u64 (.ofNat aD),.ptr bm 0])/\∃bG:Nat,au (h.room 32) bm (0+7)=some (.int .i64 (.ofNat bG))/\(bG=0->∃bV:Nat,au (h.room 32) bm (0+8)=some (.int .i64 (.ofNat bV))/\(bV=0->(b=0->Q .nrm (ah.mk [(0,.ptr c 0),(1,.int .u64 (.ofNat aD)),(8,.ptr it 0)] [] .none (h.room 32)))/\(¬b=0->∃cc:Nat,au (h.room 32) bm (0+9)=some (.int .u64 (.ofNat cc))/\∃cI:Nat,au (h.room 32) c 0=some (.ptr cI 0)/\∃v1:I,au (h.room 32) cI (0+3)=some v1/\∃dr:Nat,h9 Tryz.prog (h.room 32) 55 v1 (.int .u64 (.ofNat b)) false=some (.ptr dr 0)/\∃en:Nat,au (h.room 32) dr (0+9)=some (.int .u64 (.ofNat en))/\I.sound v1=true/\(cc<en->Q .nrm (ah.mk [(0,.ptr c 0),(1,.int .u64 (.ofNat aD)),(8,.ptr it 0)] [] .none (h.room 32)))/\(¬cc<en->Q .nrm (ah.mk [(0,.ptr c 0),(1,.int .u64 (.ofNat b)),(8,.ptr it 0)] [] .none (h.room 32)))))/\(¬bV=0->Q .nrm (ah.mk [(0,.ptr c 0),(1,.int .u64 (.ofNat b)),(8,.ptr it 0)] [] .none (h.room 32))))/\(¬bG=0->Q .nrm (ah.mk [(0,.ptr c 0),(1,.int .u64 (.ofNat b)),(8,.ptr it 0)] [] .none (h.room 32))))/\(x=false->Q (.exit 0) (ah.mk [(0,.ptr c 0),(1,.int .u64 (.ofNat b)),(8,.ptr it 0)] [] .none h))):
  a4 Tryz.prog Tryz.f40 call [1,0,1,0,0,1] ⟨[(0,.ptr c 0),(1,.int .u64 (.ofNat b)),(8,.ptr it 0),(10,.bool x)],[],.none,h⟩ Q:=
 dI [(11,.bC (.fG [.n .u64,.p]))] [0,1,8] [(0,.v (.ptr c 0)),(1,.v (.int .u64 (.ofNat b))),(8,.v (.ptr it 0)),(10,.v (.bool x))] rfl (Eq.mp (by kernel_rfl) H)
theorem Tc(call:aI->List I->J->av)(b:Nat)(h:J){Q:bn->ah->Prop}(H:Q .ret (ah.mk [(1,.int .u64 (.ofNat b))] [] .none h)):
  a4 Tryz.prog Tryz.f40 call [1,1] ⟨[(1,.int .u64 (.ofNat b))],[],.none,h⟩ Q:=
 dI [] [1] [(1,.v (.int .u64 (.ofNat b)))] rfl (Eq.mp (by kernel_rfl) H)
theorem a4.run{P:Program}{fn:Func}{call:aI->List I->J->av}{p:List Nat}{st s:ah}{e:bn}(h:a4 P fn call p st λcH bg=>cH=e/\bg=s):aH P fn none call p st e s:=by
 obtain⟨cH,bg,r,rfl,rfl⟩:=h;exact r
structure dT where
 id:Nat
 b:Nat
 pins:Nat
 held:Nat
 used:Nat
 born:Nat
def dT.loose(d:dT):Bool:=Nat.beq d.pins 0&&Nat.beq d.held 0
def rO(h:J)(e:dK):Option dT:=match e.key,e.val with
 |.int .u64 (.ofNat id),.ptr b 0=>match au h b 7,au h b 8,au h b 9 with
  |some (.int .i64 (.ofNat p)),some (.int .i64 (.ofNat q)),some (.int .u64 (.ofNat u))=>some ⟨id,b,p,q,u,e.born⟩
  |_,_,_=>none
 |_,_=>none
theorem tD{h:J}{e:dK}{d:dT}(ao:rO h e=some d):e.key=.int .u64 (Int.ofNat d.id)/\e.val=.ptr d.b 0/\au h d.b 7=some (.int .i64 (Int.ofNat d.pins))/\au h d.b 8=some (.int .i64 (Int.ofNat d.held))/\au h d.b 9=some (.int .u64 (Int.ofNat d.used))/\e.born=d.born:=by
 unfold rO at ao
 split at ao
 · rename_i id b ab ad
   split at ao
   · rename_i p q u ar aJ bO
     cases ao
     exact⟨ab,ad,ar,aJ,bO,rfl⟩
   · cases ao
 · cases ao
def tE(h:J):List dK->Option (List dT)
 |[]=>some []
 |e::es=>match rO h e with
  |some d=>match tE h es with
   |some l=>some (d::l)
   |none=>none
  |none=>none
inductive pq(h:J):List dK->List dT->Prop where
 |nil:pq h [] []
 |cons {e es d l}:rO h e=some d->pq h es l->pq h (e::es) (d::l)
theorem Kt{h:J}:∀{es:List dK} {l:List dT},tE h es=some l->pq h es l
 |[],l,aw=>by cases aw;exact .nil
 |e::es,l,aw=>by
  unfold tE at aw
  split at aw
  · rename_i d ao
    split at aw
    · rename_i nZ pZ
      cases aw
      exact .cons ao (Kt pZ)
    · cases aw
  · cases aw
theorem pq.et{h:J}{es:List dK}{l:List dT}(aw:pq h es l):∀e∈es,∃d∈l,rO h e=some d:=by
 induction aw with
 |nil=>intro e he;cases he
 |cons ab ad a6=>
  intro e he
  rcases List.mem_cons.1 he with rfl|he
  · exact⟨_,by simp,ab⟩
  · obtain⟨d,ar,aJ⟩:=a6 e he;exact⟨d,by simp[ar],aJ⟩
theorem pq.Ku{h:J}{es:List dK}{l:List dT}(aw:pq h es l):∀d∈l,∃e∈es,rO h e=some d:=by
 induction aw with
 |nil=>intro e he;cases he
 |cons ab ad a6=>
  intro e he
  rcases List.mem_cons.1 he with rfl|he
  · exact⟨_,by simp,ab⟩
  · obtain⟨d,ar,aJ⟩:=a6 e he;exact⟨d,by simp[ar],aJ⟩
def lY:List Nat->Bool
 |[]=>true
 |a::l=>match l.any λx=>Nat.beq a x with
  |true=>false
  |false=>lY l
theorem yf{α:Type}(f:α->Nat):∀(l:List α),lY (l.map f)=true->∀a∈l,∀b∈l,f a=f b->a=b
 |[],_,a,aS,_,_,_=>by cases aS
 |x::l,h,a,aS,b,ae,e=>by
  simp only[List.map_cons,lY] at h
  split at h
  · cases h
  · rename_i ab
    have aa:∀y∈l,f x≠f y:=λy aW e=>by
     have:((l.map f).any λz=>Nat.beq (f x) z)=true:=List.any_eq_true.2 ⟨f y,List.mem_map.2 ⟨y,aW,rfl⟩,by rw[e];exact Nat.beq_refl _⟩
     rw[this] at ab;cases ab
    rcases List.mem_cons.1 aS with hb|A5<;>rcases List.mem_cons.1 ae with nA|jZ
    · rw[hb,nA]
    · rw[hb] at e;exact absurd e (aa b jZ)
    · rw[nA] at e;exact absurd e.symm (aa a A5)
    · exact yf f l h a A5 b jZ e
def tF(l:List dT)(clock:Nat):Bool:=lY (l.map dT.born)&&(lY (l.map dT.id)&&(lY ((l.filter dT.loose).map dT.used)&&(l.all λd=>Nat.blt d.born clock&&Nat.blt 0 d.id)))
def nB:List dT->Option dT
 |[]=>none
 |d::l=>match d.loose with
  |true=>match nB l with
   |none=>some d
   |some x=>match Nat.blt x.used d.used with
    |true=>some x
    |false=>some d
  |false=>nB l
def EO:Option dT->Nat
 |some d=>d.id
 |none=>0
theorem A9:∀{l:List dT},nB l=none->∀d∈l,d.loose=false
 |[],_,d,ao=>by cases ao
 |x::l,h,d,ao=>by
  unfold nB at h
  split at h
  · split at h
    · cases h
    · split at h<;>cases h
  · rename_i aa
    rcases List.mem_cons.1 ao with rfl|ao
    · exact aa
    · exact A9 h d ao
theorem yg:∀{l:List dT} {m:dT},nB l=some m->m∈l/\m.loose=true/\∀d∈l,d.loose=true->m.used<=d.used
 |[],m,h=>by cases h
 |x::l,m,h=>by
  unfold nB at h
  split at h
  · rename_i aa
    split at h
    · rename_i aK
      cases h
      refine⟨by simp,aa,λd ao aw=>?_⟩
      rcases List.mem_cons.1 ao with rfl|ao
      · exact Nat.le_refl _
      · have:=A9 aK d ao;rw[aw] at this;cases this
    · rename_i y aW
      obtain⟨ab,ad,ar⟩:=yg aW
      split at h
      · rename_i b8
        cases h
        rw[Nat.blt_eq] at b8
        refine⟨by simp[ab],ad,λd ao aw=>?_⟩
        rcases List.mem_cons.1 ao with rfl|ao
        · omega
        · exact ar d ao aw
      · rename_i b8
        cases h
        have b8:¬y.used<x.used:=λe=>by rw[<-Nat.blt_eq] at e;rw[e] at b8;cases b8
        refine⟨by simp,aa,λd ao aw=>?_⟩
        rcases List.mem_cons.1 ao with rfl|ao
        · exact Nat.le_refl _
        · have:=ar d ao aw;omega
  · rename_i aa
    obtain⟨ab,ad,ar⟩:=yg h
    refine⟨by simp[ab],ad,λd ao aw=>?_⟩
    rcases List.mem_cons.1 ao with rfl|ao
    · rw[aw] at aa;cases aa
    · exact ar d ao aw
def ln(l:List dT)(S:List Nat)(b:Nat):Prop:=
 (b=0/\∀d∈l,d.born∈S->d.loose=false)\/∃m∈l,m.born∈S/\m.loose=true/\b=m.id/\∀d∈l,d.born∈S->d.loose=true->m.used<=d.used
theorem ln.fin{l:List dT}{clock:Nat}(aq:tF l clock=true){S:List Nat}{b:Nat}(ae:ln l S b)(ib:∀d∈l,d.born∈S):b=EO (nB l):=by
 simp only[tF,Bool.and_eq_true] at aq
 obtain⟨_,_,hu,_⟩:=aq
 cases hm:nB l with
 |none=>
  have:=A9 hm
  rcases ae with⟨rfl,_⟩|⟨m,ab,_,ad,_⟩
  · rfl
  · rw[this m ab] at ad;cases ad
 |some x=>
  obtain⟨ab,ad,ar⟩:=yg hm
  rcases ae with⟨rfl,aJ⟩|⟨m,a3,_,bS,rfl,nC⟩
  · rw[aJ x ab (ib x ab)] at ad;cases ad
  · have aA:=ar m a3 bS
    have ay:=nC x ab (ib x ab) ad
    have:=yf dT.used (l.filter dT.loose) hu m (List.mem_filter.2 ⟨a3,bS⟩) x (List.mem_filter.2 ⟨ab,ad⟩) (by omega)
    rw[this];rfl
def rP(l:List dT)(S:List Nat):Nat:=(l.filter λd=>!S.contains d.born).length
theorem Td{l:List dT}(ao:lY (l.map dT.born)=true){S:List Nat}{d:dT}(hm:d∈l)(hs:d.born∉S):rP l (S++[d.born])+1=rP l S:=by
 unfold rP
 have zT:∀a∈l,∀b∈l,a.born=b.born->a=b:=yf dT.born l ao
 have key:∀(l:List dT),lY (l.map dT.born)=true->d∈l->(l.filter λx=>!(S++[d.born]).contains x.born).length+1=(l.filter λx=>!S.contains x.born).length:=by
  intro l
  induction l with
  |nil=>intro _ h;cases h
  |cons x l a6=>
   intro ao hm
   have Ks:=ao
   simp only[List.map_cons,lY] at ao
   split at ao
   · cases ao
   · rename_i ab
     by_cases aa:x.born=d.born
     · have m6:∀y∈l,¬y.born=d.born:=λy aW e=>by
         have:((l.map dT.born).any λz=>Nat.beq x.born z)=true:=List.any_eq_true.2 ⟨y.born,List.mem_map.2 ⟨y,aW,rfl⟩,by rw[aa,e];exact Nat.beq_refl _⟩
         rw[this] at ab;cases ab
       have aA:(l.filter λx=>!(S++[d.born]).contains x.born)=l.filter λx=>!S.contains x.born:=by
        apply List.filter_congr
        intro y aW
        have:=m6 y aW
        simp[this]
       have ay:(!(S++[d.born]).contains x.born)=false:=by simp[aa]
       have bx:(!S.contains x.born)=true:=by rw[aa];simpa using hs
       rw[List.filter_cons,ay,List.filter_cons,bx]
       simp only[Bool.false_eq_true,if_false,if_true,List.length_cons]
       rw[aA]
     · have pY:d∈l:=by
         rcases List.mem_cons.1 hm with rfl|h
         · exact absurd rfl aa
         · exact h
       have DI:=a6 ao pY
       have ay:(!(S++[d.born]).contains x.born)=(!S.contains x.born):=by simp[aa]
       rw[List.filter_cons,List.filter_cons,ay]
       cases ag:(!S.contains x.born) with
       |true=>simp only[if_true,List.length_cons];omega
       |false=>simp only[Bool.false_eq_true,if_false];exact DI
 exact key l ao hm
theorem Te{h0:J}{h:J}{kt:TypeId}{x:dT}:∀{es:List dK} {l:List dT},pq h es l->(∀a∈l,∀b∈l,a.id=b.id->a=b)->x∈l->∀i,∃j,jo Tryz.prog h0 kt (.int .u64 (Int.ofNat x.id)) es i=some (some (j,.ptr x.b 0)):=by
 intro es l aw
 induction aw with
 |nil=>intro _ aa;cases aa
 |@cons e es d l ab ad a6=>
  intro iB aa i
  obtain⟨bE,b0,_⟩:=tD ab
  simp only[jo,oK,bE,oJ,if_true]
  by_cases EP:x.id=d.id
  · have:x=d:=iB x aa d (by simp) EP
    subst this
    have:a8 (Int.ofNat x.id) (Int.ofNat x.id)=true:=mB rfl
    rw[this]
    exact⟨i,by rw[b0]⟩
  · have:a8 (Int.ofNat x.id) (Int.ofNat d.id)=false:=ji EP
    rw[this]
    have jP:x∈l:=by
     rcases List.mem_cons.1 aa with rfl|h
     · exact absurd rfl EP
     · exact h
    exact a6 (λa aS b ae=>iB a (by simp[aS]) b (by simp[ae])) jP (i+1)
theorem Kv{b:Nat}:∀{es:List dK} {e:dK},e∈es->(∀x∈es,x.born=e.born->x=e)->e.born=b->so b es=some e
 |[],e,he,_,_=>by cases he
 |x::es,e,he,hu,ae=>by
  unfold so
  by_cases aa:x.born=b
  · have:Nat.beq x.born b=true:=by rw[aa];exact Nat.beq_refl _
    rw[this]
    rw[hu x (by simp) (aa.trans ae.symm)]
  · have:Nat.beq x.born b=false:=by
      cases ag:Nat.beq x.born b with
      |false=>rfl
      |true=>exact absurd (Nat.eq_of_beq_eq_true ag) aa
    rw[this]
    rcases List.mem_cons.1 he with rfl|he
    · exact absurd ae aa
    · exact Kv he (λx aa=>hu x (by simp[aa])) ae
theorem Tf(l:List Nat)(b:Nat):wL (l++[b])=some b:=by rw[CV];simp
def vr(f:Nat)(args:List I)(h:J):Option (I×J):=match Nat.beq f 40,args with
 |true,[.ptr c 0]=>match au h c 0 with
  |some (.ptr st 0)=>match au h st 3 with
   |some (.map m)=>match h.get m with
    |some (.map es clock)=>match tE h es with
     |some l=>match tF l clock&&(Nat.blt c h.n&&(Nat.blt st h.n&&(Nat.blt m h.n&&(l.all λd=>Nat.blt d.b h.n)))) with
      |true=>some (.int .u64 (Int.ofNat (EO (nB l))),h.room (1+32*l.length))
      |false=>none
     |none=>none
    |_=>none
   |_=>none
  |_=>none
 |_,_=>none
theorem yh{S:List Nat}{x y:Nat}(h:x∈S++[y]):x∈S\/x=y:=by simpa using h
theorem ln.no{l:List dT}{S:List Nat}{b:Nat}{d:dT}(ae:ln l S b)(ao:d.loose=false)(hu:∀a∈l,a.born=d.born->a=d):ln l (S++[d.born]) b:=by
 rcases ae with⟨rfl,ab⟩|⟨m,ab,ad,ar,rfl,aJ⟩
 · refine .inl ⟨rfl,λa aS hs=>?_⟩
   rcases yh hs with h|h
   · exact ab a aS h
   · rw[hu a aS h];exact ao
 · refine .inr ⟨m,ab,by simp[ad],ar,rfl,λa aS hs aw=>?_⟩
   rcases yh hs with h|h
   · exact aJ a aS h aw
   · rw[hu a aS h,ao] at aw;cases aw
theorem ln.first{l:List dT}{S:List Nat}{d:dT}(ae:ln l S 0)(iB:∀a∈l,0<a.id)(hm:d∈l)(ao:d.loose=true)(hu:∀a∈l,a.born=d.born->a=d):ln l (S++[d.born]) d.id:=by
 rcases ae with⟨_,ab⟩|⟨m,ab,ad,ar,h0,aJ⟩
 · refine .inr ⟨d,hm,by simp,ao,rfl,λa aS hs aw=>?_⟩
   rcases yh hs with h|h
   · rw[ab a aS h] at aw;cases aw
   · rw[hu a aS h];exact Nat.le_refl _
 · have:=iB m ab;omega
theorem ln.cmp{l:List dT}{S:List Nat}{b:Nat}(ae:ln l S b)(h0:¬b=0):∃m∈l,b=m.id/\∀d∈l,d.loose=true->(∀a∈l,a.born=d.born->a=d)->(d.used<m.used->ln l (S++[d.born]) d.id)/\(¬d.used<m.used->ln l (S++[d.born]) b):=by
 rcases ae with⟨h,_⟩|⟨m,ab,ad,ar,rfl,aJ⟩
 · exact absurd h h0
 · refine⟨m,ab,rfl,λd hm ao hu=>⟨λb8=>?_,λb8=>?_⟩⟩
   · refine .inr ⟨d,hm,by simp,ao,rfl,λa aS hs aw=>?_⟩
     rcases yh hs with h|h
     · have:=aJ a aS h aw;omega
     · rw[hu a aS h];exact Nat.le_refl _
   · refine .inr ⟨m,ab,by simp[ad],ar,rfl,λa aS hs aw=>?_⟩
     rcases yh hs with h|h
     · exact aJ a aS h aw
     · rw[hu a aS h];omega
abbrev rQ(c b it:Nat):Env:=[(0,.ptr c 0),(1,.int .u64 (Int.ofNat b)),(8,.ptr it 0)]
structure yi(h:J)(m clock:Nat)(S:List Nat)(g:J):Prop where
 n:g.n=h.n+(1+32*S.length)
 low:∀b,b<h.n->g.get b=h.get b
 it:g.get h.n=some (.mapIter (some m) clock S clock)
theorem Tg{h g:J}{b off:Nat}(e:g.get b=h.get b):au g b off=au h b off:=by unfold au;rw[e]
structure Kw(h:J)(c st m clock:Nat)(es:List dK)(l:List dT):Prop where
 ag:au h c 0=some (.ptr st 0)
 ch:au h st 3=some (.map m)
 hm:h.get m=some (.map es clock)
 g4:pq h es l
 ok:tF l clock=true
 Th:c<h.n
 Ti:st<h.n
 lK:m<h.n
 Kx:∀d∈l,d.b<h.n
def A_(h:J)(c m clock:Nat)(l:List dT)(n:Nat)(s:ah):Prop:=∃S b g,s=⟨rQ c b h.n,[],.none,g⟩/\yi h m clock S g/\ln l S b/\rP l S=n/\S.length+n=l.length
def vt(h:J)(m clock:Nat)(l:List dT)(e:bn)(s:ah):Prop:=e=.exit 0/\∃b g S,s=⟨[(1,.int .u64 (Int.ofNat b))],[],.none,g⟩/\yi h m clock S g/\ln l S b/\S.length=l.length/\∀d∈l,d.born∈S
theorem Tj{ky:aI->List I->J->av}(lZ:jc Tryz.prog ky)(hdr:∀need bP,mq Tryz.prog need bP ky){h:J}{c st m clock:Nat}{es:List dK}{l:List dT}(w:Kw h c st m clock es l)(n:Nat)(s:ah)(hs:A_ h c m clock l n s):
  fW Tryz.prog Tryz.f40 none [1,0,1,0,0] s (EN (A_ h c m clock l) n (vt h m clock l)):=by
 obtain⟨S,b,g,rfl,al,ae,ER,acB⟩:=hs
 have Ky:=w.ok
 simp only[tF,Bool.and_eq_true] at Ky
 obtain⟨yj,Tk,acC,eg⟩:=Ky
 have Kz:∀d∈l,d.born<clock/\0<d.id:=λd ao=>by
  have:=List.all_eq_true.1 eg d ao
  simpa using this
 have Tl:=yf dT.id l Tk
 have KA:=yf dT.born l yj
 have Tm:∀x∈es,∀e∈es,x.born=e.born->x=e:=by
  intro x aa e he ae
  obtain⟨Tn,To,Tp⟩:=w.g4.et x aa
  obtain⟨ES,Tq,Tr⟩:=w.g4.et e he
  obtain⟨cw,c2,_,_,_,dm⟩:=tD Tp
  obtain⟨bt,bH,_,_,_,ej⟩:=tD Tr
  have:=KA Tn To ES Tq (by omega)
  subst this
  obtain⟨bE,v1,cK⟩:=x
  obtain⟨b0,v2,cG⟩:=e
  simp only at cw c2 dm bt bH ej
  rw[cw,c2,dm,bt,bH,ej]
 have KB:¬m=h.n:=by have:=w.lK;omega
 have xi:g.get m=some (.map es clock):=(al.low m w.lK).trans w.hm
 refine fW.seq (p:=[1,0,1,0,0]) (R1:=λe s=>e=.nrm/\((s=⟨put 10 (.bool false) (rQ c b h.n),[],.none,g⟩/\∀e∈es,e.born∈S)\/∃e∈es,e.born∉S/\s=⟨put 10 (.bool true) (rQ c b h.n),[],.none,g.set h.n (some (.mapIter (some m) clock (S++[e.born]) clock))⟩)) (by kernel_rfl)
  (fW.next lZ (p:=[1,0,1,0,0,0]) (it:=8) (a:=9) (t:=10) (by kernel_rfl) (by kernel_rfl) (by kernel_rfl) (by kernel_rfl) (by kernel_rfl) rfl al.it xi (λe he=>by
   obtain⟨d,d1,d2⟩:=w.g4.et e he
   obtain⟨_,_,_,_,_,dm⟩:=tD d2
   have:=(Kz d d1).1;omega) (Nat.le_refl _) (λeg=>⟨rfl,.inl ⟨rfl,eg⟩⟩) λe he iz=>⟨rfl,.inr ⟨e,he,iz,rfl⟩⟩) (λbg ab=>?_) λe bg he ab=>absurd ab.1 he
 obtain⟨_,⟨rfl,ib⟩|⟨e,he,iz,rfl⟩⟩:=ab
 · have KC:∀d∈l,d.born∈S:=λd ao=>by
     obtain⟨e,he,Ab⟩:=w.g4.Ku d ao
     obtain⟨_,_,_,_,_,dm⟩:=tD Ab
     rw[<-dm];exact ib e he
   have h0:rP l S=0:=by
    unfold rP
    rw[List.length_eq_zero_iff,List.filter_eq_nil_iff]
    intro d ao
    simpa using KC d ao
   have rx:aH Tryz.prog Tryz.f40 none ky [1,0,1,0,0,1] ⟨[(0,.ptr c 0),(1,.int .u64 (Int.ofNat b)),(8,.ptr h.n 0),(10,.bool false)],[],.none,g⟩ (.exit 0) ⟨rQ c b h.n,[],.none,g⟩:=a4.run (vq ky c b h.n false g ⟨λh=>(by cases h),λ_=>⟨rfl,rfl⟩⟩)
   have Ts:aH Tryz.prog Tryz.f40 none ky [1,0,1,0,0,1] ⟨[(0,.ptr c 0),(1,.int .u64 (Int.ofNat b)),(8,.ptr h.n 0),(10,.bool false)],[],.none,g⟩ (.exit 0) ⟨[(1,.int .u64 (Int.ofNat b))],[],.none,g⟩:=cZ.post rx ⟨rfl,trivial⟩
   exact fW.pre (fW.of_run lZ hdr (by kernel_rfl) Ts (.inr ⟨by simp,rfl,b,g,S,rfl,al,ae,by omega,KC⟩)) ⟨rfl,rfl,rfl,rfl,trivial⟩ rfl rfl rfl
 · obtain⟨d,d1,d2⟩:=w.g4.et e he
   obtain⟨cw,c2,dm,e4,eX,qo⟩:=tD d2
   have vu:=w.Kx d d1
   obtain⟨aj,dV⟩:∃aj,aj=g.set h.n (some (.mapIter (some m) clock (S++[e.born]) clock)):=⟨_,rfl⟩
   rw[<-dV]
   have ET:∀b,b<h.n->aj.get b=h.get b:=λb ae=>by rw[dV,J.cR,if_neg (by omega)];exact al.low b ae
   have KD:aj.get h.n=some (.mapIter (some m) clock (S++[e.born]) clock):=by rw[dV];exact gI rfl
   have Aj:aj.get m=some (.map es clock):=(ET m w.lK).trans w.hm
   have et:sq aj (.ptr h.n 0)=some (.aP [.int .u64 (Int.ofNat d.id),.ptr d.b 0]):=by
    have CW:=Kv he (λx aa ae=>Tm x aa e he ae) rfl
    unfold sq
    simp only[KD,Aj,Tf,CW,cw,c2]
    rw[Nat.beq_refl]
   have aD:aj.n=g.n:=by rw[dV];rfl
   have eA:d.born∉S:=by rw[<-qo];exact iz
   have ik:=Td yj d1 eA
   have rR:yi h m clock (S++[d.born]) (aj.room 32):=⟨by rw[J.Jl,aD,al.n,List.length_append];simp;omega,ET,by rw[J.R5,KD,qo]⟩
   have Ba:∀a∈l,a.born=d.born->a=d:=λa aS e=>KA a aS d d1 e
   have vw:∀(b off:Nat) (v:I),b<h.n->au h b off=some v->au (aj.room 32) b off=some v:=λb off v ae aB=>(Tg (ET b ae)).trans aB
   have yk:=vw d.b 7 _ vu dm
   have Bb:=vw d.b 8 _ vu e4
   have KE:=vw d.b 9 _ vu eX
   have KF:=vw c 0 _ w.Th w.ag
   have KG:=vw st 3 _ w.Ti w.ch
   have fin:∀hK,ln l (S++[d.born]) hK->aH Tryz.prog Tryz.f40 none ky [1,0,1,0,0,1] ⟨[(0,.ptr c 0),(1,.int .u64 (Int.ofNat b)),(8,.ptr h.n 0),(10,.bool true)],[],.none,aj⟩ .nrm ⟨rQ c hK h.n,[],.none,aj.room 32⟩->
     fW Tryz.prog Tryz.f40 none [1,0,1,0,0,1] ⟨put 10 (.bool true) (rQ c b h.n),[],.none,aj⟩ (EN (A_ h c m clock l) n (vt h m clock l)):=λhK jZ ak=>
    fW.pre (fW.of_run lZ hdr (by kernel_rfl) ak (.inl ⟨rfl,rP l (S++[d.born]),by omega,S++[d.born],hK,aj.room 32,rfl,rR,jZ,rfl,by rw[List.length_append];simp;omega⟩)) ⟨rfl,rfl,rfl,rfl,trivial⟩ rfl rfl rfl
   by_cases aO:d.pins=0
   · have EU:a8 (Int.ofNat d.pins) (Int.ofNat 0)=true:=mB aO
     by_cases aT:d.held=0
     · have EV:a8 (Int.ofNat d.held) (Int.ofNat 0)=true:=mB aT
       have vx:d.loose=true:=by unfold dT.loose;rw[aO,aT];rfl
       by_cases h0:b=0
       · have cA:a8 (Int.ofNat b) (Int.ofNat 0)=true:=mB h0
         exact fin d.id ((h0▸ae).first (λa aS=>(Kz a aS).2) d1 vx Ba) (a4.run (vq ky c b h.n true aj ⟨λ_=>⟨d.id,d.b,et,d.pins,yk,λ_=>⟨d.held,Bb,λ_=>⟨λ_=>⟨rfl,rfl⟩,λh=>absurd h0 h⟩,λh=>absurd aT h⟩,λh=>absurd aO h⟩,λh=>(by cases h)⟩))
       · have cA:a8 (Int.ofNat b) (Int.ofNat 0)=false:=ji h0
         obtain⟨x,bA,cX,dP⟩:=ae.cmp h0
         obtain⟨iE,pk⟩:=dP d d1 vx Ba
         obtain⟨ex,tG,Tt⟩:=w.g4.Ku x bA
         obtain⟨_,_,_,_,yl,_⟩:=tD Tt
         have KH:=vw x.b 9 _ (w.Kx x bA) yl
         have look:h9 Tryz.prog (aj.room 32) 55 (.map m) (.int .u64 (Int.ofNat b)) false=some (.ptr x.b 0):=by
          obtain⟨j,aL⟩:=Te (h0:=aj.room 32) (kt:=32) w.g4 Tl bA 0
          have hu:Tryz.prog.underlying 55=some (.map 32 59):=by kernel_rfl
          have aq:lB Tryz.prog 32 (.int .u64 (Int.ofNat b))=true:=by
           have oZ:Tryz.prog.underlying 32=some (.int .u64):=by kernel_rfl
           simp only[lB,nP,oZ]
          have Tu:(aj.room 32).get m=some (.map es clock):=Aj
          rw[cX] at aq⊢
          simp only[h9,hu,aq,Tu,aL,oL,Bool.false_eq_true,if_false]
         by_cases b8:d.used<x.used
         · have Tv:=dS b8
           exact fin d.id (iE b8) (a4.run (vq ky c b h.n true aj ⟨λ_=>⟨d.id,d.b,et,d.pins,yk,λ_=>⟨d.held,Bb,λ_=>⟨λh=>absurd h h0,λ_=>⟨d.used,KE,st,KF,_,KG,x.b,look,x.used,KH,rfl,λ_=>⟨rfl,rfl⟩,λh=>absurd b8 h⟩⟩,λh=>absurd aT h⟩,λh=>absurd aO h⟩,λh=>(by cases h)⟩))
         · have Tv:=eW b8
           exact fin b (pk b8) (a4.run (vq ky c b h.n true aj ⟨λ_=>⟨d.id,d.b,et,d.pins,yk,λ_=>⟨d.held,Bb,λ_=>⟨λh=>absurd h h0,λ_=>⟨d.used,KE,st,KF,_,KG,x.b,look,x.used,KH,rfl,λh=>absurd h b8,λ_=>⟨rfl,rfl⟩⟩⟩,λh=>absurd aT h⟩,λh=>absurd aO h⟩,λh=>(by cases h)⟩))
     · have EV:a8 (Int.ofNat d.held) (Int.ofNat 0)=false:=ji aT
       have vx:d.loose=false:=by
        unfold dT.loose
        cases ag:Nat.beq d.held 0 with
        |false=>simp
        |true=>exact absurd (Nat.eq_of_beq_eq_true ag) aT
       exact fin b (ae.no vx Ba) (a4.run (vq ky c b h.n true aj ⟨λ_=>⟨d.id,d.b,et,d.pins,yk,λ_=>⟨d.held,Bb,λh=>absurd h aT,λ_=>⟨rfl,rfl⟩⟩,λh=>absurd aO h⟩,λh=>(by cases h)⟩))
   · have EU:a8 (Int.ofNat d.pins) (Int.ofNat 0)=false:=ji aO
     have vx:d.loose=false:=by
      unfold dT.loose
      cases ag:Nat.beq d.pins 0 with
      |false=>simp
      |true=>exact absurd (Nat.eq_of_beq_eq_true ag) aO
     exact fin b (ae.no vx Ba) (a4.run (vq ky c b h.n true aj ⟨λ_=>⟨d.id,d.b,et,d.pins,yk,λh=>absurd h aO,λ_=>⟨rfl,rfl⟩⟩,λh=>(by cases h)⟩))
theorem KI(hf:Fit Tryz.prog):nk Tryz.prog vr:=by
 intro f args h v aV aa μ wd vs ai al aB
 unfold vr at aa
 split at aa
 · rename_i c Bc
   obtain rfl:=Nat.eq_of_beq_eq_true Bc
   split at aa
   · rename_i st ag
     split at aa
     · rename_i m ch
       split at aa
       · rename_i es clock hm
         split at aa
         · rename_i l aw
           split at aa
           · rename_i KJ
             cases aa
             simp only[Bool.and_eq_true,Nat.blt_eq] at KJ
             obtain⟨c9,p0,Tw,KB,w9⟩:=KJ
             have w:Kw h c st m clock es l:=⟨ag,ch,hm,Kt aw,c9,p0,Tw,KB,λd ao=>by
              have:=List.all_eq_true.1 w9 d ao
              simpa using this⟩
             have lZ:jc Tryz.prog (e6 Tryz.prog (λ_ _ _=>none) 0):=DK hf (Rh _) 0
             have hdr:∀need bP,mq Tryz.prog need bP (e6 Tryz.prog (λ_ _ _=>none) 0):=λneed bP=>I9 hf.mixed lZ need bP
             obtain⟨ky,Tx⟩:∃ky,ky=e6 Tryz.prog (λ_ _ _=>none) 0:=⟨_,rfl⟩
             rw[<-Tx] at lZ hdr
             have Ty:∀g,yi h m clock [] g->fW Tryz.prog Tryz.f40 none [1,0,1] ⟨rQ c 0 h.n,[],.none,g⟩ (λe s=>e=.nrm/\vt h m clock l (.exit 0) s):=λg al=>
              fW.block (p:=[1,0,1]) (id:=0) (R1:=vt h m clock l) (by kernel_rfl)
               (fW.loop (p:=[1,0,1,0]) (A_ h c m clock l) (by kernel_rfl) (λn s hs=>Tj lZ hdr w n s hs) l.length ⟨[],0,g,rfl,al,.inl ⟨rfl,λd _ hs=>(by cases hs)⟩,by unfold rP;simp,by simp⟩)
               λe s hs=>by obtain⟨rfl,hs⟩:=hs;exact⟨rfl,rfl,hs⟩
             have ym:yi h m clock [] (h.push (.mapIter (some m) clock [] clock)):=⟨rfl,λb ae=>mC ae rfl,fj rfl⟩
             have Tz:=a4.run (Ta ky c m h ⟨st,ag,ch,h.n,(h.push (.mapIter (some m) clock [] clock)),by simp only[Ay,hm],rfl,rfl⟩)
             have uM:fW Tryz.prog Tryz.f40 none [] ⟨nq 0 [.ptr c 0],[],.none,h⟩ (λe s=>e=.ret/\vt h m clock l (.exit 0) s):=
              fW.seq (p:=[]) (R1:=λe s=>e=.nrm/\s=⟨[(0,.ptr c 0),(1,.int .u64 (Int.ofNat 0))],[],.none,h⟩) (by kernel_rfl) (fW.of_run lZ hdr (by kernel_rfl) (a4.run (Tb ky c h ⟨rfl,rfl⟩)) ⟨rfl,rfl⟩)
               (λs hs=>by
                obtain⟨_,rfl⟩:=hs
                refine fW.seq (p:=[1]) (R1:=λe s=>e=.nrm/\vt h m clock l (.exit 0) s) (by kernel_rfl)
                 (fW.seq (p:=[1,0]) (R1:=λe s=>e=.nrm/\s=⟨rQ c 0 h.n,[],.none,h.push (.mapIter (some m) clock [] clock)⟩) (by kernel_rfl) (fW.of_run lZ hdr (by kernel_rfl) Tz ⟨rfl,rfl⟩)
                  (λs hs=>by obtain⟨_,rfl⟩:=hs;exact Ty _ ym) λe s he hs=>absurd hs.1 he)
                 (λs hs=>?_) λe s he hs=>absurd hs.1 he
                obtain⟨_,ab⟩:=hs
                obtain⟨_,b,g,S,rfl,ad⟩:=ab
                exact fW.of_run lZ hdr (by kernel_rfl) (a4.run (Tc ky b g ⟨rfl,rfl⟩)) ⟨rfl,rfl,b,g,S,rfl,ad⟩)
               λe s he hs=>absurd hs.1 he
             refine S6 (args:=[.ptr c 0]) lZ hdr hf.code Tryz.func40 (c:=e3 Tryz.f40) rfl (show 1<=Tryz.f40.ntmps from of_decide_eq_true (by kernel_rfl)) ?_ ai al aB
             have fw:=uM (m3 0 [.ptr c 0] .leaf) (AN _)
             refine iF.mono fw λe r' bf bj g ⟨cg,a3,he,_,b,gg,S,hs,mj,tH,hlen,ib⟩=>?_
             obtain⟨rfl,rfl,rfl,rfl⟩:cg=[(1,.int .u64 (Int.ofNat b))]/\bf=[]/\bj=.none/\g=gg:=by injection hs with ba a7 b5 gr;exact⟨ba,a7,b5,gr⟩
             have x1:=tH.fin c9 ib
             subst x1
             refine⟨.inr he,rfl,rfl,Eb a3 (by kernel_rfl),by rw[J.Jl,mj.n,hlen],λb=>?_⟩
             by_cases ae:b<h.n
             · exact .inl (mj.low b ae).symm
             · exact .inr ⟨ai.bound b (by omega),by omega⟩
           · cases aa
         · cases aa
       · cases aa
     · cases aa
   · cases aa
 · cases aa
end Go.Proofs.dj
namespace Go.Proofs.cF
open Go aM Go.Proofs
set_option maxRecDepth 100000
set_option maxHeartbeats 1000000
abbrev TA:Nat->List I->J->Option (I×J):=Go.Proofs.dj.vr
end Go.Proofs.cF
namespace c_
open aM
abbrev a5:=List UInt8
inductive aF where
 |mk (k:Nat) (nm:a5) (ns:List a5) (xs:List aF) (rt:Option aF)
def aF.k:aF->Nat|.mk k _ _ _ _=>k
def aF.nm:aF->a5|.mk _ nm _ _ _=>nm
def aF.xs:aF->List aF|.mk _ _ _ xs _=>xs
mutual
def sz:aF->Nat
 |.mk _ _ _ xs rt=>1+cY xs+dx rt
def cY:List aF->Nat
 |[]=>0
 |t::cv=>sz t+cY cv
def dx:Option aF->Nat
 |none=>0
 |some t=>sz t
end
def TB:List a5->List a5->Bool
 |[],[]=>true
 |x::xs,y::ys=>dF x y&&TB xs ys
 |_,_=>false
theorem mL(k:Nat)(nm:a5)(ns:List a5)(xs:List aF)(rt:Option aF):sz (.mk k nm ns xs rt)=1+cY xs+dx rt:=by rw[sz]
theorem l0(t:aF):dx (some t)=sz t:=by rw[dx]
theorem rS:∀t:aF,0<sz t
 |.mk _ _ _ _ _=>by unfold sz;omega
theorem oh{t:aF}:∀{l:List aF},t∈l->sz t<=cY l
 |[],h=>by cases h
 |x::l,h=>by
  unfold cY
  rcases List.mem_cons.1 h with rfl|h
  · omega
  · have:=oh h;omega
theorem nD:∀l:List aF,l.length<=cY l
 |[]=>Nat.le_refl _
 |x::l=>by
  have:=nD l
  have:=rS x
  unfold cY
  simp;omega
mutual
def k0:aF->Nat
 |.mk _ _ ns xs rt=>ns.length+pr xs+qu rt
def pr:List aF->Nat
 |[]=>0
 |t::cv=>k0 t+pr cv
def qu:Option aF->Nat
 |none=>0
 |some t=>k0 t
end
theorem EW{t:aF}:∀{l:List aF},t∈l->k0 t<=pr l
 |[],h=>by cases h
 |x::l,h=>by
  rw[pr]
  rcases List.mem_cons.1 h with rfl|h
  · omega
  · have:=EW h;omega
def hi(n:Nat):Bool:=(decide (97<=n)&&decide (n<=122))||((decide (65<=n)&&decide (n<=90))||decide (n=95))
def iU(n:Nat):Bool:=decide (48<=n)&&decide (n<=57)
def jQ(n:Nat):Bool:=hi n||iU n||decide (n=45)||decide (n=47)||decide (n=46)
def EX:a5->Bool
 |[]=>false
 |c::_=>hi c.toNat
def hP(s:a5):Bool:=decide (1<=s.length)&&decide (s.length<=24)&&EX s&&s.all (λc=>hi c.toNat||iU c.toNat)
def lo(s:a5):Bool:=decide (1<=s.length)&&decide (s.length<=161)&&s.all (λc=>jQ c.toNat)
theorem yn(x y:UInt8)(a b:a5):dB (x::a) (y::b)=if x.toNat=y.toNat then dB a b else decide (x.toNat<y.toNat):=by
 by_cases h:x.toNat=y.toNat
 · rw[if_pos h];simp only[dB,h,Nat.beq_refl]
 · rw[if_neg h]
   have ae:Nat.beq x.toNat y.toNat=false:=by
    cases aa:Nat.beq x.toNat y.toNat with
    |false=>rfl
    |true=>exact absurd (Nat.eq_of_beq_eq_true aa) h
   simp only[dB,ae]
   exact Bool.eq_iff_iff.2 (by rw[Nat.blt_eq];simp)
def oi:a5:=(List.range 26).map (λi=>UInt8.ofNat (97+i))++(List.range 26).map (λi=>UInt8.ofNat (65+i))++(List.range 10).map (λi=>UInt8.ofNat (48+i))++[95]
def pt(n:Nat):Bool:=hi n||iU n
def j7(p:Nat->Bool):List I:=(List.range 256).map λn=>.bool (p n)
def dW(sep:a5):List a5->a5
 |[]=>[]
 |x::l=>x++l.flatMap (λy=>sep++y)
theorem TC(sep:a5):∀(l:List a5) (y:a5),l≠[]->dW sep (l++[y])=dW sep l++sep++y
 |[],y,h=>absurd rfl h
 |x::l,y,_=>by
  show x++(l++[y]).flatMap _=x++l.flatMap _++sep++y
  rw[List.flatMap_append]
  simp
theorem TD(sep y:a5):dW sep ([]++[y])=y:=by simp[dW]
theorem tI(sep:a5)(l:List a5){i:Nat}(h:i<l.length):dW sep (l.take (i+1))=if 0<i then dW sep (l.take i)++sep++l[i] else l[i]:=by
 rw[List.take_succ_eq_append_getElem h]
 by_cases h0:0<i
 · rw[if_pos h0,TC]
   intro e
   have aw:(l.take i).length=i:=by rw[List.length_take];omega
   rw[e] at aw
   simp at aw
   omega
 · rw[if_neg h0]
   obtain rfl:i=0:=by omega
   exact TD sep _
theorem yo(sep:a5)(l:List a5):∀(i:Nat),(dW sep (l.take i)).length<=(dW sep l).length:=by
 intro i
 cases l with
 |nil=>simp
 |cons x l=>
  cases i with
  |zero=>simp[dW]
  |succ i=>
   show(x++(l.take i).flatMap _).length<=(x++l.flatMap _).length
   have e:l.flatMap (λy=>sep++y)=(l.take i).flatMap (λy=>sep++y)++(l.drop i).flatMap (λy=>sep++y):=by
    rw[<-List.flatMap_append,List.take_append_drop]
   rw[e]
   simp only[List.length_append]
   omega
theorem tJ(sep:a5)(l:List a5){i:Nat}(h:i<l.length):l[i].length<=(dW sep l).length:=by
 have ab:=yo sep l (i+1)
 rw[tI sep l h] at ab
 split at ab
 · simp at ab;omega
 · exact ab
def word:Nat->a5
 |1=>[97,110,121]
 |2=>[105,110,116]
 |3=>[98,111,111,108]
 |4=>[115,116,114]
 |5=>[110,105,108]
 |_=>[]
def gS(ns ws:List a5):List a5:=List.zipWith (λn w=>n++[58,32]++w) ns ws
def hA(eY:List Nat)(ws:List a5):List a5:=List.zipWith (λk w=>if k=8 then[40]++w++[41] else w) eY ws
def shape(k:Nat)(nm:a5)(ns:List a5)(eY:List Nat)(ws:List a5)(r:a5):a5:=
 if k=6 then nm else if k=7 then[123]++dW [44,32] (gS ns ws)++[125] else if k=8 then[102,110,40]++dW [44,32] ws++[41,32,45,62,32]++r
 else if k=9 then dW [32,124,32] (hA eY ws) else word k
mutual
def wr:aF->a5
 |.mk k nm ns xs rt=>shape k nm ns (xs.map aF.k) (cn xs) (kz rt)
def cn:List aF->List a5
 |[]=>[]
 |t::cv=>wr t::cn cv
def kz:Option aF->a5
 |none=>[]
 |some t=>wr t
end
mutual
def okW:aF->Bool
 |.mk k nm ns xs rt=>decide (1<=k)&&decide (k<=9)&&(decide (k≠7)||decide (xs.length=ns.length))&&(decide (k≠8)||rt.isSome)&&tK xs&&yp rt
def tK:List aF->Bool
 |[]=>true
 |t::cv=>okW t&&tK cv
def yp:Option aF->Bool
 |none=>true
 |some t=>okW t
end
theorem vy:∀l:List aF,(cn l).length=l.length
 |[]=>by rw[cn];rfl
 |x::l=>by rw[cn];simp[vy l]
theorem vz:∀(l:List aF) (i:Nat) (h:i<l.length) (an:i<(cn l).length),(cn l)[i]=wr l[i]
 |[],i,h,_=>by simp at h
 |x::l,0,_,_=>by simp only[cn];rfl
 |x::l,i+1,h,an=>by
  have:=vz l i (by simpa using h) (by rw[vy];simpa using h)
  simpa only[cn,List.getElem_cons_succ] using this
theorem KK{t:aF}:∀{l:List aF},tK l=true->t∈l->okW t=true
 |[],_,h=>by cases h
 |x::l,aw,h=>by
  rw[tK,Bool.and_eq_true] at aw
  rcases List.mem_cons.1 h with rfl|h
  · exact aw.1
  · exact KK aw.2 h
def l1(p:Option a5)(x:a5):Bool:=match p with
 |none=>true
 |some q=>dB q x
def jx(p:Option a5):List a5->Bool
 |[]=>true
 |x::l=>hP x&&(l1 p x&&jx (some x) l)
def kA(p:Option a5):List Nat->List a5->Bool
 |k::eY,w::ws=>(decide (k≠9)&&decide (k≠1))&&(l1 p w&&kA (some w) eY ws)
 |_,_=>true
def l2(l:List a5):Nat->Option a5
 |0=>none
 |i+1=>l[i]?
theorem KL{s:a5}(h:hP s=true):s.length<=24:=by
 unfold hP at h
 simp only[Bool.and_eq_true,decide_eq_true_eq] at h
 exact h.1.1.2
def hQ(k:Nat)(s:a5)(N M:Nat)(o:Bool):Bool:=(!((!dF s []) !=decide (k=6)))&&(!(decide (0<N)&&decide (k≠7)))&&(!(decide (0<M)&&decide (k<7)))&&(!(o !=decide (k=8)))
def eL(k:Nat)(nm:a5)(ns:List a5)(eY:List Nat)(ws:List a5)(n:Nat)(r:Bool):Bool:=
 if k=6 then lo nm else if k=7 then decide (ns.length=n)&&jx none ns else if k=8 then r else if k=9 then kA none eY ws&&decide (2<=n) else true
mutual
def dY:aF->Bool
 |.mk k nm ns xs rt=>(decide (1<=k)&&decide (k<=9))&&(hQ k nm ns.length xs.length rt.isSome&&(hj xs&&eL k nm ns (xs.map aF.k) (cn xs) xs.length (il rt)))
def hj:List aF->Bool
 |[]=>true
 |t::cv=>dY t&&hj cv
def il:Option aF->Bool
 |none=>false
 |some t=>dY t
end
theorem yq{t:aF}:∀{l:List aF},hj l=true->t∈l->dY t=true
 |[],_,h=>by cases h
 |x::l,aw,h=>by
  rw[hj,Bool.and_eq_true] at aw
  rcases List.mem_cons.1 h with rfl|h
  · exact aw.1
  · exact yq aw.2 h
theorem mM(k:Nat)(nm:a5)(ns:List a5)(xs:List aF)(rt:Option aF):dY (.mk k nm ns xs rt)=((decide (1<=k)&&decide (k<=9))&&(hQ k nm ns.length xs.length rt.isSome&&(hj xs&&eL k nm ns (xs.map aF.k) (cn xs) xs.length (il rt)))):=by rw[dY]
mutual
theorem yr:∀t:aF,dY t=true->okW t=true
 |.mk k nm ns xs rt,h=>by
  rw[mM] at h
  simp only[Bool.and_eq_true,decide_eq_true_eq] at h
  obtain⟨⟨bE,iG⟩,aO,aa,aq⟩:=h
  have jP:=KM xs aa
  have KN:rt.isSome=decide (k=8):=by
   unfold hQ at aO
   simp only[Bool.and_eq_true] at aO
   have:=aO.2
   revert this
   cases rt.isSome<;>cases ao:decide (k=8)<;>simp
  have a2:yp rt=true:=by
   cases rt with
   |none=>rw[yp]
   |some u=>
    have EY:k=8:=by simpa using KN.symm
    subst EY
    have hu:dY u=true:=by simpa[eL,il] using aq
    rw[yp]
    exact yr u hu
  rw[okW]
  simp only[Bool.and_eq_true,Bool.or_eq_true,decide_eq_true_eq]
  refine⟨⟨⟨⟨⟨bE,iG⟩,?_⟩,?_⟩,jP⟩,a2⟩
  · by_cases e:k=7
    · subst e
      right
      have:ns.length=xs.length/\jx none ns=true:=by simpa[eL] using aq
      exact this.1.symm
    · exact .inl e
  · by_cases e:k=8
    · right;rw[KN];simp[e]
    · exact .inl e
theorem KM:∀l:List aF,hj l=true->tK l=true
 |[],_=>by rw[tK]
 |t::l,h=>by
  rw[hj,Bool.and_eq_true] at h
  rw[tK,yr t h.1,KM l h.2];rfl
end
def fA(c:Nat):List a5->Nat
 |[]=>0
 |x::l=>x.length+c+fA c l
theorem KO(sep:a5):∀l:List a5,(l.flatMap (λy=>sep++y)).length=fA sep.length l
 |[]=>rfl
 |x::l=>by
  rw[List.flatMap_cons,List.length_append,KO sep l,List.length_append,fA]
  omega
theorem Bd(sep:a5):∀l:List a5,(dW sep l).length<=fA sep.length l
 |[]=>Nat.le_refl _
 |x::l=>by
  show(x++l.flatMap _).length<=_
  rw[List.length_append,KO,fA]
  omega
theorem EZ:∀(p:Option a5) (ns:List a5),jx p ns=true->∀n∈ns,n.length<=24
 |_,[],_,n,aK=>by cases aK
 |p,x::l,h,n,aK=>by
  rw[jx,Bool.and_eq_true,Bool.and_eq_true] at h
  rcases List.mem_cons.1 aK with rfl|aK
  · exact KL h.1
  · exact EZ (some x) l h.2.2 n aK
def yu:List aF->Prop
 |[]=>True
 |t::l=>(wr t).length+30<=300*sz t/\yu l
theorem KP:∀xs:List aF,yu xs->fA 2 (cn xs)<=300*cY xs
 |[],_=>by rw[cn,fA];omega
 |t::l,h=>by
  have ab:=h.1
  have:=KP l h.2
  rw[cn,fA,cY];omega
theorem KQ:∀(ns:List a5) (xs:List aF),yu xs->(∀n∈ns,n.length<=24)->fA 2 (gS ns (cn xs))<=300*cY xs
 |[],xs,_,_=>by simp[gS,fA]
 |n::ns,[],_,_=>by simp[gS,cn,fA]
 |n::ns,t::l,h,aK=>by
  have ab:=h.1
  have ad:=aK n (by simp)
  have:=KQ ns l h.2 (λm hm=>aK m (by simp[hm]))
  unfold gS at this⊢
  rw[cn,List.zipWith_cons_cons,fA,cY]
  simp only[List.length_append,List.length_cons,List.length_nil]
  omega
theorem KR:∀(xs:List aF),yu xs->fA 3 (hA (xs.map aF.k) (cn xs))<=300*cY xs
 |[],_=>by simp[hA,cn,fA]
 |t::l,h=>by
  have ab:=h.1
  have:=KR l h.2
  unfold hA at this⊢
  rw[List.map_cons,cn,List.zipWith_cons_cons,fA,cY]
  split
  · simp only[List.length_append,List.length_cons,List.length_nil]
    omega
  · omega
mutual
theorem vA:∀t:aF,dY t=true->(wr t).length+30<=300*sz t
 |.mk k nm ns xs rt,h=>by
  rw[mM] at h
  simp only[Bool.and_eq_true,decide_eq_true_eq] at h
  obtain⟨⟨bE,iG⟩,aO,aa,aq⟩:=h
  have hs:=KS xs aa
  rw[wr,mL]
  unfold shape
  split
  · rename_i e
    subst e
    have:lo nm=true:=by simpa[eL] using aq
    unfold lo at this
    simp only[Bool.and_eq_true,decide_eq_true_eq] at this
    omega
  split
  · rename_i e
    subst e
    have hf:ns.length=xs.length/\jx none ns=true:=by simpa[eL] using aq
    have bt:=KQ ns xs hs (EZ none ns hf.2)
    have bH:(dW [44,32] (gS ns (cn xs))).length<=fA 2 (gS ns (cn xs)):=Bd [44,32] _
    simp only[List.length_append,List.length_cons,List.length_nil]
    omega
  split
  · rename_i e
    subst e
    have bt:=KP xs hs
    have bH:(dW [44,32] (cn xs)).length<=fA 2 (cn xs):=Bd [44,32] _
    have ak:(kz rt).length<=300*dx rt:=by
     cases rt with
     |none=>rw[kz];simp
     |some u=>
      have hu:dY u=true:=by simpa[eL,il] using aq
      have:=vA u hu
      rw[kz,l0];omega
    simp only[List.length_append,List.length_cons,List.length_nil]
    omega
  split
  · have bt:=KR xs hs
    have bH:(dW [32,124,32] (hA (xs.map aF.k) (cn xs))).length<=fA 3 (hA (xs.map aF.k) (cn xs)):=Bd [32,124,32] _
    omega
  · have:(word k).length<=4:=by
      unfold word;split<;>simp
    omega
theorem KS:∀l:List aF,hj l=true->yu l
 |[],_=>trivial
 |t::l,h=>by
  rw[hj,Bool.and_eq_true] at h
  exact⟨vA t h.1,KS l h.2⟩
end
theorem TE(u:aF)(h:dY u=true):okW u=true/\(wr u).length<=300*sz u:=⟨yr u h,by have:=vA u h;omega⟩
end c_
namespace Go.Proofs.cF
open Go aM Go.Proofs c_
set_option maxRecDepth 100000
set_option maxHeartbeats 1000000
def c7(B:Nat)(h:J)(v:I)(vs:List I):Prop:=(v=.a0/\vs=[])\/∃b off cp,v=.slice b off vs.length cp/\b<B/\(∀i (af:i<vs.length),au h b (off+i*1)=some vs[i])/\0<vs.length/\cp≠ .dead
mutual
def dE(B:Nat)(h:J):aF->I->Prop
 |.mk k nm ns xs rt,v=>∃r bJ bd cU vs bh aN up,v=.ptr r 0/\r<B/\h.get r=some (.cells [.int .i64 (Int.ofNat k),.str nm,bJ,bd,cU] 80 bh aN up)/\c7 B h bJ (ns.map .str)/\c7 B h bd vs/\dO B h xs vs/\ey B h rt cU
def dO(B:Nat)(h:J):List aF->List I->Prop
 |[],vs=>vs=[]
 |t::cv,vs=>∃v ws,vs=v::ws/\dE B h t v/\dO B h cv ws
def ey(B:Nat)(h:J):Option aF->I->Prop
 |none,v=>v=.bb
 |some t,v=>dE B h t v
end
def gK(B:Nat)(h g:J):Prop:=∀b,b<B->g.get b=h.get b
theorem gK.ext{B C:Nat}{h g:J}(e:Ext C h g)(cM:B<=C):gK B h g:=λb ae=>e.get b (by omega)
theorem c7.ck{B:Nat}{h g:J}{v:I}{vs:List I}(e:gK B h g)(hs:c7 B h v vs):c7 B g v vs:=by
 rcases hs with hs|⟨b,off,cp,ab,ad,ar,aJ⟩
 · exact .inl hs
 · refine .inr ⟨b,off,cp,ab,ad,λi af=>?_,aJ⟩
   rw[<-ar i af]
   unfold au
   rw[e b ad]
theorem c7.le{B C:Nat}{h:J}{v:I}{vs:List I}(e:B<=C)(hs:c7 B h v vs):c7 C h v vs:=by
 rcases hs with hs|⟨b,off,cp,ab,ad,ar,aJ⟩
 · exact .inl hs
 · exact .inr ⟨b,off,cp,ab,by omega,ar,aJ⟩
mutual
theorem dE.ck{B:Nat}{h g:J}(e:gK B h g):∀(t:aF) (v:I),dE B h t v->dE B g t v
 |.mk k nm ns xs rt,v,aa=>by
  obtain⟨r,bJ,bd,cU,vs,bh,aN,up,ab,ad,ar,aJ,bO,cj,db⟩:=aa
  exact⟨r,bJ,bd,cU,vs,bh,aN,up,ab,ad,(e r ad).trans ar,aJ.ck e,bO.ck e,dO.ck e xs vs cj,ey.ck e rt cU db⟩
theorem dO.ck{B:Nat}{h g:J}(e:gK B h g):∀(cv:List aF) (vs:List I),dO B h cv vs->dO B g cv vs
 |[],vs,aa=>aa
 |t::cv,vs,aa=>by
  obtain⟨v,ws,ab,ad,ar⟩:=aa
  exact⟨v,ws,ab,dE.ck e t v ad,dO.ck e cv ws ar⟩
theorem ey.ck{B:Nat}{h g:J}(e:gK B h g):∀(t:Option aF) (v:I),ey B h t v->ey B g t v
 |none,v,aa=>aa
 |some t,v,aa=>dE.ck e t v aa
end
mutual
theorem dE.le{B C:Nat}{h:J}(e:B<=C):∀(t:aF) (v:I),dE B h t v->dE C h t v
 |.mk k nm ns xs rt,v,aa=>by
  obtain⟨r,bJ,bd,cU,vs,bh,aN,up,ab,ad,ar,aJ,bO,cj,db⟩:=aa
  exact⟨r,bJ,bd,cU,vs,bh,aN,up,ab,by omega,ar,aJ.le e,bO.le e,dO.le e xs vs cj,ey.le e rt cU db⟩
theorem dO.le{B C:Nat}{h:J}(e:B<=C):∀(cv:List aF) (vs:List I),dO B h cv vs->dO C h cv vs
 |[],vs,aa=>aa
 |t::cv,vs,aa=>by
  obtain⟨v,ws,ab,ad,ar⟩:=aa
  exact⟨v,ws,ab,dE.le e t v ad,dO.le e cv ws ar⟩
theorem ey.le{B C:Nat}{h:J}(e:B<=C):∀(t:Option aF) (v:I),ey B h t v->ey C h t v
 |none,v,aa=>aa
 |some t,v,aa=>dE.le e t v aa
end
theorem dO.len{B:Nat}{h:J}:∀{cv:List aF} {vs:List I},dO B h cv vs->vs.length=cv.length
 |[],vs,aa=>by
  have e:vs=[]:=aa
  subst e;rfl
 |s::cv,vs,aa=>by
  obtain⟨u,ws,rfl,ad,ar⟩:=aa
  simp[dO.len ar]
theorem dO.get{B:Nat}{h:J}:∀{cv:List aF} {vs:List I},dO B h cv vs->∀i (ab:i<vs.length) (ad:i<cv.length),dE B h cv[i] vs[i]
 |[],vs,aa,i,ab,ad=>by simp at ad
 |s::cv,vs,aa,i,ab,ad=>by
  obtain⟨u,ws,rfl,ar,aJ⟩:=aa
  cases i with
  |zero=>exact ar
  |succ i=>exact dO.get aJ i (by simpa using ab) (by simpa using ad)
theorem c7.snd{B:Nat}{h:J}{v:I}{vs:List I}(hs:c7 B h v vs):I.sound v=true:=by
 rcases hs with⟨rfl,_⟩|⟨b,off,cp,rfl,_⟩<;>rfl
theorem c7.len{B:Nat}{h g:J}{v:I}{vs:List I}{t e:TypeId}(hu:Tryz.prog.underlying t=some (.slice e))(hs:c7 B h v vs):b9 Tryz.prog g t v=some (.int .i64 (Int.ofNat vs.length)):=by
 rcases hs with⟨rfl,rfl⟩|⟨b,off,cp,rfl,_⟩
 · simp only[b9,hu];rfl
 · simp only[b9,hu]
theorem ey.Be{B:Nat}{h:J}{ot:Option aF}{v:I}(aB:ey B h ot v):v=.bb\/∃R,v=.ptr R 0:=by
 cases ot with
 |none=>exact .inl aB
 |some u=>
  cases u with
  |mk k nm ns ys rt=>obtain⟨r,bJ,bd,_,vs,bh,aN,up,rfl,_⟩:=aB;exact .inr ⟨r,rfl⟩
theorem ey.snd{B:Nat}{h:J}{ot:Option aF}{v:I}(aB:ey B h ot v):I.sound v=true:=by
 rcases aB.Be with rfl|⟨R,rfl⟩<;>rfl
theorem dE.snd{B:Nat}{h:J}{t:aF}{v:I}(aB:dE B h t v):I.sound v=true:=ey.snd (ot:=some t) aB
noncomputable def b1:Nat->List I->J->Option (I×J):=EK (qg [⟨15,[],.bool true⟩,⟨106,[.str oi],.aP [.agg (j7 pt),.bool true]⟩,⟨106,[.str (oi++[45,47,46])],.aP [.agg (j7 jQ),.bool true]⟩]) TA
noncomputable def Y(n:Nat):aI->List I->J->av:=e6 Tryz.prog b1 n
end Go.Proofs.cF
namespace Go.Proofs.cF
open Go aM Go.Proofs c_
set_option maxRecDepth 100000
set_option maxHeartbeats 1000000
theorem TF(call:aI->List I->J->av)(n:Nat)(h:J):
  aH Tryz.prog Tryz.f80 none call [] (ah.mk [(0,.bb),(1,.int .i64 (.ofNat n))] [] .none h) (.ret)
   (ah.mk [(4,.int .i64 (.ofNat n))] [] .none h):=
 bF [4] (hs:=[.v (.bool true),.b true,.b true,.b true,.b true]) (by kernel_rfl)<| .cons (by kernel_rfl:eB Tryz.prog h BinOp.eql 35 (Operand.tmp 6) (Operand.const (Value.pointer none)) I.bb I.bb=some (I.bool true))<| .cons (by kernel_rfl:true=true)<| .cons (by kernel_rfl:true=true)<| .cons (by kernel_rfl:true=true)<| .cons (by kernel_rfl:true=true)<| .nil
theorem KT(call:aI->List I->J->av)(r n:Nat)(h:J):
  aH Tryz.prog Tryz.f80 none call [0] (ah.mk [(0,.ptr r 0),(1,.int .i64 (.ofNat n))] [] .none h) (.nrm)
   (ah.mk [(0,.ptr r 0),(1,.int .i64 (.ofNat n))] [] .none h):=
 bF [0,1] (hs:=[]) (by kernel_rfl)<| .nil
theorem TG(call:aI->List I->J->av)(r n:Nat)(h:J)
  (H1:bM (.ofNat 60) (.ofNat n)=true):
  aH Tryz.prog Tryz.f80 none call [1,0] (ah.mk [(0,.ptr r 0),(1,.int .i64 (.ofNat n))] [] .none h) (.ret)
   (ah.mk [(0,.ptr r 0),(1,.int .i64 (.ofNat n)),(4,.int .i64 (.ofNat n))] [] .none h):=
 bF [0,1,4] (hs:=[.v (.bool false),.b false,.b false,.b false,.b true]) (by kernel_rfl)<| .cons (by kernel_rfl:eB Tryz.prog h BinOp.eql 35 (Operand.tmp 6) (Operand.const (Value.pointer none)) (I.ptr r 0) I.bb=some (I.bool false))<| .cons (by kernel_rfl:false=false)<| .cons (by kernel_rfl:false=false)<| .cons (by kernel_rfl:false=false)<| .cons H1<| .nil
theorem TH(call:aI->List I->J->av)(r n:Nat)(h:J)
  (H1:bM (.ofNat 60) (.ofNat n)=false):
  aH Tryz.prog Tryz.f80 none call [1,0] (ah.mk [(0,.ptr r 0),(1,.int .i64 (.ofNat n))] [] .none h) (.nrm)
   (ah.mk [(0,.ptr r 0),(1,.int .i64 (.ofNat n))] [] .none h):=
 bF [0,1,4] (hs:=[.v (.bool false),.b false,.b false,.b false,.b false]) (by kernel_rfl)<| .cons (by kernel_rfl:eB Tryz.prog h BinOp.eql 35 (Operand.tmp 6) (Operand.const (Value.pointer none)) (I.ptr r 0) I.bb=some (I.bool false))<| .cons (by kernel_rfl:false=false)<| .cons (by kernel_rfl:false=false)<| .cons (by kernel_rfl:false=false)<| .cons H1<| .nil
theorem TI(call:aI->List I->J->av)(r n k:Nat)(h:J)
  (H1:arith .add .i64 (.ofNat n) (.ofNat 1)=some (.int .i64 (.ofNat k))):
  aH Tryz.prog Tryz.f80 none call [1,1,0] (ah.mk [(0,.ptr r 0),(1,.int .i64 (.ofNat n))] [] .none h) (.nrm)
   (ah.mk [(0,.ptr r 0),(1,.int .i64 (.ofNat k))] [] .none h):=
 bF [0,1] (hs:=[.v (.int .i64 (.ofNat k))]) (by kernel_rfl)<| .cons H1<| .nil
theorem TJ(call:aI->List I->J->av)(r n:Nat)(h:J):
  aH Tryz.prog Tryz.f80 none call [1,1,1,0,0] (ah.mk [(0,.ptr r 0),(1,.int .i64 (.ofNat n))] [] .none h) (.nrm)
   (ah.mk [(0,.ptr r 0),(1,.int .i64 (.ofNat n)),(5,.int .i64 (.ofNat 0))] [] .none h):=
 bF [0,1,5] (hs:=[]) (by kernel_rfl)<| .nil
theorem TK(call:aI->List I->J->av)(r n:Nat)(h:J)
  (H1:au h r (0+3)=some .a0):
  aH Tryz.prog Tryz.f80 none call [1,1,1,0,1,0,0] (ah.mk [(0,.ptr r 0),(1,.int .i64 (.ofNat n)),(5,.int .i64 (.ofNat 0))] [] .none h) (.exit 0)
   (ah.mk [(0,.ptr r 0),(1,.int .i64 (.ofNat n))] [] .none h):=
 bF [0,1] (hs:=[.v .a0,.b false,.b false,.b false,.b false]) (by kernel_rfl)<| .cons H1<| .cons (by kernel_rfl:bM (Int.ofNat 0) (Int.ofNat 0)=false)<| .cons (by kernel_rfl:bM (Int.ofNat 0) (Int.ofNat 0)=false)<| .cons (by kernel_rfl:bM (Int.ofNat 0) (Int.ofNat 0)=false)<| .cons (by kernel_rfl:false=false)<| .nil
theorem TL(call:aI->List I->J->av)(r n b off N i q k j:Nat)(cp:b3)(x:I)(h g:J)
  (H1:au h r (0+3)=some (.slice b off N cp))
  (aQ:bM (.ofNat i) (.ofNat N)=true)
  (bq:fb (.ofNat n) (.ofNat 60)=true)
  (bo:Nat.le (Nat.succ i) N/\I.ptr b q=I.ptr b (off+i*1))
  (bY:au h b q=some x)
  (cJ:call (.fn 80) [x,.int .i64 (.ofNat n)] h=av.ret (.int .i64 (.ofNat k)) g)
  (dk:arith .add .i64 (.ofNat i) (.ofNat 1)=some (.int .i64 (.ofNat j))):
  aH Tryz.prog Tryz.f80 none call [1,1,1,0,1,0,0] (ah.mk [(0,.ptr r 0),(1,.int .i64 (.ofNat n)),(5,.int .i64 (.ofNat i))] [] .none h) (.nrm)
   (ah.mk [(0,.ptr r 0),(1,.int .i64 (.ofNat k)),(5,.int .i64 (.ofNat j))] [] .none g):=
 bF [0,1,5] (hs:=[.v (.slice b off N cp),.b true,.b true,.b true,.b true,.v (.slice b off N cp),.v (.ptr b q),.v x,.c (.int .i64 (.ofNat k)) g,.v (.int .i64 (.ofNat j))]) (by kernel_rfl)<| .cons H1<| .cons aQ<| .cons aQ<| .cons aQ<| .cons bq<| .cons H1<| .cons bo<| .cons bY<| .cons cJ<| .cons dk<| .nil
theorem TM(call:aI->List I->J->av)(r n b off N i q k j:Nat)(cp:b3)(x:I)(h g:J)
  (H1:au h r (0+3)=some (.slice b off N cp))
  (aQ:bM (.ofNat i) (.ofNat N)=true)
  (bq:fb (.ofNat n) (.ofNat 60)=false):
  aH Tryz.prog Tryz.f80 none call [1,1,1,0,1,0,0] (ah.mk [(0,.ptr r 0),(1,.int .i64 (.ofNat n)),(5,.int .i64 (.ofNat i))] [] .none h) (.exit 0)
   (ah.mk [(0,.ptr r 0),(1,.int .i64 (.ofNat n)),(5,.int .i64 (.ofNat i))] [] .none h):=
 bF [0,1,5] (hs:=[.v (.slice b off N cp),.b true,.b true,.b true,.b false]) (by kernel_rfl)<| .cons H1<| .cons aQ<| .cons aQ<| .cons aQ<| .cons bq<| .nil
theorem TN(call:aI->List I->J->av)(r n b off N i q k j:Nat)(cp:b3)(x:I)(h g:J)
  (H1:au h r (0+3)=some (.slice b off N cp))
  (aQ:bM (.ofNat i) (.ofNat N)=false):
  aH Tryz.prog Tryz.f80 none call [1,1,1,0,1,0,0] (ah.mk [(0,.ptr r 0),(1,.int .i64 (.ofNat n)),(5,.int .i64 (.ofNat i))] [] .none h) (.exit 0)
   (ah.mk [(0,.ptr r 0),(1,.int .i64 (.ofNat n)),(5,.int .i64 (.ofNat i))] [] .none h):=
 bF [0,1,5] (hs:=[.v (.slice b off N cp),.b false,.b false,.b false,.b false]) (by kernel_rfl)<| .cons H1<| .cons aQ<| .cons aQ<| .cons aQ<| .cons (by kernel_rfl:false=false)<| .nil
theorem TO(call:aI->List I->J->av)(r n k:Nat)(x:I)(h g:J)
  (H1:au h r (0+4)=some x)
  (aQ:call (.fn 80) [x,.int .i64 (.ofNat n)] h=av.ret (.int .i64 (.ofNat k)) g):
  aH Tryz.prog Tryz.f80 none call [1,1,1,1] (ah.mk [(0,.ptr r 0),(1,.int .i64 (.ofNat n))] [] .none h) (.ret)
   (ah.mk [(4,.int .i64 (.ofNat k))] [] .none g):=
 bF [4] (hs:=[.v x,.c (.int .i64 (.ofNat k)) g]) (by kernel_rfl)<| .cons H1<| .cons aQ<| .nil
theorem KU(call:aI->List I->J->av)(k:Nat)(x:I)(h g:J)
  (H1:call (.fn 80) [x,.int .i64 (.ofNat 0)] h=av.ret (.int .i64 (.ofNat k)) g):
  aH Tryz.prog Tryz.f52 none call [] (ah.mk [(0,x)] [] .none h) (.ret)
   (ah.mk [(2,.int .i64 (.ofNat k))] [] .none g):=
 bF [2] (hs:=[.c (.int .i64 (.ofNat k)) g]) (by kernel_rfl)<| .cons H1<| .nil
theorem KV{B:Nat}{h:J}{xs:List aF}{vs:List I}(call:aI->List I->J->av)(r b off:Nat)(cp:b3)(aB:au h r (0+3)=some (.slice b off vs.length cp))(aa:dO B h xs vs)(aw:∀i (af:i<vs.length),au h b (off+i*1)=some vs[i])(hlen:vs.length<=1000000)
  (a6:∀i (ab:i<vs.length) (ad:i<xs.length) n,n<=61->call (.fn 80) [vs[i],.int .i64 (Int.ofNat n)] h=.ret (.int .i64 (Int.ofNat (min (n+sz xs[i]) 61))) h):∀(k i n:Nat),vs.length-i=k->i<=vs.length->n<=61->
  ft Tryz.prog Tryz.f80 none call [1,1,1,0,1,0] (k+1) ⟨[(0,.ptr r 0),(1,.int .i64 (Int.ofNat n)),(5,.int .i64 (Int.ofNat i))],[],.none,h⟩ (.exit 0) ⟨[(0,.ptr r 0),(1,.int .i64 (Int.ofNat (min (n+cY (xs.drop i)) 61)))],[],.none,h⟩
 |0,i,n,aq,af,aK=>by
  have fs:=dO.len aa
  obtain rfl:i=vs.length:=by omega
  rw[List.drop_of_length_le (by omega)]
  have e:min (n+cY []) 61=n:=by show min (n+0) 61=n;omega
  rw[e]
  exact .exit (cZ.post (TN call r n b off vs.length _ 0 0 0 cp .bb h h aB (eW (by omega))) ⟨rfl,rfl,trivial⟩) (by simp)
 |k+1,i,n,aq,af,aK=>by
  have fs:=dO.len aa
  have ab:i<vs.length:=by omega
  have ad:i<xs.length:=by omega
  rw[List.drop_eq_getElem_cons ad]
  by_cases pv:n<=60
  · have st:=TL call r n b off vs.length i (off+i*1) (min (n+sz xs[i]) 61) (i+1) cp vs[i] h h aB (dS ab) (mA (by omega)) ⟨ab,rfl⟩ (aw i ab) (a6 i ab ad n aK) (j3 ab (by omega))
    have e:min (n+cY (xs[i]::xs.drop (i+1))) 61=min (min (n+sz xs[i]) 61+cY (xs.drop (i+1))) 61:=by
     show min (n+(sz xs[i]+cY (xs.drop (i+1)))) 61=_
     omega
    rw[e]
    exact .step st (KV call r b off cp aB aa aw hlen a6 k (i+1) _ (by omega) (by omega) (by omega))
  · have e:min (n+cY (xs[i]::xs.drop (i+1))) 61=n:=by omega
    rw[e]
    exact .exit (cZ.post (TM call r n b off vs.length i 0 0 0 cp .bb h h aB (dS ab) (ob (by omega))) ⟨rfl,rfl,trivial⟩) (by simp)
theorem KW(m n:Nat)(h:J):Y (m+1) (.fn 80) [.bb,.int .i64 (Int.ofNat n)] h=.ret (.int .i64 (Int.ofNat n)) h:=
 eK (intr:=b1) (n:=m) (args:=[.bb,.int .i64 (Int.ofNat n)]) Tryz.func80 (by kernel_rfl) rfl (by kernel_rfl) (TF (Y m) n h) (.inl rfl) (by kernel_rfl)
theorem E0:∀(N:Nat) (t:aF),sz t<=N->sz t<=90000->∀(B:Nat) (h:J) (v:I) (m n:Nat),sz t<m->n<=61->dE B h t v->Y m (.fn 80) [v,.int .i64 (Int.ofNat n)] h=.ret (.int .i64 (Int.ofNat (min (n+sz t) 61))) h
 |0,t,gG,_,_,_,_,_,_,_,_,_=>by have:=rS t;omega
 |N+1,.mk k nm ns xs rt,gG,xL,B,h,v,m,n,hm,aK,aB=>by
  obtain⟨r,bJ,bd,cU,vs,bh,aN,up,rfl,ad,ar,aJ,bO,cj,db⟩:=aB
  have hs:sz (.mk k nm ns xs rt)=1+cY xs+dx rt:=by unfold sz;rfl
  rw[hs] at gG hm xL⊢
  obtain⟨m,rfl⟩:∃j,m=j+1:=⟨m-1,by omega⟩
  have fs:=dO.len cj
  have ja:=nD xs
  by_cases pv:n<=60
  · have hL:=KT (Y m) r n h
    have s1:=TH (Y m) r n h (eW (by omega))
    have s2:=TI (Y m) r n (n+1) h (j3 (m:=100000) (by omega) (by decide))
    have bI:=TJ (Y m) r (n+1) h
    have a6:∀i (ab:i<vs.length) (ad:i<xs.length) n,n<=61->Y m (.fn 80) [vs[i],.int .i64 (Int.ofNat n)] h=.ret (.int .i64 (Int.ofNat (min (n+sz xs[i]) 61))) h:=λi ab ad n aK=>by
     have h1:=oh (List.getElem_mem ad)
     exact E0 N xs[i] (by omega) (by omega) B h vs[i] m n (by omega) aK (dO.get cj i ab ad)
    have fU:au h r (0+3)=some bd:=aU ar rfl
    have loop:aH Tryz.prog Tryz.f80 none (Y m) [1,1,1,0,1,0] ⟨[(0,.ptr r 0),(1,.int .i64 (Int.ofNat (n+1))),(5,.int .i64 (Int.ofNat 0))],[],.none,h⟩ (.exit 0) ⟨[(0,.ptr r 0),(1,.int .i64 (Int.ofNat (min (n+1+cY xs) 61)))],[],.none,h⟩:=by
     rcases bO with⟨rfl,rfl⟩|⟨b,off,cp,rfl,ae,aw,_⟩
     · have mh:xs=[]:=List.eq_nil_of_length_eq_zero (by simpa using fs.symm)
       subst mh
       have e:min (n+1+cY []) 61=n+1:=by show min (n+1+0) 61=n+1;omega
       rw[e]
       exact ft.run (p:=[1,1,1,0,1,0]) (n:=1) (by kernel_rfl) (.exit (TK (Y m) r (n+1) h fU) (by simp)) (by omega)
     · have:=KV (Y m) r b off cp fU cj aw (by omega) a6 vs.length 0 (n+1) (by omega) (by omega) (by omega)
       rw[List.drop_zero] at this
       exact ft.run (p:=[1,1,1,0,1,0]) (by kernel_rfl) this (by omega)
    have TP:=aH.block (p:=[1,1,1,0,1]) (id:=0) (by kernel_rfl) loop
    have xx:Y m (.fn 80) [cU,.int .i64 (Int.ofNat (min (n+1+cY xs) 61))] h=.ret (.int .i64 (Int.ofNat (min (n+(1+cY xs+dx rt)) 61))) h:=by
     cases rt with
     |none=>
      have e:cU=.bb:=db
      subst e
      obtain⟨m,rfl⟩:∃j,m=j+1:=⟨m-1,by omega⟩
      have e:min (n+(1+cY xs+dx none)) 61=min (n+1+cY xs) 61:=by show min (n+(1+cY xs+0)) 61=_;omega
      rw[e]
      exact KW m _ h
     |some u=>
      have eF:dx (some u)=sz u:=by unfold dx;rfl
      rw[eF] at gG hm xL⊢
      rw[E0 N u (by omega) (by omega) B h cU m _ (by omega) (by omega) db]
      congr 3
      omega
    have bL:=TO (Y m) r (min (n+1+cY xs) 61) (min (n+(1+cY xs+dx rt)) 61) cU h h (aU ar rfl) xx
    exact eK (intr:=b1) (n:=m) (args:=[.ptr r 0,.int .i64 (Int.ofNat n)]) Tryz.func80 (by kernel_rfl) rfl (by kernel_rfl) (aH.seq (p:=[]) (by kernel_rfl) hL (aH.seq (p:=[1]) (by kernel_rfl) s1 (aH.seq (p:=[1,1]) (by kernel_rfl) s2 (aH.seq (p:=[1,1,1]) (by kernel_rfl) (aH.seq (p:=[1,1,1,0]) (by kernel_rfl) bI TP) bL)))) (.inl rfl) (by kernel_rfl)
  · have hL:=KT (Y m) r n h
    have e:min (n+(1+cY xs+dx rt)) 61=n:=by omega
    rw[e]
    have s1:=TG (Y m) r n h (dS (by omega))
    exact eK (intr:=b1) (n:=m) (args:=[.ptr r 0,.int .i64 (Int.ofNat n)]) Tryz.func80 (by kernel_rfl) rfl (by kernel_rfl) (aH.seq (p:=[]) (by kernel_rfl) hL (aH.iD (p:=[1]) (by kernel_rfl) s1 (by simp))) (.inl rfl) (by kernel_rfl)
theorem KX{t:aF}{B:Nat}{h:J}{v:I}{m:Nat}(ae:sz t<=90000)(hm:sz t<m)(aB:dE B h t v):Y (m+1) (.fn 52) [v] h=.ret (.int .i64 (Int.ofNat (min (sz t) 61))) h:=by
 have e:=E0 (sz t) t (Nat.le_refl _) ae B h v m 0 hm (by decide) aB
 rw[Nat.zero_add] at e
 exact eK (intr:=b1) (n:=m) (args:=[v]) Tryz.func52 (by kernel_rfl) rfl (by kernel_rfl) (KU (Y m) _ v h h e) (.inl rfl) (by kernel_rfl)
end Go.Proofs.cF
namespace Go.Proofs.cF
open Go aM Go.Proofs c_
set_option maxRecDepth 100000
set_option maxHeartbeats 1000000
theorem TQ(call:aI->List I->J->av)(v:I)(h:J):
  aH Tryz.prog Tryz.f16 none call [0] (ah.mk [(0,v)] [] .none h) (.nrm)
   (ah.mk [(0,v)] [] .none h):=
 bF [0] (hs:=[]) (by kernel_rfl)<| .nil
theorem TR(call:aI->List I->J->av)(v:I)(h g:J)
  (H1:aM.storeCells (J.push h (.cells [.int .i64 (.ofNat 0)] 3 .own 0 0)) (J.n h) 0 [.int .i64 (.ofNat 0)]=some g):
  aH Tryz.prog Tryz.f16 none call [1,0] (ah.mk [(0,v)] [] .none h) (.nrm)
   (ah.mk [(0,v),(3,.ptr (J.n h) 0)] [] .none g):=
 bF [0,3] (hs:=[.lR (.aP []) g]) (by kernel_rfl)<| .cons (⟨by kernel_rfl,H1,rfl⟩:some 1=some 1/\aM.storeCells (J.push h (da.cells [I.int IntKind.i64 (Int.ofNat 0)] 3 gE.own 0 0)) (J.n h) 0 [I.int IntKind.i64 (Int.ofNat 0)]=some g/\I.aP []=I.aP [])<| .nil
theorem TS(call:aI->List I->J->av)(v w:I)(a:Nat)(h g:J)
  (H1:call (.fn 37) [v] h=av.ret w g):
  aH Tryz.prog Tryz.f16 none call [1,1,0,0] (ah.mk [(0,v),(3,.ptr a 0)] [] .none h) (.nrm)
   (ah.mk [(3,.ptr a 0),(5,w)] [] .none g):=
 bF [3,5] (hs:=[.c w g]) (by kernel_rfl)<| .cons H1<| .nil
theorem TT(call:aI->List I->J->av)(l a i j:Nat)(h g:J)
  (H1:au h a 0=some (.int .i64 (.ofNat i)))
  (aQ:arith .add .i64 (.ofNat i) (.ofNat 1)=some (.int .i64 (.ofNat j)))
  (bq:aM.storeCells h a 0 [.int .i64 (.ofNat j)]=some g)
  (bo:au g a 0=some (.int .i64 (.ofNat j)))
  (bY:bM (.ofNat 60) (.ofNat j)=true):
  aH Tryz.prog Tryz.f16 (some l) call [1,1,0,1,0,1] (ah.mk [(3,.ptr a 0)] [] .none h) (.exit 0)
   (ah.mk [(3,.ptr a 0)] [] .none g):=
 bF [3] (hs:=[.v (.int .i64 (.ofNat i)),.v (.int .i64 (.ofNat j)),.lR (.aP []) g,.v (.int .i64 (.ofNat j)),.b true]) (by kernel_rfl)<| .cons H1<| .cons aQ<| .cons (⟨by kernel_rfl,bq,rfl⟩:some 1=some 1/\aM.storeCells h a 0 [I.int IntKind.i64 (Int.ofNat j)]=some g/\I.aP []=I.aP [])<| .cons bo<| .cons bY<| .nil
theorem TU(call:aI->List I->J->av)(l a i j:Nat)(h g:J)
  (H1:au h a 0=some (.int .i64 (.ofNat i)))
  (aQ:arith .add .i64 (.ofNat i) (.ofNat 1)=some (.int .i64 (.ofNat j)))
  (bq:aM.storeCells h a 0 [.int .i64 (.ofNat j)]=some g)
  (bo:au g a 0=some (.int .i64 (.ofNat j)))
  (bY:bM (.ofNat 60) (.ofNat j)=false):
  aH Tryz.prog Tryz.f16 (some l) call [1,1,0,1,0,1] (ah.mk [(3,.ptr a 0)] [] .none h) (.nrm)
   (ah.mk [(3,.ptr a 0)] [] .none g):=
 bF [3] (hs:=[.v (.int .i64 (.ofNat i)),.v (.int .i64 (.ofNat j)),.lR (.aP []) g,.v (.int .i64 (.ofNat j)),.b false]) (by kernel_rfl)<| .cons H1<| .cons aQ<| .cons (⟨by kernel_rfl,bq,rfl⟩:some 1=some 1/\aM.storeCells h a 0 [I.int IntKind.i64 (Int.ofNat j)]=some g/\I.aP []=I.aP [])<| .cons bo<| .cons bY<| .nil
theorem TV(call:aI->List I->J->av)(a j eD:Nat)(h:J)
  (H1:au h a 0=some (.int .i64 (.ofNat j))):
  aH Tryz.prog Tryz.f16 none call [1,1,1] (ah.mk [(3,.ptr a 0)] [.collected eD] .none h) (.ret)
   (ah.mk [(2,.int .i64 (.ofNat j))] [.collected eD] .none h):=
 bF [2] (hs:=[.v (.int .i64 (.ofNat j))]) (by kernel_rfl)<| .cons H1<| .nil
theorem TW(call:aI->List I->J->av)(r:Nat)(h:J):
  aH Tryz.prog Tryz.f37 none call [] (ah.mk [(0,.ptr r 0)] [] .none h) (.ret)
   (ah.mk [(2,.fn 57 [] [.ptr (J.n h) 0])] [] .none (J.push h (.cells [.ptr r 0] 35 .own 0 0))):=
 bF [2] (hs:=[]) (by kernel_rfl)<| .nil
theorem TX(call:aI->List I->J->av)(h:J):
  aH Tryz.prog Tryz.f37 none call [] (ah.mk [(0,.bb)] [] .none h) (.ret)
   (ah.mk [(2,.fn 57 [] [.ptr (J.n h) 0])] [] .none (J.push h (.cells [.bb] 35 .own 0 0))):=
 bF [2] (hs:=[]) (by kernel_rfl)<| .nil
theorem TY(call:aI->List I->J->av)(l a:Nat)(v w:I)(h ab ad:J)
  (H1:aM.storeCells (J.push (J.push h (.cells [.dd l] 89 .own 0 0)) (.cells [.fL] 89 .own 0 0)) (J.n (J.push h (.cells [.dd l] 89 .own 0 0))) 0 [.fn 58 [] [.ptr (J.n h) 0,.ptr (J.n (J.push h (.cells [.dd l] 89 .own 0 0))) 0]]=some ab)
  (aQ:au ab (J.n (J.push h (.cells [.dd l] 89 .own 0 0))) 0=some (.fn 58 [] [.ptr (J.n h) 0,.ptr (J.n h+1) 0]))
  (bq:au ab a 0=some v)
  (bo:call (.fn 58) [v,.ptr (J.n h) 0,.ptr (J.n h+1) 0] ab=av.ret w ad):
  aH Tryz.prog Tryz.f57 none call [] (ah.mk [(0,.dd l),(1,.ptr a 0)] [] .none h) (.nrm)
   (ah.mk [] [] .none ad):=
 bF [] (hs:=[.lR (.aP []) ab,.v (.fn 58 [] [.ptr (J.n h) 0,.ptr (J.n h+1) 0]),.v v,.c w ad]) (by kernel_rfl)<| .cons (⟨by kernel_rfl,H1,rfl⟩:some 1=some 1/\aM.storeCells (J.push (J.push h (da.cells [I.dd l] 89 gE.own 0 0)) (da.cells [I.fL] 89 gE.own 0 0)) (J.n (J.push h (da.cells [I.dd l] 89 gE.own 0 0))) 0 [I.fn 58 [] [I.ptr (J.n h) 0,I.ptr (J.n (J.push h (da.cells [I.dd l] 89 gE.own 0 0))) 0]]=some ab/\I.aP []=I.aP [])<| .cons aQ<| .cons bq<| .cons bo<| .nil
theorem TZ(call:aI->List I->J->av)(y z:Nat)(h:J):
  aH Tryz.prog Tryz.f58 none call [] (ah.mk [(0,.bb),(1,.ptr y 0),(2,.ptr z 0)] [] .none h) (.ret)
   (ah.mk [(4,.bool true)] [] .none h):=
 bF [4] (hs:=[.v (.bool true),.b true]) (by kernel_rfl)<| .cons (by kernel_rfl:eB Tryz.prog h BinOp.eql 35 (Operand.tmp 7) (Operand.const (Value.pointer none)) I.bb I.bb=some (I.bool true))<| .cons (by kernel_rfl:true=true)<| .nil
theorem T0(call:aI->List I->J->av)(r y z:Nat)(h:J):
  aH Tryz.prog Tryz.f58 none call [0] (ah.mk [(0,.ptr r 0),(1,.ptr y 0),(2,.ptr z 0)] [] .none h) (.nrm)
   (ah.mk [(0,.ptr r 0),(1,.ptr y 0),(2,.ptr z 0)] [] .none h):=
 bF [0,1,2] (hs:=[]) (by kernel_rfl)<| .nil
theorem T1(call:aI->List I->J->av)(r y z:Nat)(h:J):
  aH Tryz.prog Tryz.f58 none call [1,0] (ah.mk [(0,.ptr r 0),(1,.ptr y 0),(2,.ptr z 0)] [] .none h) (.nrm)
   (ah.mk [(0,.ptr r 0),(1,.ptr y 0),(2,.ptr z 0)] [] .none h):=
 bF [0,1,2] (hs:=[.v (.bool false),.b false]) (by kernel_rfl)<| .cons (by kernel_rfl:eB Tryz.prog h BinOp.eql 35 (Operand.tmp 7) (Operand.const (Value.pointer none)) (I.ptr r 0) I.bb=some (I.bool false))<| .cons (by kernel_rfl:false=false)<| .nil
theorem T2(call:aI->List I->J->av)(r y z l:Nat)(h g:J)
  (H1:au h y 0=some (.dd l))
  (aQ:call (.dd l) [.ptr r 0] h=av.ret (.bool true) g):
  aH Tryz.prog Tryz.f58 none call [1,1,0] (ah.mk [(0,.ptr r 0),(1,.ptr y 0),(2,.ptr z 0)] [] .none h) (.nrm)
   (ah.mk [(0,.ptr r 0),(1,.ptr y 0),(2,.ptr z 0)] [] .none g):=
 bF [0,1,2] (hs:=[.v (.dd l),.c (.bool true) g,.b false]) (by kernel_rfl)<| .cons H1<| .cons aQ<| .cons (by kernel_rfl:(!true)=false)<| .nil
theorem T3(call:aI->List I->J->av)(r y z l:Nat)(h g:J)
  (H1:au h y 0=some (.dd l))
  (aQ:call (.dd l) [.ptr r 0] h=av.ret (.bool false) g):
  aH Tryz.prog Tryz.f58 none call [1,1,0] (ah.mk [(0,.ptr r 0),(1,.ptr y 0),(2,.ptr z 0)] [] .none h) (.ret)
   (ah.mk [(4,.bool false)] [] .none g):=
 bF [4] (hs:=[.v (.dd l),.c (.bool false) g,.b true]) (by kernel_rfl)<| .cons H1<| .cons aQ<| .cons (by kernel_rfl:(!false)=true)<| .nil
theorem T4(call:aI->List I->J->av)(r y z b off N:Nat)(cp:b3)(h:J)
  (H1:au h r (0+3)=some (.slice b off N cp)):
  aH Tryz.prog Tryz.f58 none call [1,1,1,0,0] (ah.mk [(0,.ptr r 0),(1,.ptr y 0),(2,.ptr z 0)] [] .none h) (.nrm)
   (ah.mk [(0,.ptr r 0),(1,.ptr y 0),(2,.ptr z 0),(16,.slice b off N cp),(17,.int .i64 (.ofNat N)),(18,.int .i64 (.ofNat 0))] [] .none h):=
 bF [0,1,2,16,17,18] (hs:=[.v (.slice b off N cp)]) (by kernel_rfl)<| .cons H1<| .nil
theorem T5(call:aI->List I->J->av)(r y z:Nat)(h:J)
  (H1:au h r (0+3)=some .a0):
  aH Tryz.prog Tryz.f58 none call [1,1,1,0,0] (ah.mk [(0,.ptr r 0),(1,.ptr y 0),(2,.ptr z 0)] [] .none h) (.nrm)
   (ah.mk [(0,.ptr r 0),(1,.ptr y 0),(2,.ptr z 0),(16,.a0),(17,.int .i64 (.ofNat 0)),(18,.int .i64 (.ofNat 0))] [] .none h):=
 bF [0,1,2,16,17,18] (hs:=[.v .a0]) (by kernel_rfl)<| .cons H1<| .nil
theorem KY(call:aI->List I->J->av)(r y z N i:Nat)(v:I)(h:J)
  (H1:bM (.ofNat i) (.ofNat N)=false):
  aH Tryz.prog Tryz.f58 none call [1,1,1,0,1,0,0] (ah.mk [(0,.ptr r 0),(1,.ptr y 0),(2,.ptr z 0),(16,v),(17,.int .i64 (.ofNat N)),(18,.int .i64 (.ofNat i))] [] .none h) (.exit 0)
   (ah.mk [(0,.ptr r 0),(1,.ptr y 0),(2,.ptr z 0)] [] .none h):=
 bF [0,1,2] (hs:=[.b false]) (by kernel_rfl)<| .cons H1<| .nil
theorem T6(call:aI->List I->J->av)(r y z b off N i q j:Nat)(cp:b3)(x:I)(h g:J)
  (H1:bM (.ofNat i) (.ofNat N)=true)
  (aQ:Nat.le (Nat.succ i) N/\I.ptr b q=I.ptr b (off+i*1))
  (bq:au h b q=some x)
  (bo:au h z 0=some (.fn 58 [] [.ptr y 0,.ptr z 0]))
  (bY:call (.fn 58) [x,.ptr y 0,.ptr z 0] h=av.ret (.bool true) g)
  (cJ:arith .add .i64 (.ofNat i) (.ofNat 1)=some (.int .i64 (.ofNat j))):
  aH Tryz.prog Tryz.f58 none call [1,1,1,0,1,0,0] (ah.mk [(0,.ptr r 0),(1,.ptr y 0),(2,.ptr z 0),(16,.slice b off N cp),(17,.int .i64 (.ofNat N)),(18,.int .i64 (.ofNat i))] [] .none h) (.nrm)
   (ah.mk [(0,.ptr r 0),(1,.ptr y 0),(2,.ptr z 0),(16,.slice b off N cp),(17,.int .i64 (.ofNat N)),(18,.int .i64 (.ofNat j))] [] .none g):=
 bF [0,1,2,16,17,18] (hs:=[.b true,.v (.ptr b q),.v x,.v (.fn 58 [] [.ptr y 0,.ptr z 0]),.c (.bool true) g,.b false,.v (.int .i64 (.ofNat j))]) (by kernel_rfl)<| .cons H1<| .cons aQ<| .cons bq<| .cons bo<| .cons bY<| .cons (by kernel_rfl:(!true)=false)<| .cons cJ<| .nil
theorem T7(call:aI->List I->J->av)(r y z b off N i q:Nat)(cp:b3)(x:I)(h g:J)
  (H1:bM (.ofNat i) (.ofNat N)=true)
  (aQ:Nat.le (Nat.succ i) N/\I.ptr b q=I.ptr b (off+i*1))
  (bq:au h b q=some x)
  (bo:au h z 0=some (.fn 58 [] [.ptr y 0,.ptr z 0]))
  (bY:call (.fn 58) [x,.ptr y 0,.ptr z 0] h=av.ret (.bool false) g):
  aH Tryz.prog Tryz.f58 none call [1,1,1,0,1,0,0] (ah.mk [(0,.ptr r 0),(1,.ptr y 0),(2,.ptr z 0),(16,.slice b off N cp),(17,.int .i64 (.ofNat N)),(18,.int .i64 (.ofNat i))] [] .none h) (.ret)
   (ah.mk [(4,.bool false)] [] .none g):=
 bF [4] (hs:=[.b true,.v (.ptr b q),.v x,.v (.fn 58 [] [.ptr y 0,.ptr z 0]),.c (.bool false) g,.b true]) (by kernel_rfl)<| .cons H1<| .cons aQ<| .cons bq<| .cons bo<| .cons bY<| .cons (by kernel_rfl:(!false)=true)<| .nil
theorem T8(call:aI->List I->J->av)(r y z:Nat)(x v:I)(h g:J)
  (H1:au (J.room h 7) z 0=some (.fn 58 [] [.ptr y 0,.ptr z 0]))
  (aQ:au (J.room h 7) r (0+4)=some x)
  (bq:call (.fn 58) [x,.ptr y 0,.ptr z 0] (J.room h 7)=av.ret v g)
  (bo:I.sound x=true:=by first|with_reducible assumption|rfl|exact c7.snd (by with_reducible assumption)|exact c7.g5 (by with_reducible assumption)|exact ey.snd (by with_reducible assumption)|exact ey.g5 (by with_reducible assumption)|exact dE.snd (by with_reducible assumption)|exact dE.g5 (by with_reducible assumption))
  (bY:I.sound v=true:=by first|with_reducible assumption|rfl|exact c7.snd (by with_reducible assumption)|exact c7.g5 (by with_reducible assumption)|exact ey.snd (by with_reducible assumption)|exact ey.g5 (by with_reducible assumption)|exact dE.snd (by with_reducible assumption)|exact dE.g5 (by with_reducible assumption)):
  aH Tryz.prog Tryz.f58 none call [1,1,1,1] (ah.mk [(0,.ptr r 0),(1,.ptr y 0),(2,.ptr z 0)] [] .none h) (.ret)
   (ah.mk [(4,v)] [] .none g):=
 bF [4] (hs:=[.v (.fn 58 [] [.ptr y 0,.ptr z 0]),.v x,.c v g]) (by kernel_rfl)<| .cons H1<| .cons aQ<| .cons bq<| .cons (by kernel_rfl:I.sound (I.fn 58 [] [I.ptr y 0,I.ptr z 0])=true)<| .cons H1<| .cons (by kernel_rfl:I.sound (I.ptr r 0)=true)<| .cons (by kernel_rfl:I.ptr r 0=I.ptr r 0)<| .cons (by kernel_rfl:I.sound (I.ptr r 0)=true)<| .cons (by kernel_rfl:I.ptr r 0=I.ptr r 0)<| .cons (by kernel_rfl:I.sound (I.ptr r (0+4))=true)<| .cons (by kernel_rfl:I.ptr r (0+4)=I.ptr r (0+4))<| .cons bo<| .cons aQ<| .cons bY<| .cons (by kernel_rfl:v=v)<| .nil
noncomputable def E1:Code:=sub (e3 Tryz.f16) [1,1,0,1,0,0]
noncomputable def T9:Code:=sub (e3 Tryz.f16) [1,1,0,1,0,1]
theorem T_:E1=.skip:=by kernel_rfl
noncomputable abbrev vB(s:LoopState)(p:Option Code)(r:aY)(N:Nat):da:=.loop s p (dG Tryz.f16) r [6] E1 T9 (N+2)
structure qv(N:Nat)(h:J)(r:aY)(c:Nat)(x:J):Prop where
 yv:x.get N=some (.cells [.int .i64 (Int.ofNat c)] 3 .own 0 0)
 k6:x.get (N+2)=some (.defrd (some []))
 vC:x.get (N+3)=some (vB .ready none r N)
 dd:x.get (N+4)=some (.cells [.dd (N+3)] 89 .own 0 0)
 vD:x.get (N+5)=some (.cells [.fn 58 [] [.ptr (N+4) 0,.ptr (N+5) 0]] 89 .own 0 0)
 ext:Ext N h x
structure KZ(N:Nat)(h:J)(r:aY)(x:J):Prop where
 yv:x.get N=some (.cells [.int .i64 (Int.ofNat 61)] 3 .own 0 0)
 k6:x.get (N+2)=some (.defrd (some []))
 vC:x.get (N+3)=some (vB .done (some (.exit 0)) r N)
 ext:Ext N h x
theorem qv.room{N:Nat}{h:J}{r:aY}{c:Nat}{x:J}(af:qv N h r c x)(k:Nat):qv N h r c (x.room k):=⟨af.yv,af.k6,af.vC,af.dd,af.vD,af.ext.h3⟩
theorem Ua(m:Nat){N:Nat}{h:J}{r:aY}{c:Nat}{x:J}(ak:aM.Mod r [(3,.ptr N 0)])(af:qv N h r c x)(ag:c<=60)(v:I):
  ∃b y,Y (m+1) (.dd (N+3)) [v] x=.ret (.bool b) y/\((b=true/\c+1<=60/\qv N h r (c+1) y)\/(b=false/\60<c+1/\KZ N h r y)):=by
 have aW:Y (m+1) (.dd (N+3)) [v] x=su Tryz.prog (Y m) (N+3) [v] x:=rfl
 rw[aW]
 have aS:∀q,cZ Tryz.prog (dG Tryz.f16) (some (N+3)) (Y m) E1 ⟨put 6 v [(3,.ptr N 0)],[],q,x⟩ .nrm ⟨[(3,.ptr N 0)],[],q,x⟩:=λq r' hm=>by
  rw[T_]
  exact⟨r',rfl,hm.sub ⟨rfl,trivial⟩⟩
 have dV:(x.set (N+3) (some (vB .busy none r N))).get N=some (.cells [.int .i64 (Int.ofNat c)] 3 .own 0 0):=by
  rw[J.cR,if_neg (by omega)];exact af.yv
 by_cases pv:c+1<=60
 · have ae:=TU (Y m) (N+3) N c (c+1) _ _ (nt dV) (j3 (m:=100) (by omega) (by decide)) (AR (y:=.int .i64 (Int.ofNat (c+1))) rfl dV) (nt (t:=3) (by rw[J.cR,if_pos rfl])) (eW (by omega))
   have e:=JH af.vC ak (aS _) ae (by rw[J.cR,if_neg (by omega),J.cR,if_pos rfl])
   rw[e]
   refine⟨true,_,rfl,.inl ⟨rfl,pv,?_,?_,?_,?_,?_,?_⟩⟩
   · simp only[J.cR];rw[if_neg (by omega),if_pos trivial]
   · simp only[J.cR];rw[if_neg (by omega),if_neg (by omega),if_neg (by omega)];exact af.k6
   · simp only[J.cR];rw[if_pos trivial]
   · simp only[J.cR];rw[if_neg (by omega),if_neg (by omega),if_neg (by omega)];exact af.dd
   · simp only[J.cR];rw[if_neg (by omega),if_neg (by omega),if_neg (by omega)];exact af.vD
   · exact((af.ext.iQ (by omega)).iQ (by omega)).iQ (by omega)
 · have ae:=TT (Y m) (N+3) N c (c+1) _ _ (nt dV) (j3 (m:=100) (by omega) (by decide)) (AR (y:=.int .i64 (Int.ofNat (c+1))) rfl dV) (nt (t:=3) (by rw[J.cR,if_pos rfl])) (dS (by omega))
   have e:=JH af.vC ak (aS _) ae (by rw[J.cR,if_neg (by omega),J.cR,if_pos rfl])
   rw[e]
   have xp:c+1=61:=by omega
   refine⟨false,_,rfl,.inr ⟨rfl,by omega,?_,?_,?_,?_⟩⟩
   · simp only[J.cR];rw[if_neg (by omega),if_pos trivial,xp]
   · simp only[J.cR];rw[if_neg (by omega),if_neg (by omega),if_neg (by omega)];exact af.k6
   · simp only[J.cR];rw[if_pos trivial]
   · exact((af.ext.iQ (by omega)).iQ (by omega)).iQ (by omega)
def tL(N:Nat)(h:J)(r:aY)(c s:Nat)(b:Bool)(y:J):Prop:=(b=true/\c+s<=60/\qv N h r (c+s) y)\/(b=false/\60<c+s/\KZ N h r y)
def E2(m:Nat)(N:Nat)(h:J)(r:aY)(B:Nat)(ot:Option aF):Prop:=∀(v:I) (c:Nat) (x:J),c<=60->ey B h ot v->qv N h r c x->∃b y,Y m (.fn 58) [v,.ptr (N+4) 0,.ptr (N+5) 0] x=.ret (.bool b) y/\tL N h r c (dx ot) b y
theorem K0{m N B R b off:Nat}{h:J}{r:aY}{xs:List aF}{vs:List I}(cp:b3)(cM:B<=N)(ae:b<B)(aa:dO B h xs vs)(aw:∀i (af:i<vs.length),au h b (off+i*1)=some vs[i])(hlen:vs.length<=1000000)
  (a6:∀i (ad:i<xs.length),E2 m N h r B (some xs[i])):∀(k i c:Nat) (x:J),vs.length-i=k->i<=vs.length->c<=60->qv N h r c x->
  ∃e Γ y,ft Tryz.prog Tryz.f58 none (Y m) [1,1,1,0,1,0] (k+1) ⟨[(0,.ptr R 0),(1,.ptr (N+4) 0),(2,.ptr (N+5) 0),(16,.slice b off vs.length cp),(17,.int .i64 (Int.ofNat vs.length)),(18,.int .i64 (Int.ofNat i))],[],.none,x⟩ e ⟨Γ,[],.none,y⟩/\
   ((e=.exit 0/\Γ=[(0,.ptr R 0),(1,.ptr (N+4) 0),(2,.ptr (N+5) 0)]/\tL N h r c (cY (xs.drop i)) true y)\/(e=.ret/\Γ=[(4,.bool false)]/\tL N h r c (cY (xs.drop i)) false y))
 |0,i,c,x,aq,af,ag,l3=>by
  have fs:=dO.len aa
  obtain rfl:i=vs.length:=by omega
  rw[List.drop_of_length_le (by omega)]
  exact⟨_,_,_,.exit (KY (Y m) R (N+4) (N+5) _ _ _ x (eW (by omega))) (by simp),.inl ⟨rfl,rfl,.inl ⟨rfl,ag,l3⟩⟩⟩
 |k+1,i,c,x,aq,af,ag,l3=>by
  have fs:=dO.len aa
  have ab:i<vs.length:=by omega
  have ad:i<xs.length:=by omega
  have ao:cY (xs.drop i)=sz xs[i]+cY (xs.drop (i+1)):=by
   rw[List.drop_eq_getElem_cons ad];rfl
  have fU:au x b (off+i*1)=some vs[i]:=by
   rw[<-aw i ab]
   unfold au
   rw[l3.ext.get b (by omega)]
  obtain⟨fh,y,aA,ay⟩:=a6 i ad vs[i] c x ag (dO.get aa i ab ad) l3
  have eF:dx (some xs[i])=sz xs[i]:=by unfold dx;rfl
  rw[eF] at ay
  rcases ay with⟨rfl,bx,ef⟩|⟨rfl,bx,ef⟩
  · have st:=T6 (Y m) R (N+4) (N+5) b off vs.length i (off+i*1) (i+1) cp vs[i] x y (dS ab) ⟨ab,rfl⟩ fU (nt l3.vD) aA (j3 ab (by omega))
    obtain⟨e,Γ,z,bB,b2⟩:=K0 (R:=R) cp cM ae aa aw hlen a6 k (i+1) (c+sz xs[i]) y (by omega) (by omega) bx ef
    refine⟨e,Γ,z,.step st bB,?_⟩
    unfold tL at b2⊢
    rw[ao,<-Nat.add_assoc]
    exact b2
  · have st:=T7 (Y m) R (N+4) (N+5) b off vs.length i (off+i*1) cp vs[i] x y (dS ab) ⟨ab,rfl⟩ fU (nt l3.vD) aA
    exact⟨_,_,_,.exit st (by simp),.inr ⟨rfl,rfl,.inr ⟨rfl,by omega,ef⟩⟩⟩
theorem E3{N B:Nat}{h:J}{r:aY}(ak:aM.Mod r [(3,.ptr N 0)])(cM:B<=N):∀(K:Nat) (ot:Option aF),dx ot<=K->dx ot<=90000->∀m,dx ot+3<=m->E2 m N h r B ot
 |K,none,_,_,m,hm=>λv c x ag aB l3=>by
  obtain rfl:v=.bb:=aB
  obtain⟨m,rfl⟩:∃j,m=j+1:=⟨m-1,by omega⟩
  exact⟨true,x,eK (intr:=b1) (n:=m) (args:=[.bb,.ptr (N+4) 0,.ptr (N+5) 0]) Tryz.func58 (by kernel_rfl) rfl (by kernel_rfl) (TZ (Y m) (N+4) (N+5) x) (.inl rfl) (by kernel_rfl),.inl ⟨rfl,ag,l3⟩⟩
 |0,some t,di,_,m,hm=>by
  have eF:dx (some t)=sz t:=by unfold dx;rfl
  have:=rS t
  omega
 |K+1,some (.mk k nm ns xs rt),di,gW,m,hm=>λv c x ag aB l3=>by
  have hs:dx (some (.mk k nm ns xs rt))=1+cY xs+dx rt:=by rw[l0,mL]
  obtain⟨R,bJ,bd,cU,vs,bh,aN,up,rfl,ad,ar,aJ,bO,cj,db⟩:=aB
  rw[hs] at di gW hm⊢
  obtain⟨m,rfl⟩:∃j,m=j+1:=⟨m-1,by omega⟩
  obtain⟨m,rfl⟩:∃j,m=j+1:=⟨m-1,by omega⟩
  have fs:=dO.len cj
  have ja:=nD xs
  have hL:=T0 (Y (m+1)) R (N+4) (N+5) x
  have s1:=T1 (Y (m+1)) R (N+4) (N+5) x
  obtain⟨fh,y,aA,ay⟩:=Ua m ak l3 ag (.ptr R 0)
  rcases ay with⟨rfl,bx,ef⟩|⟨rfl,bx,ef⟩
  · have s2:=T2 (Y (m+1)) R (N+4) (N+5) (N+3) x y (nt l3.dd) aA
    have Ub:y.get R=some (.cells [.int .i64 (Int.ofNat k),.str nm,bJ,bd,cU] 80 bh aN up):=by
     rw[ef.ext.get R (by omega)];exact ar
    have fU:au y R (0+3)=some bd:=aU Ub rfl
    have a6:∀i (ad:i<xs.length),E2 (m+1) N h r B (some xs[i]):=λi ad=>by
     have h1:=oh (List.getElem_mem ad)
     have eF:dx (some xs[i])=sz xs[i]:=by unfold dx;rfl
     exact E3 ak cM K (some xs[i]) (by omega) (by omega) (m+1) (by omega)
    have loop:∃e Γ z,aH Tryz.prog Tryz.f58 none (Y (m+1)) [1,1,1,0] ⟨[(0,.ptr R 0),(1,.ptr (N+4) 0),(2,.ptr (N+5) 0)],[],.none,y⟩ e ⟨Γ,[],.none,z⟩/\
      ((e=.nrm/\Γ=[(0,.ptr R 0),(1,.ptr (N+4) 0),(2,.ptr (N+5) 0)]/\tL N h r (c+1) (cY xs) true z)\/(e=.ret/\Γ=[(4,.bool false)]/\tL N h r (c+1) (cY xs) false z)):=by
     rcases bO with⟨rfl,rfl⟩|⟨b,off,cp,rfl,ae,aw,_⟩
     · have mh:xs=[]:=List.eq_nil_of_length_eq_zero (by simpa using fs.symm)
       subst mh
       refine⟨_,_,_,aH.seq (p:=[1,1,1,0]) (by kernel_rfl) (T5 (Y (m+1)) R (N+4) (N+5) y fU) (aH.block (p:=[1,1,1,0,1]) (id:=0) (by kernel_rfl) (ft.run (p:=[1,1,1,0,1,0]) (n:=1) (by kernel_rfl) (.exit (KY (Y (m+1)) R (N+4) (N+5) 0 0 _ y (by kernel_rfl)) (by simp)) (by omega))),.inl ⟨rfl,rfl,.inl ⟨rfl,bx,ef⟩⟩⟩
     · obtain⟨e,Γ,z,bB,b2⟩:=K0 (R:=R) cp cM ae cj aw (by omega) a6 vs.length 0 (c+1) y (by omega) (by omega) bx ef
       rw[List.drop_zero] at b2
       have dq:=ft.run (p:=[1,1,1,0,1,0]) (by kernel_rfl) bB (by omega)
       have im:=T4 (Y (m+1)) R (N+4) (N+5) b off vs.length cp y fU
       rcases b2 with⟨rfl,iq,E4⟩|⟨rfl,iq,E4⟩
       · exact⟨_,_,_,aH.seq (p:=[1,1,1,0]) (by kernel_rfl) im (aH.block (p:=[1,1,1,0,1]) (id:=0) (by kernel_rfl) dq),.inl ⟨rfl,iq,E4⟩⟩
       · exact⟨_,_,_,aH.seq (p:=[1,1,1,0]) (by kernel_rfl) im (aH.te (p:=[1,1,1,0,1]) (id:=0) (by kernel_rfl) dq (by simp)),.inr ⟨rfl,iq,E4⟩⟩
    obtain⟨e,Γ,z,bB,b2⟩:=loop
    rcases b2 with⟨rfl,rfl,b2⟩|⟨rfl,rfl,b2⟩
    · rcases b2 with⟨_,dq,im⟩|⟨dq,_⟩
      · have iq:=im.room 7
        have Uc:(z.room 7).get R=some (.cells [.int .i64 (Int.ofNat k),.str nm,bJ,bd,cU] 80 bh aN up):=by
         rw[iq.ext.get R (by omega)];exact ar
        obtain⟨fh,w,cK,cG⟩:=E3 ak cM K rt (by omega) (by omega) (m+1) (by omega) cU (c+1+cY xs) _ dq db iq
        have eA:I.sound cU=true:=by
         cases rt with
         |none=>obtain rfl:cU=.bb:=db;rfl
         |some u=>
          cases u with
          |mk k nm ns ys rt=>obtain⟨r,bJ,bd,_,vs,bh,aN,up,rfl,_⟩:=db;rfl
        have bL:=T8 (Y (m+1)) R (N+4) (N+5) cU (.bool fh) z w (nt iq.vD) (aU Uc rfl) cK eA rfl
        refine⟨fh,w,eK (intr:=b1) (n:=m+1) (args:=[.ptr R 0,.ptr (N+4) 0,.ptr (N+5) 0]) Tryz.func58 (by kernel_rfl) rfl (by kernel_rfl) (aH.seq (p:=[]) (by kernel_rfl) hL (aH.seq (p:=[1]) (by kernel_rfl) s1 (aH.seq (p:=[1,1]) (by kernel_rfl) s2 (aH.seq (p:=[1,1,1]) (by kernel_rfl) bB bL)))) (.inl rfl) rfl,?_⟩
        have hb:c+1+cY xs+dx rt=c+(1+cY xs+dx rt):=by omega
        unfold tL at cG⊢
        rw[hb] at cG
        exact cG
      · simp at dq
    · rcases b2 with⟨dq,_⟩|⟨_,dq,im⟩
      · simp at dq
      · exact⟨false,z,eK (intr:=b1) (n:=m+1) (args:=[.ptr R 0,.ptr (N+4) 0,.ptr (N+5) 0]) Tryz.func58 (by kernel_rfl) rfl (by kernel_rfl) (aH.seq (p:=[]) (by kernel_rfl) hL (aH.seq (p:=[1]) (by kernel_rfl) s1 (aH.seq (p:=[1,1]) (by kernel_rfl) s2 (aH.iD (p:=[1,1,1]) (by kernel_rfl) bB (by simp))))) (.inl rfl) (by kernel_rfl),.inr ⟨rfl,by omega,im⟩⟩
  · have s2:=T3 (Y (m+1)) R (N+4) (N+5) (N+3) x y (nt l3.dd) aA
    exact⟨false,y,eK (intr:=b1) (n:=m+1) (args:=[.ptr R 0,.ptr (N+4) 0,.ptr (N+5) 0]) Tryz.func58 (by kernel_rfl) rfl (by kernel_rfl) (aH.seq (p:=[]) (by kernel_rfl) hL (aH.seq (p:=[1]) (by kernel_rfl) s1 (aH.iD (p:=[1,1]) (by kernel_rfl) s2 (by simp)))) (.inl rfl) (by kernel_rfl),.inr ⟨rfl,by omega,ef⟩⟩
end Go.Proofs.cF
namespace Go.Proofs.cF
open Go aM Go.Proofs c_
set_option maxRecDepth 100000
set_option maxHeartbeats 1000000
theorem Ud{call:aI->List I->J->av}(j N:Nat)(r:aY)(q:bD)(h:J)(hm:aM.Mod r [(2,.int .i64 (Int.ofNat j))])(ao:h.get (N+2)=some (.defrd (some []))):
  oT Tryz.prog call Tryz.f16 (.ok .ret r [.collected (N+2)] q h)=.ret (.int .i64 (Int.ofNat j)) (h.set (N+2) (some (.defrd none))):=by
 have ak:=Eb hm (rfl:rC Tryz.prog (dG Tryz.f16) Tryz.f16 [(2,.int .i64 (Int.ofNat j))] (h.set (N+2) (some (.defrd none)))=some (.int .i64 (Int.ofNat j)))
 simp only[oT,i_,ao,List.nil_append,ak]
theorem Ue{ot:Option aF}{B:Nat}{h:J}{v:I}(m:Nat)(gW:dx ot<=90000)(cM:B<=h.n)(aB:ey B h ot v)(hm:dx ot+3<=m):
  ∃an,Y (m+2) (.fn 16) [v] h=.ret (.int .i64 (Int.ofNat (min (dx ot) 61))) an/\Ext h.n h an:=by
 have Uf:=aB.Be
 let ab:=(h.push (.cells [.int .i64 (Int.ofNat 0)] 3 .own 0 0)).set h.n (some (.cells [.int .i64 (Int.ofNat 0)] 3 .own 0 0))
 let ad:=ab.push (.cells [v] 35 .own 0 0)
 have aD:ab.n=h.n+1:=rfl
 have bm:ad.n=h.n+2:=rfl
 have aG:aM.storeCells (h.push (.cells [.int .i64 (Int.ofNat 0)] 3 .own 0 0)) h.n 0 [.int .i64 (Int.ofNat 0)]=some ab:=
  AR (x:=.int .i64 (Int.ofNat 0)) (t:=3) rfl (by rw[J.gk,if_pos rfl])
 have Ug:Y (m+1) (.fn 37) [v] ab=.ret (.fn 57 [] [.ptr (h.n+1) 0]) ad:=by
  rcases Uf with rfl|⟨R,rfl⟩
  · exact eK (intr:=b1) (n:=m) (args:=[.bb]) Tryz.func37 (by kernel_rfl) rfl (by kernel_rfl) (TX (Y m) ab) (.inl rfl) rfl
  · exact eK (intr:=b1) (n:=m) (args:=[.ptr R 0]) Tryz.func37 (by kernel_rfl) rfl (by kernel_rfl) (TW (Y m) R ab) (.inl rfl) rfl
 have w:WF Tryz.prog Tryz.f16 none (Y (m+1)) [] (λe r d q an=>∃lk,oT Tryz.prog (Y (m+1)) Tryz.f16 (.ok e r d q an)=.ret (.int .i64 (Int.ofNat (min (dx ot) 61))) lk/\Ext h.n h lk) (m3 0 [v] .leaf) [] .none h:=by
  refine WF.seq (p:=[]) (by kernel_rfl) (W.of (TQ (Y (m+1)) v h) (AN [v]) λr1 a3=>.inl ⟨rfl,?_⟩)
  refine WF.seq (p:=[1]) (by kernel_rfl) (W.of (TR (Y (m+1)) v h ab aG) a3 λr2 bS=>.inl ⟨rfl,?_⟩)
  refine WF.seq (p:=[1,1]) (by kernel_rfl) ?_
  refine WF.seq (p:=[1,1,0]) (by kernel_rfl) (W.of (TS (Y (m+1)) v _ h.n ab ad Ug) bS λed nC=>.inl ⟨rfl,?_⟩)
  refine WF.block (p:=[1,1,0,1]) (id:=0) (by kernel_rfl) ?_
  refine WF.range (p:=[1,1,0,1,0]) (t:=5) (ps:=[6]) (by kernel_rfl) (by kernel_rfl) (hf:=rfl) (hm:=nC) ?_
  let lp:=(ad.push (.defrd (some []))).push (vB .ready none ed h.n)
  let bA:=((lp.push (.cells [.dd (h.n+3)] 89 .own 0 0)).push (.cells [.fL] 89 .own 0 0)).set (h.n+5) (some (.cells [.fn 58 [] [.ptr (h.n+4) 0,.ptr (h.n+5) 0]] 89 .own 0 0))
  have K1:aM.Mod ed [(3,.ptr h.n 0)]:=nC.sub ⟨rfl,trivial⟩
  have acD:lp.n=h.n+4:=rfl
  have hb:Ext h.n h ab:=(Ext.push (Nat.le_refl _) _).iQ (Nat.le_refl _)
  have nA:Ext h.n h ad:=hb.ks (by omega)
  have rT:Ext h.n h lp:=(nA.ks (by omega)).ks (by show h.n<=h.n+3;omega)
  have tG:Ext h.n h bA:=((rT.ks (by omega)).ks (by show h.n<=h.n+5;omega)).iQ (by omega)
  have i0:qv h.n h ed 0 bA:=by
   refine⟨?_,?_,?_,?_,?_,?_⟩
   · simp only[bA,lp,ad,ab,J.gk,J.cR,J.qW,J.uw];grind
   · simp only[bA,lp,ad,ab,J.gk,J.cR,J.qW,J.uw];grind
   · simp only[bA,lp,ad,ab,J.gk,J.cR,J.qW,J.uw];grind
   · simp only[bA,lp,ad,ab,J.gk,J.cR,J.qW,J.uw];grind
   · simp only[bA,lp,ad,ab,J.gk,J.cR,J.qW,J.uw];grind
   · exact tG
  obtain⟨fh,y,aA,ay⟩:=E3 K1 cM (dx ot) ot (Nat.le_refl _) gW m hm v 0 bA (by decide) aB i0
  have ch:aM.storeCells ((lp.push (.cells [.dd (h.n+3)] 89 .own 0 0)).push (.cells [.fL] 89 .own 0 0)) (h.n+5) 0 [.fn 58 [] [.ptr (h.n+4) 0,.ptr (h.n+5) 0]]=some bA:=
   AR (x:=.fL) rfl (by rw[J.gk];exact if_pos rfl)
  have ik:bA.get (h.n+1)=some (.cells [v] 35 .own 0 0):=by
   simp only[bA,lp,ad,ab,J.gk,J.cR,J.qW,J.uw];grind
  have Uh:=TY (Y m) (h.n+3) (h.n+1) v (.bool fh) lp bA y ch (nt i0.vD) (nt ik) aA
  have lZ:Y (m+1) (.fn 57) [.dd (h.n+3),.ptr (h.n+1) 0] lp=.ret (.aP []) y:=
   eK (intr:=b1) (n:=m) (args:=[.dd (h.n+3),.ptr (h.n+1) 0]) Tryz.func57 (by kernel_rfl) rfl (by kernel_rfl) Uh (.inr rfl) (by kernel_rfl)
  have fin:∀(j:Nat) (z:J),j=min (dx ot) 61->z.get h.n=some (.cells [.int .i64 (Int.ofNat j)] 3 .own 0 0)->z.get (h.n+2)=some (.defrd (some []))->Ext h.n h z->
    WF Tryz.prog Tryz.f16 none (Y (m+1)) [1,1,1] (λe r d q an=>∃lk,oT Tryz.prog (Y (m+1)) Tryz.f16 (.ok e r d q an)=.ret (.int .i64 (Int.ofNat (min (dx ot) 61))) lk/\Ext h.n h lk) ed [.collected (h.n+2)] .none z:=λj z aL aZ pX Ui=>by
   refine W.of (TV (Y (m+1)) h.n j (h.n+2) _ (nt aZ)) K1 λfq Uj=>?_
   subst aL
   exact⟨_,Ud (min (dx ot) 61) h.n fq _ _ Uj pX,Ui.iQ (by omega)⟩
  rcases ay with⟨rfl,bx,ef⟩|⟨rfl,bx,ef⟩
  · have tC:m2 (h.n+3) ed [.collected (h.n+2)] .none (.ret (.aP []) y)=.ok .nrm ed [.collected (h.n+2)] .none (y.set (h.n+3) (some (vB .exhausted none ed h.n))):=by
      simp only[m2,ef.vC]
    refine⟨.nrm,_,(congrArg (m2 (h.n+3) ed [.collected (h.n+2)] .none) lZ).trans tC,.inr ⟨by simp,.inl ⟨rfl,?_⟩⟩⟩
    exact fin (0+dx ot) _ (by omega) (by rw[J.cR,if_neg (by omega)];exact ef.yv) (by rw[J.cR,if_neg (by omega)];exact ef.k6) (ef.ext.iQ (by omega))
  · have tC:m2 (h.n+3) ed [.collected (h.n+2)] .none (.ret (.aP []) y)=.ok (.exit 0) ed [.collected (h.n+2)] .none (y.set (h.n+3) (some (vB .exhausted (some (.exit 0)) ed h.n))):=by
      simp only[m2,ef.vC]
    refine⟨.exit 0,_,(congrArg (m2 (h.n+3) ed [.collected (h.n+2)] .none) lZ).trans tC,.inl ⟨rfl,.inl ⟨rfl,?_⟩⟩⟩
    exact fin 61 _ (by omega) (by rw[J.cR,if_neg (by omega)];exact ef.yv) (by rw[J.cR,if_neg (by omega)];exact ef.k6) (ef.ext.iQ (by omega))
 obtain⟨e,r,d,q,an,cK,lk,cG,iN⟩:=w
 exact⟨lk,So (intr:=b1) (n:=m+1) (args:=[v]) Tryz.func16 (by kernel_rfl) rfl (by kernel_rfl) ⟨e,r,d,q,an,cK,cG⟩,iN⟩
end Go.Proofs.cF
namespace Go.Proofs.cF
open Go aM Go.Proofs c_
set_option maxRecDepth 100000
set_option maxHeartbeats 1000000
theorem E5{a b:Nat}(h:a≠b):(!a8 (Int.ofNat a) (Int.ofNat b))=true:=by
 rw[ji h];rfl
theorem Bf{a b:Nat}(h:a=b):(!a8 (Int.ofNat a) (Int.ofNat b))=false:=by
 rw[mB h];rfl
theorem c7.strs{B:Nat}{h:J}{v:I}{us:List a5}(hs:c7 B h v (us.map .str)):(v=.a0/\us=[])\/∃b off cp,v=.slice b off us.length cp/\b<B/\∀i (af:i<us.length),au h b (off+i*1)=some (.str us[i]):=by
 rcases hs with⟨ab,ad⟩|⟨b,off,cp,ab,ad,ar,_⟩
 · exact .inl ⟨ab,by simpa using ad⟩
 · refine .inr ⟨b,off,cp,by simpa using ab,ad,λi af=>?_⟩
   have:=ar i (by simpa using af)
   simpa using this
theorem nE{B b i:Nat}{h x:J}(e:Ext B h x)(ae:b<B):au x b i=au h b i:=by
 unfold au;rw[e.get b ae]
end Go.Proofs.cF
namespace Go.Proofs.cF
open Go aM Go.Proofs c_
set_option maxRecDepth 100000
set_option maxHeartbeats 1000000
end Go.Proofs.cF
namespace Go.Proofs.cF
open Go aM Go.Proofs c_
set_option maxRecDepth 100000
set_option maxHeartbeats 1000000
end Go.Proofs.cF
namespace Go.Proofs.cF
open Go aM Go.Proofs c_
set_option maxRecDepth 100000
set_option maxHeartbeats 1000000
theorem c7.vE{B:Nat}{h g:J}{v:I}{us:List a5}(hs:c7 B h v (us.map .str)):b9 Tryz.prog g 63 v=some (.int .i64 (Int.ofNat us.length)):=by
 have:=c7.len (g:=g) (t:=63) (e:=9) (by kernel_rfl) hs
 rwa [List.length_map] at this
theorem c7.oj{B:Nat}{h g:J}{v:I}{vs:List I}(hs:c7 B h v vs):b9 Tryz.prog g 50 v=some (.int .i64 (Int.ofNat vs.length)):=c7.len (e:=35) (by kernel_rfl) hs
end Go.Proofs.cF
namespace Go.Proofs.cF
open Go aM Go.Proofs c_
set_option maxRecDepth 100000
set_option maxHeartbeats 1000000
theorem Uk{ot:Option aF}{B:Nat}{h:J}{v:I}{m:Nat}(ae:dx ot<=90000)(hm:dx ot<m)(aB:ey B h ot v):Y (m+1) (.fn 52) [v] h=.ret (.int .i64 (Int.ofNat (min (dx ot) 61))) h:=by
 cases ot with
 |none=>
  obtain rfl:v=.bb:=aB
  obtain⟨m,rfl⟩:∃j,m=j+1:=⟨m-1,by omega⟩
  exact eK (intr:=b1) (n:=m+1) (args:=[.bb]) Tryz.func52 (by kernel_rfl) rfl (by kernel_rfl) (KU (Y (m+1)) _ .bb h h (KW m 0 h)) (.inl rfl) (by kernel_rfl)
 |some t=>
  rw[l0] at ae hm⊢
  exact KX ae hm aB
end Go.Proofs.cF
