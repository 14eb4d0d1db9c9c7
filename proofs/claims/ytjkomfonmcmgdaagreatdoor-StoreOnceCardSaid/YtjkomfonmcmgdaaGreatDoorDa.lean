/-
  PROVED HERE: contracts of functions (Da). No condition beside each statement's own.
-/
import Derived.Test.YtjkomfonmcmgdaaGreatDoorTx
import Derived.Test.YtjkomfonmcmgdaaGreatDoorAx
import Derived.Test.YtjkomfonmcmgdaaGreatDoorProg
import Derived.Test.YtjkomfonmcmgdaaGreatDoorSxa
set_option linter.unusedVariables false
set_option linter.unusedSimpArgs false
set_option maxRecDepth 100000
set_option maxHeartbeats 1000000
namespace Go.Proofs.jj
open Go bt Go.Proofs
theorem Vs(call:aP)(c m:Nat)(h:J){Q:bu->ah->Prop}(H:∃aE:Nat,ar h c 0=some (.ptr aE 0)/\ar h aE (0+3)=some (.map m)/\∃bf:Nat,∃ai:J,B1 h (.map m)=some (.ptr bf 0,ai)/\Q .nrm (ah.mk [(0,.ptr c 0),(1,.int .u64 (.ofNat 0)),(8,.ptr bf 0)] [] .none ai)):
  a4 Tryz.prog Tryz.f40 call [1,0,0] ⟨[(0,.ptr c 0),(1,.int .u64 (.ofNat 0))],[],.none,h⟩ Q:=
 dF [(7,.bq (.is (.map m))),(8,.bq .p)] [0,1,8] [(0,.v (.ptr c 0)),(1,.v (.int .u64 (.ofNat 0)))] rfl (Eq.mp (by kernel_rfl) H)
theorem Vt(call:aP)(c:Nat)(h:J){Q:bu->ah->Prop}(H:Q .nrm (ah.mk [(0,.ptr c 0),(1,.int .u64 (.ofNat 0))] [] .none h)):
  a4 Tryz.prog Tryz.f40 call [0] ⟨[(0,.ptr c 0)],[],.none,h⟩ Q:=
 dF [] [0,1] [(0,.v (.ptr c 0))] rfl (Eq.mp (by kernel_rfl) H)
theorem wP(call:aP)(c b it:Nat)(x:Bool)(h:J){Q:bu->ah->Prop}(H:(x=true->∃aE:Nat,∃bf:Nat,tB h (.ptr it 0)=some (.aO [.int .u64 (.ofNat aE),.ptr bf 0])/\∃bH:Nat,ar (h.room 32) bf (0+7)=some (.int .i64 (.ofNat bH))/\(bH=0->∃bU:Nat,ar (h.room 32) bf (0+8)=some (.int .i64 (.ofNat bU))/\(bU=0->(b=0->Q .nrm (ah.mk [(0,.ptr c 0),(1,.int .u64 (.ofNat aE)),(8,.ptr it 0)] [] .none (h.room 32)))/\(¬b=0->∃b_:Nat,ar (h.room 32) bf (0+9)=some (.int .u64 (.ofNat b_))/\∃cv:Nat,ar (h.room 32) c 0=some (.ptr cv 0)/\∃v1:I,ar (h.room 32) cv (0+3)=some v1/\∃c4:Nat,hO Tryz.prog (h.room 32) 55 v1 (.int .u64 (.ofNat b)) false=some (.ptr c4 0)/\∃eo:Nat,ar (h.room 32) c4 (0+9)=some (.int .u64 (.ofNat eo))/\I.sound v1=true/\(b_<eo->Q .nrm (ah.mk [(0,.ptr c 0),(1,.int .u64 (.ofNat aE)),(8,.ptr it 0)] [] .none (h.room 32)))/\(¬b_<eo->Q .nrm (ah.mk [(0,.ptr c 0),(1,.int .u64 (.ofNat b)),(8,.ptr it 0)] [] .none (h.room 32)))))/\(¬bU=0->Q .nrm (ah.mk [(0,.ptr c 0),(1,.int .u64 (.ofNat b)),(8,.ptr it 0)] [] .none (h.room 32))))/\(¬bH=0->Q .nrm (ah.mk [(0,.ptr c 0),(1,.int .u64 (.ofNat b)),(8,.ptr it 0)] [] .none (h.room 32))))/\(x=false->Q (.exit 0) (ah.mk [(0,.ptr c 0),(1,.int .u64 (.ofNat b)),(8,.ptr it 0)] [] .none h))):
  a4 Tryz.prog Tryz.f40 call [1,0,1,0,0,1] ⟨[(0,.ptr c 0),(1,.int .u64 (.ofNat b)),(8,.ptr it 0),(10,.bool x)],[],.none,h⟩ Q:=
 dF [(11,.bq (.fC [.n .u64,.p]))] [0,1,8] [(0,.v (.ptr c 0)),(1,.v (.int .u64 (.ofNat b))),(8,.v (.ptr it 0)),(10,.v (.bool x))] rfl (Eq.mp (by kernel_rfl) H)
theorem Vu(call:aP)(b:Nat)(h:J){Q:bu->ah->Prop}(H:Q .ret (ah.mk [(1,.int .u64 (.ofNat b))] [] .none h)):
  a4 Tryz.prog Tryz.f40 call [1,1] ⟨[(1,.int .u64 (.ofNat b))],[],.none,h⟩ Q:=
 dF [] [1] [(1,.v (.int .u64 (.ofNat b)))] rfl (Eq.mp (by kernel_rfl) H)
theorem a4.run{P:Program}{fn:Func}{call:aP}{p:List Nat}{st s:ah}{e:bu}(h:a4 P fn call p st λcI bd=>cI=e/\bd=s):aB P fn none call p st e s:=by
 obtain⟨cI,bd,r,rfl,rfl⟩:=h;exact r
structure eb where
 id:Nat
 b:Nat
 pins:Nat
 held:Nat
 used:Nat
 born:Nat
def eb.loose(d:eb):Bool:=Nat.beq d.pins 0&&Nat.beq d.held 0
def sY(h:J)(e:dU):Option eb:=match e.key,e.val with
 |.int .u64 (.ofNat id),.ptr b 0=>match ar h b 7,ar h b 8,ar h b 9 with
  |some (.int .i64 (.ofNat p)),some (.int .i64 (.ofNat q)),some (.int .u64 (.ofNat u))=>some ⟨id,b,p,q,u,e.born⟩
  |_,_,_=>none
 |_,_=>none
theorem uY{h:J}{e:dU}{d:eb}(ao:sY h e=some d):e.key=.int .u64 (Int.ofNat d.id)/\e.val=.ptr d.b 0/\ar h d.b 7=some (.int .i64 (Int.ofNat d.pins))/\ar h d.b 8=some (.int .i64 (Int.ofNat d.held))/\ar h d.b 9=some (.int .u64 (Int.ofNat d.used))/\e.born=d.born:=by
 unfold sY at ao
 split at ao
 · rename_i id b aa ad
   split at ao
   · rename_i p q u av aG bI
     cases ao
     exact⟨aa,ad,av,aG,bI,rfl⟩
   · cases ao
 · cases ao
def uZ(h:J):List dU->Option (List eb)
 |[]=>some []
 |e::es=>match sY h e with
  |some d=>match uZ h es with
   |some l=>some (d::l)
   |none=>none
  |none=>none
inductive qn(h:J):List dU->List eb->Prop where
 |nil:qn h [] []
 |cons {e es d l}:sY h e=some d->qn h es l->qn h (e::es) (d::l)
theorem Mb{h:J}:∀{es:List dU} {l:List eb},uZ h es=some l->qn h es l
 |[],l,aw=>by cases aw;exact .nil
 |e::es,l,aw=>by
  unfold uZ at aw
  split at aw
  · rename_i d ao
    split at aw
    · rename_i oZ q0
      cases aw
      exact .cons ao (Mb q0)
    · cases aw
  · cases aw
theorem qn.eF{h:J}{es:List dU}{l:List eb}(aw:qn h es l):∀e∈es,∃d∈l,sY h e=some d:=by
 induction aw with
 |nil=>intro e he;cases he
 |cons aa ad bb=>
  intro e he
  rcases List.mem_cons.1 he with rfl|he
  · exact⟨_,by simp,aa⟩
  · obtain⟨d,av,aG⟩:=bb e he;exact⟨d,by simp[av],aG⟩
theorem qn.Mc{h:J}{es:List dU}{l:List eb}(aw:qn h es l):∀d∈l,∃e∈es,sY h e=some d:=by
 induction aw with
 |nil=>intro e he;cases he
 |cons aa ad bb=>
  intro e he
  rcases List.mem_cons.1 he with rfl|he
  · exact⟨_,by simp,aa⟩
  · obtain⟨d,av,aG⟩:=bb e he;exact⟨d,by simp[av],aG⟩
def mU:List Nat->Bool
 |[]=>true
 |a::l=>match l.any λx=>Nat.beq a x with
  |true=>false
  |false=>mU l
theorem zz{α:Type}(f:α->Nat):∀(l:List α),mU (l.map f)=true->∀a∈l,∀b∈l,f a=f b->a=b
 |[],_,a,aL,_,_,_=>by cases aL
 |x::l,h,a,aL,b,ae,e=>by
  simp only[List.map_cons,mU] at h
  split at h
  · cases h
  · rename_i aa
    have ab:∀y∈l,f x≠f y:=λy aU e=>by
     have:((l.map f).any λz=>Nat.beq (f x) z)=true:=List.any_eq_true.2 ⟨f y,List.mem_map.2 ⟨y,aU,rfl⟩,by rw[e];exact Nat.beq_refl _⟩
     rw[this] at aa;cases aa
    rcases List.mem_cons.1 aL with hE|Cv<;>rcases List.mem_cons.1 ae with oD|j1
    · rw[hE,oD]
    · rw[hE] at e;exact absurd e (ab b j1)
    · rw[oD] at e;exact absurd e.symm (ab a Cv)
    · exact zz f l h a Cv b j1 e
def u0(l:List eb)(clock:Nat):Bool:=mU (l.map eb.born)&&(mU (l.map eb.id)&&(mU ((l.filter eb.loose).map eb.used)&&(l.all λd=>Nat.blt d.born clock&&Nat.blt 0 d.id)))
def oE:List eb->Option eb
 |[]=>none
 |d::l=>match d.loose with
  |true=>match oE l with
   |none=>some d
   |some x=>match Nat.blt x.used d.used with
    |true=>some x
    |false=>some d
  |false=>oE l
def Gs:Option eb->Nat
 |some d=>d.id
 |none=>0
theorem Cz:∀{l:List eb},oE l=none->∀d∈l,d.loose=false
 |[],_,d,ao=>by cases ao
 |x::l,h,d,ao=>by
  unfold oE at h
  split at h
  · split at h
    · cases h
    · split at h<;>cases h
  · rename_i ab
    rcases List.mem_cons.1 ao with rfl|ao
    · exact ab
    · exact Cz h d ao
theorem zA:∀{l:List eb} {m:eb},oE l=some m->m∈l/\m.loose=true/\∀d∈l,d.loose=true->m.used<=d.used
 |[],m,h=>by cases h
 |x::l,m,h=>by
  unfold oE at h
  split at h
  · rename_i ab
    split at h
    · rename_i aN
      cases h
      refine⟨by simp,ab,λd ao aw=>?_⟩
      rcases List.mem_cons.1 ao with rfl|ao
      · exact Nat.le_refl _
      · have:=Cz aN d ao;rw[aw] at this;cases this
    · rename_i y aU
      obtain⟨aa,ad,av⟩:=zA aU
      split at h
      · rename_i ch
        cases h
        rw[Nat.blt_eq] at ch
        refine⟨by simp[aa],ad,λd ao aw=>?_⟩
        rcases List.mem_cons.1 ao with rfl|ao
        · omega
        · exact av d ao aw
      · rename_i ch
        cases h
        have ch:¬y.used<x.used:=λe=>by rw[<-Nat.blt_eq] at e;rw[e] at ch;cases ch
        refine⟨by simp,ab,λd ao aw=>?_⟩
        rcases List.mem_cons.1 ao with rfl|ao
        · exact Nat.le_refl _
        · have:=av d ao aw;omega
  · rename_i ab
    obtain⟨aa,ad,av⟩:=zA h
    refine⟨by simp[aa],ad,λd ao aw=>?_⟩
    rcases List.mem_cons.1 ao with rfl|ao
    · rw[aw] at ab;cases ab
    · exact av d ao aw
def mb(l:List eb)(S:List Nat)(b:Nat):Prop:=
 (b=0/\∀d∈l,d.born∈S->d.loose=false)\/∃m∈l,m.born∈S/\m.loose=true/\b=m.id/\∀d∈l,d.born∈S->d.loose=true->m.used<=d.used
theorem mb.fin{l:List eb}{clock:Nat}(aq:u0 l clock=true){S:List Nat}{b:Nat}(ae:mb l S b)(iH:∀d∈l,d.born∈S):b=Gs (oE l):=by
 simp only[u0,Bool.and_eq_true] at aq
 obtain⟨_,_,hu,_⟩:=aq
 cases hm:oE l with
 |none=>
  have:=Cz hm
  rcases ae with⟨rfl,_⟩|⟨m,aa,_,ad,_⟩
  · rfl
  · rw[this m aa] at ad;cases ad
 |some x=>
  obtain⟨aa,ad,av⟩:=zA hm
  rcases ae with⟨rfl,aG⟩|⟨m,a5,_,bX,rfl,oF⟩
  · rw[aG x aa (iH x aa)] at ad;cases ad
  · have aA:=av m a5 bX
    have ax:=oF x aa (iH x aa) ad
    have:=zz eb.used (l.filter eb.loose) hu m (List.mem_filter.2 ⟨a5,bX⟩) x (List.mem_filter.2 ⟨aa,ad⟩) (by omega)
    rw[this];rfl
def sZ(l:List eb)(S:List Nat):Nat:=(l.filter λd=>!S.contains d.born).length
theorem Vv{l:List eb}(ao:mU (l.map eb.born)=true){S:List Nat}{d:eb}(hm:d∈l)(hs:d.born∉S):sZ l (S++[d.born])+1=sZ l S:=by
 unfold sZ
 have Bi:∀a∈l,∀b∈l,a.born=b.born->a=b:=zz eb.born l ao
 have key:∀(l:List eb),mU (l.map eb.born)=true->d∈l->(l.filter λx=>!(S++[d.born]).contains x.born).length+1=(l.filter λx=>!S.contains x.born).length:=by
  intro l
  induction l with
  |nil=>intro _ h;cases h
  |cons x l bb=>
   intro ao hm
   have Ma:=ao
   simp only[List.map_cons,mU] at ao
   split at ao
   · cases ao
   · rename_i aa
     by_cases ab:x.born=d.born
     · have n7:∀y∈l,¬y.born=d.born:=λy aU e=>by
         have:((l.map eb.born).any λz=>Nat.beq x.born z)=true:=List.any_eq_true.2 ⟨y.born,List.mem_map.2 ⟨y,aU,rfl⟩,by rw[ab,e];exact Nat.beq_refl _⟩
         rw[this] at aa;cases aa
       have aA:(l.filter λx=>!(S++[d.born]).contains x.born)=l.filter λx=>!S.contains x.born:=by
        apply List.filter_congr
        intro y aU
        have:=n7 y aU
        simp[this]
       have ax:(!(S++[d.born]).contains x.born)=false:=by simp[ab]
       have bD:(!S.contains x.born)=true:=by rw[ab];simpa using hs
       rw[List.filter_cons,ax,List.filter_cons,bD]
       simp only[Bool.false_eq_true,if_false,if_true,List.length_cons]
       rw[aA]
     · have qZ:d∈l:=by
         rcases List.mem_cons.1 hm with rfl|h
         · exact absurd rfl ab
         · exact h
       have Fk:=bb ao qZ
       have ax:(!(S++[d.born]).contains x.born)=(!S.contains x.born):=by simp[ab]
       rw[List.filter_cons,List.filter_cons,ax]
       cases ag:(!S.contains x.born) with
       |true=>simp only[if_true,List.length_cons];omega
       |false=>simp only[Bool.false_eq_true,if_false];exact Fk
 exact key l ao hm
theorem Vw{h0:J}{h:J}{kt:TypeId}{x:eb}:∀{es:List dU} {l:List eb},qn h es l->(∀a∈l,∀b∈l,a.id=b.id->a=b)->x∈l->∀i,∃j,jY Tryz.prog h0 kt (.int .u64 (Int.ofNat x.id)) es i=some (some (j,.ptr x.b 0)):=by
 intro es l aw
 induction aw with
 |nil=>intro _ ab;cases ab
 |@cons e es d l aa ad bb=>
  intro hn ab i
  obtain⟨bJ,bQ,_⟩:=uY aa
  simp only[jY,pL,bJ,pK,if_true]
  by_cases Gt:x.id=d.id
  · have:x=d:=hn x ab d (by simp) Gt
    subst this
    have:a8 (Int.ofNat x.id) (Int.ofNat x.id)=true:=nA rfl
    rw[this]
    exact⟨i,by rw[bQ]⟩
  · have:a8 (Int.ofNat x.id) (Int.ofNat d.id)=false:=jS Gt
    rw[this]
    have kr:x∈l:=by
     rcases List.mem_cons.1 ab with rfl|h
     · exact absurd rfl Gt
     · exact h
    exact bb (λa aL b ae=>hn a (by simp[aL]) b (by simp[ae])) kr (i+1)
theorem Md{b:Nat}:∀{es:List dU} {e:dU},e∈es->(∀x∈es,x.born=e.born->x=e)->e.born=b->tA b es=some e
 |[],e,he,_,_=>by cases he
 |x::es,e,he,hu,ae=>by
  unfold tA
  by_cases ab:x.born=b
  · have:Nat.beq x.born b=true:=by rw[ab];exact Nat.beq_refl _
    rw[this]
    rw[hu x (by simp) (ab.trans ae.symm)]
  · have:Nat.beq x.born b=false:=by
      cases ag:Nat.beq x.born b with
      |false=>rfl
      |true=>exact absurd (Nat.eq_of_beq_eq_true ag) ab
    rw[this]
    rcases List.mem_cons.1 he with rfl|he
    · exact absurd ae ab
    · exact Md he (λx ab=>hu x (by simp[ab])) ae
theorem Vx(l:List Nat)(b:Nat):x1 (l++[b])=some b:=by rw[Ey];simp
def wQ(f:Nat)(args:List I)(h:J):Option (I×J):=match Nat.beq f 40,args with
 |true,[.ptr c 0]=>match ar h c 0 with
  |some (.ptr st 0)=>match ar h st 3 with
   |some (.map m)=>match h.get m with
    |some (.map es clock)=>match uZ h es with
     |some l=>match u0 l clock&&(Nat.blt c h.n&&(Nat.blt st h.n&&(Nat.blt m h.n&&(l.all λd=>Nat.blt d.b h.n)))) with
      |true=>some (.int .u64 (Int.ofNat (Gs (oE l))),h.room (1+32*l.length))
      |false=>none
     |none=>none
    |_=>none
   |_=>none
  |_=>none
 |_,_=>none
theorem zB{S:List Nat}{x y:Nat}(h:x∈S++[y]):x∈S\/x=y:=by simpa using h
theorem mb.no{l:List eb}{S:List Nat}{b:Nat}{d:eb}(ae:mb l S b)(ao:d.loose=false)(hu:∀a∈l,a.born=d.born->a=d):mb l (S++[d.born]) b:=by
 rcases ae with⟨rfl,aa⟩|⟨m,aa,ad,av,rfl,aG⟩
 · refine .inl ⟨rfl,λa aL hs=>?_⟩
   rcases zB hs with h|h
   · exact aa a aL h
   · rw[hu a aL h];exact ao
 · refine .inr ⟨m,aa,by simp[ad],av,rfl,λa aL hs aw=>?_⟩
   rcases zB hs with h|h
   · exact aG a aL h aw
   · rw[hu a aL h,ao] at aw;cases aw
theorem mb.first{l:List eb}{S:List Nat}{d:eb}(ae:mb l S 0)(hn:∀a∈l,0<a.id)(hm:d∈l)(ao:d.loose=true)(hu:∀a∈l,a.born=d.born->a=d):mb l (S++[d.born]) d.id:=by
 rcases ae with⟨_,aa⟩|⟨m,aa,ad,av,h0,aG⟩
 · refine .inr ⟨d,hm,by simp,ao,rfl,λa aL hs aw=>?_⟩
   rcases zB hs with h|h
   · rw[aa a aL h] at aw;cases aw
   · rw[hu a aL h];exact Nat.le_refl _
 · have:=hn m aa;omega
theorem mb.cmp{l:List eb}{S:List Nat}{b:Nat}(ae:mb l S b)(h0:¬b=0):∃m∈l,b=m.id/\∀d∈l,d.loose=true->(∀a∈l,a.born=d.born->a=d)->(d.used<m.used->mb l (S++[d.born]) d.id)/\(¬d.used<m.used->mb l (S++[d.born]) b):=by
 rcases ae with⟨h,_⟩|⟨m,aa,ad,av,rfl,aG⟩
 · exact absurd h h0
 · refine⟨m,aa,rfl,λd hm ao hu=>⟨λch=>?_,λch=>?_⟩⟩
   · refine .inr ⟨d,hm,by simp,ao,rfl,λa aL hs aw=>?_⟩
     rcases zB hs with h|h
     · have:=aG a aL h aw;omega
     · rw[hu a aL h];exact Nat.le_refl _
   · refine .inr ⟨m,aa,by simp[ad],av,rfl,λa aL hs aw=>?_⟩
     rcases zB hs with h|h
     · exact aG a aL h aw
     · rw[hu a aL h];omega
abbrev s0(c b it:Nat):Env:=[(0,.ptr c 0),(1,.int .u64 (Int.ofNat b)),(8,.ptr it 0)]
structure zC(h:J)(m clock:Nat)(S:List Nat)(g:J):Prop where
 n:g.n=h.n+(1+32*S.length)
 low:∀b,b<h.n->g.get b=h.get b
 it:g.get h.n=some (.mapIter (some m) clock S clock)
theorem Vy{h g:J}{b off:Nat}(e:g.get b=h.get b):ar g b off=ar h b off:=by unfold ar;rw[e]
structure Me(h:J)(c st m clock:Nat)(es:List dU)(l:List eb):Prop where
 ag:ar h c 0=some (.ptr st 0)
 cA:ar h st 3=some (.map m)
 hm:h.get m=some (.map es clock)
 hx:qn h es l
 ok:u0 l clock=true
 Vz:c<h.n
 VA:st<h.n
 mF:m<h.n
 Mf:∀d∈l,d.b<h.n
def CA(h:J)(c m clock:Nat)(l:List eb)(n:Nat)(s:ah):Prop:=∃S b g,s=⟨s0 c b h.n,[],.none,g⟩/\zC h m clock S g/\mb l S b/\sZ l S=n/\S.length+n=l.length
def wR(h:J)(m clock:Nat)(l:List eb)(e:bu)(s:ah):Prop:=e=.exit 0/\∃b g S,s=⟨[(1,.int .u64 (Int.ofNat b))],[],.none,g⟩/\zC h m clock S g/\mb l S b/\S.length=l.length/\∀d∈l,d.born∈S
theorem VB{k6:aP}(mV:jM Tryz.prog k6)(hdr:∀need bW,nr Tryz.prog need bW k6){h:J}{c st m clock:Nat}{es:List dU}{l:List eb}(w:Me h c st m clock es l)(n:Nat)(s:ah)(hs:CA h c m clock l n s):
  gn Tryz.prog Tryz.f40 none [1,0,1,0,0] s (Gr (CA h c m clock l) n (wR h m clock l)):=by
 obtain⟨S,b,g,rfl,al,ae,wS,afS⟩:=hs
 have Mg:=w.ok
 simp only[u0,Bool.and_eq_true] at Mg
 obtain⟨zD,VC,afT,eB⟩:=Mg
 have Mh:∀d∈l,d.born<clock/\0<d.id:=λd ao=>by
  have:=List.all_eq_true.1 eB d ao
  simpa using this
 have VD:=zz eb.id l VC
 have Mi:=zz eb.born l zD
 have VE:∀x∈es,∀e∈es,x.born=e.born->x=e:=by
  intro x ab e he ae
  obtain⟨VF,VG,VH⟩:=w.hx.eF x ab
  obtain⟨Gu,VI,VJ⟩:=w.hx.eF e he
  obtain⟨b6,cU,_,_,_,c8⟩:=uY VH
  obtain⟨br,a3,_,_,_,dm⟩:=uY VJ
  have:=Mi VF VG Gu VI (by omega)
  subst this
  obtain⟨bJ,v1,cW⟩:=x
  obtain⟨bQ,v2,cN⟩:=e
  simp only at b6 cU c8 br a3 dm
  rw[b6,cU,c8,br,a3,dm]
 have Mj:¬m=h.n:=by have:=w.mF;omega
 have yz:g.get m=some (.map es clock):=(al.low m w.mF).trans w.hm
 refine gn.seq (p:=[1,0,1,0,0]) (R1:=λe s=>e=.nrm/\((s=⟨put 10 (.bool false) (s0 c b h.n),[],.none,g⟩/\∀e∈es,e.born∈S)\/∃e∈es,e.born∉S/\s=⟨put 10 (.bool true) (s0 c b h.n),[],.none,g.set h.n (some (.mapIter (some m) clock (S++[e.born]) clock))⟩)) (by kernel_rfl)
  (gn.next mV (p:=[1,0,1,0,0,0]) (it:=8) (a:=9) (t:=10) (by kernel_rfl) (by kernel_rfl) (by kernel_rfl) (by kernel_rfl) (by kernel_rfl) rfl al.it yz (λe he=>by
   obtain⟨d,d1,d2⟩:=w.hx.eF e he
   obtain⟨_,_,_,_,_,c8⟩:=uY d2
   have:=(Mh d d1).1;omega) (Nat.le_refl _) (λeB=>⟨rfl,.inl ⟨rfl,eB⟩⟩) λe he ia=>⟨rfl,.inr ⟨e,he,ia,rfl⟩⟩) (λbd aa=>?_) λe bd he aa=>absurd aa.1 he
 obtain⟨_,⟨rfl,iH⟩|⟨e,he,ia,rfl⟩⟩:=aa
 · have Mk:∀d∈l,d.born∈S:=λd ao=>by
     obtain⟨e,he,BB⟩:=w.hx.Mc d ao
     obtain⟨_,_,_,_,_,c8⟩:=uY BB
     rw[<-c8];exact iH e he
   have h0:sZ l S=0:=by
    unfold sZ
    rw[List.length_eq_zero_iff,List.filter_eq_nil_iff]
    intro d ao
    simpa using Mk d ao
   have rx:aB Tryz.prog Tryz.f40 none k6 [1,0,1,0,0,1] ⟨[(0,.ptr c 0),(1,.int .u64 (Int.ofNat b)),(8,.ptr h.n 0),(10,.bool false)],[],.none,g⟩ (.exit 0) ⟨s0 c b h.n,[],.none,g⟩:=a4.run (wP k6 c b h.n false g ⟨λh=>(by cases h),λ_=>⟨rfl,rfl⟩⟩)
   have VK:aB Tryz.prog Tryz.f40 none k6 [1,0,1,0,0,1] ⟨[(0,.ptr c 0),(1,.int .u64 (Int.ofNat b)),(8,.ptr h.n 0),(10,.bool false)],[],.none,g⟩ (.exit 0) ⟨[(1,.int .u64 (Int.ofNat b))],[],.none,g⟩:=cQ.post rx ⟨rfl,trivial⟩
   exact gn.pre (gn.of_run mV hdr (by kernel_rfl) VK (.inr ⟨by simp,rfl,b,g,S,rfl,al,ae,by omega,Mk⟩)) ⟨rfl,rfl,rfl,rfl,trivial⟩ rfl rfl rfl
 · obtain⟨d,d1,d2⟩:=w.hx.eF e he
   obtain⟨b6,cU,c8,ek,en,rz⟩:=uY d2
   have wT:=w.Mf d d1
   obtain⟨ai,ee⟩:∃ai,ai=g.set h.n (some (.mapIter (some m) clock (S++[e.born]) clock)):=⟨_,rfl⟩
   rw[<-ee]
   have wU:∀b,b<h.n->ai.get b=h.get b:=λb ae=>by rw[ee,J.c7,if_neg (by omega)];exact al.low b ae
   have Ml:ai.get h.n=some (.mapIter (some m) clock (S++[e.born]) clock):=by rw[ee];exact gk rfl
   have BJ:ai.get m=some (.map es clock):=(wU m w.mF).trans w.hm
   have eF:tB ai (.ptr h.n 0)=some (.aO [.int .u64 (Int.ofNat d.id),.ptr d.b 0]):=by
    have Ez:=Md he (λx ab ae=>VE x ab e he ae) rfl
    unfold tB
    simp only[Ml,BJ,Vx,Ez,b6,cU]
    rw[Nat.beq_refl]
   have aE:ai.n=g.n:=by rw[ee];rfl
   have eT:d.born∉S:=by rw[<-rz];exact ia
   have hJ:=Vv zD d1 eT
   have s3:zC h m clock (S++[d.born]) (ai.room 32):=⟨by rw[J.K4,aE,al.n,List.length_append];simp;omega,wU,by rw[J.Up,Ml,rz]⟩
   have CB:∀a∈l,a.born=d.born->a=d:=λa aL e=>Mi a aL d d1 e
   have wV:∀(b off:Nat) (v:I),b<h.n->ar h b off=some v->ar (ai.room 32) b off=some v:=λb off v ae aD=>(Vy (wU b ae)).trans aD
   have zE:=wV d.b 7 _ wT c8
   have CC:=wV d.b 8 _ wT ek
   have Mm:=wV d.b 9 _ wT en
   have Mn:=wV c 0 _ w.Vz w.ag
   have Mo:=wV st 3 _ w.VA w.cA
   have fin:∀hT,mb l (S++[d.born]) hT->aB Tryz.prog Tryz.f40 none k6 [1,0,1,0,0,1] ⟨[(0,.ptr c 0),(1,.int .u64 (Int.ofNat b)),(8,.ptr h.n 0),(10,.bool true)],[],.none,ai⟩ .nrm ⟨s0 c hT h.n,[],.none,ai.room 32⟩->
     gn Tryz.prog Tryz.f40 none [1,0,1,0,0,1] ⟨put 10 (.bool true) (s0 c b h.n),[],.none,ai⟩ (Gr (CA h c m clock l) n (wR h m clock l)):=λhT j1 aj=>
    gn.pre (gn.of_run mV hdr (by kernel_rfl) aj (.inl ⟨rfl,sZ l (S++[d.born]),by omega,S++[d.born],hT,ai.room 32,rfl,s3,j1,rfl,by rw[List.length_append];simp;omega⟩)) ⟨rfl,rfl,rfl,rfl,trivial⟩ rfl rfl rfl
   by_cases aQ:d.pins=0
   · have Gv:a8 (Int.ofNat d.pins) (Int.ofNat 0)=true:=nA aQ
     by_cases aJ:d.held=0
     · have Gw:a8 (Int.ofNat d.held) (Int.ofNat 0)=true:=nA aJ
       have wW:d.loose=true:=by unfold eb.loose;rw[aQ,aJ];rfl
       by_cases h0:b=0
       · have cJ:a8 (Int.ofNat b) (Int.ofNat 0)=true:=nA h0
         exact fin d.id ((h0▸ae).first (λa aL=>(Mh a aL).2) d1 wW CB) (a4.run (wP k6 c b h.n true ai ⟨λ_=>⟨d.id,d.b,eF,d.pins,zE,λ_=>⟨d.held,CC,λ_=>⟨λ_=>⟨rfl,rfl⟩,λh=>absurd h0 h⟩,λh=>absurd aJ h⟩,λh=>absurd aQ h⟩,λh=>(by cases h)⟩))
       · have cJ:a8 (Int.ofNat b) (Int.ofNat 0)=false:=jS h0
         obtain⟨x,bC,cS,dC⟩:=ae.cmp h0
         obtain⟨e2,pe⟩:=dC d d1 wW CB
         obtain⟨ex,j9,nJ⟩:=w.hx.Mc x bC
         obtain⟨_,_,_,_,zF,_⟩:=uY nJ
         have Mp:=wV x.b 9 _ (w.Mf x bC) zF
         have look:hO Tryz.prog (ai.room 32) 55 (.map m) (.int .u64 (Int.ofNat b)) false=some (.ptr x.b 0):=by
          obtain⟨j,aK⟩:=Vw (h0:=ai.room 32) (kt:=32) w.hx VD bC 0
          have hu:Tryz.prog.underlying 55=some (.map 32 59):=by kernel_rfl
          have aq:mu Tryz.prog 32 (.int .u64 (Int.ofNat b))=true:=by
           have p2:Tryz.prog.underlying 32=some (.int .u64):=by kernel_rfl
           simp only[mu,oQ,p2]
          have VL:(ai.room 32).get m=some (.map es clock):=BJ
          rw[cS] at aq⊢
          simp only[hO,hu,aq,VL,aK,pM,Bool.false_eq_true,if_false]
         by_cases ch:d.used<x.used
         · have VM:=dT ch
           exact fin d.id (e2 ch) (a4.run (wP k6 c b h.n true ai ⟨λ_=>⟨d.id,d.b,eF,d.pins,zE,λ_=>⟨d.held,CC,λ_=>⟨λh=>absurd h h0,λ_=>⟨d.used,Mm,st,Mn,_,Mo,x.b,look,x.used,Mp,rfl,λ_=>⟨rfl,rfl⟩,λh=>absurd ch h⟩⟩,λh=>absurd aJ h⟩,λh=>absurd aQ h⟩,λh=>(by cases h)⟩))
         · have VM:=e1 ch
           exact fin b (pe ch) (a4.run (wP k6 c b h.n true ai ⟨λ_=>⟨d.id,d.b,eF,d.pins,zE,λ_=>⟨d.held,CC,λ_=>⟨λh=>absurd h h0,λ_=>⟨d.used,Mm,st,Mn,_,Mo,x.b,look,x.used,Mp,rfl,λh=>absurd h ch,λ_=>⟨rfl,rfl⟩⟩⟩,λh=>absurd aJ h⟩,λh=>absurd aQ h⟩,λh=>(by cases h)⟩))
     · have Gw:a8 (Int.ofNat d.held) (Int.ofNat 0)=false:=jS aJ
       have wW:d.loose=false:=by
        unfold eb.loose
        cases ag:Nat.beq d.held 0 with
        |false=>simp
        |true=>exact absurd (Nat.eq_of_beq_eq_true ag) aJ
       exact fin b (ae.no wW CB) (a4.run (wP k6 c b h.n true ai ⟨λ_=>⟨d.id,d.b,eF,d.pins,zE,λ_=>⟨d.held,CC,λh=>absurd h aJ,λ_=>⟨rfl,rfl⟩⟩,λh=>absurd aQ h⟩,λh=>(by cases h)⟩))
   · have Gv:a8 (Int.ofNat d.pins) (Int.ofNat 0)=false:=jS aQ
     have wW:d.loose=false:=by
      unfold eb.loose
      cases ag:Nat.beq d.pins 0 with
      |false=>simp
      |true=>exact absurd (Nat.eq_of_beq_eq_true ag) aQ
     exact fin b (ae.no wW CB) (a4.run (wP k6 c b h.n true ai ⟨λ_=>⟨d.id,d.b,eF,d.pins,zE,λh=>absurd h aQ,λ_=>⟨rfl,rfl⟩⟩,λh=>(by cases h)⟩))
theorem Mq(hf:Fit Tryz.prog):om Tryz.prog wQ:=by
 intro f args h v aX ab μ wd vs ak al aD
 unfold wQ at ab
 split at ab
 · rename_i c CD
   obtain rfl:=Nat.eq_of_beq_eq_true CD
   split at ab
   · rename_i st ag
     split at ab
     · rename_i m cA
       split at ab
       · rename_i es clock hm
         split at ab
         · rename_i l aw
           split at ab
           · rename_i Mr
             cases ab
             simp only[Bool.and_eq_true,Nat.blt_eq] at Mr
             obtain⟨dq,q1,VN,Mj,tK⟩:=Mr
             have w:Me h c st m clock es l:=⟨ag,cA,hm,Mb aw,dq,q1,VN,Mj,λd ao=>by
              have:=List.all_eq_true.1 tK d ao
              simpa using this⟩
             have mV:jM Tryz.prog (fp Tryz.prog (λ_ _ _=>none) 0):=Fm hf (TG _) 0
             have hdr:∀need bW,nr Tryz.prog need bW (fp Tryz.prog (λ_ _ _=>none) 0):=λneed bW=>KS hf.mixed mV need bW
             obtain⟨k6,VO⟩:∃k6,k6=fp Tryz.prog (λ_ _ _=>none) 0:=⟨_,rfl⟩
             rw[<-VO] at mV hdr
             have VP:∀g,zC h m clock [] g->gn Tryz.prog Tryz.f40 none [1,0,1] ⟨s0 c 0 h.n,[],.none,g⟩ (λe s=>e=.nrm/\wR h m clock l (.exit 0) s):=λg al=>
              gn.block (p:=[1,0,1]) (id:=0) (R1:=wR h m clock l) (by kernel_rfl)
               (gn.loop (p:=[1,0,1,0]) (CA h c m clock l) (by kernel_rfl) (λn s hs=>VB mV hdr w n s hs) l.length ⟨[],0,g,rfl,al,.inl ⟨rfl,λd _ hs=>(by cases hs)⟩,by unfold sZ;simp,by simp⟩)
               λe s hs=>by obtain⟨rfl,hs⟩:=hs;exact⟨rfl,rfl,hs⟩
             have zG:zC h m clock [] (h.push (.mapIter (some m) clock [] clock)):=⟨rfl,λb ae=>lA ae rfl,fl rfl⟩
             have VQ:=a4.run (Vs k6 c m h ⟨st,ag,cA,h.n,(h.push (.mapIter (some m) clock [] clock)),by simp only[B1,hm],rfl,rfl⟩)
             have vY:gn Tryz.prog Tryz.f40 none [] ⟨ou 0 [.ptr c 0],[],.none,h⟩ (λe s=>e=.ret/\wR h m clock l (.exit 0) s):=
              gn.seq (p:=[]) (R1:=λe s=>e=.nrm/\s=⟨[(0,.ptr c 0),(1,.int .u64 (Int.ofNat 0))],[],.none,h⟩) (by kernel_rfl) (gn.of_run mV hdr (by kernel_rfl) (a4.run (Vt k6 c h ⟨rfl,rfl⟩)) ⟨rfl,rfl⟩)
               (λs hs=>by
                obtain⟨_,rfl⟩:=hs
                refine gn.seq (p:=[1]) (R1:=λe s=>e=.nrm/\wR h m clock l (.exit 0) s) (by kernel_rfl)
                 (gn.seq (p:=[1,0]) (R1:=λe s=>e=.nrm/\s=⟨s0 c 0 h.n,[],.none,h.push (.mapIter (some m) clock [] clock)⟩) (by kernel_rfl) (gn.of_run mV hdr (by kernel_rfl) VQ ⟨rfl,rfl⟩)
                  (λs hs=>by obtain⟨_,rfl⟩:=hs;exact VP _ zG) λe s he hs=>absurd hs.1 he)
                 (λs hs=>?_) λe s he hs=>absurd hs.1 he
                obtain⟨_,aa⟩:=hs
                obtain⟨_,b,g,S,rfl,ad⟩:=aa
                exact gn.of_run mV hdr (by kernel_rfl) (a4.run (Vu k6 b g ⟨rfl,rfl⟩)) ⟨rfl,rfl,b,g,S,rfl,ad⟩)
               λe s he hs=>absurd hs.1 he
             refine Vn (args:=[.ptr c 0]) mV hdr hf.code Tryz.func40 (c:=fk Tryz.f40) rfl (show 1<=Tryz.f40.ntmps from of_decide_eq_true (by kernel_rfl)) ?_ ak al aD
             have ec:=vY (n5 0 [.ptr c 0] .leaf) (Ce _)
             refine ji.mono ec λe r' bh bn g ⟨cx,a5,he,_,b,gw,S,hs,nk,u1,hlen,iH⟩=>?_
             obtain⟨rfl,rfl,rfl,rfl⟩:cx=[(1,.int .u64 (Int.ofNat b))]/\bh=[]/\bn=.none/\g=gw:=by injection hs with ba a1 b7 fv;exact⟨ba,a1,b7,fv⟩
             have zj:=u1.fin dq iH
             subst zj
             refine⟨.inr he,rfl,rfl,FQ a5 (by kernel_rfl),by rw[J.K4,nk.n,hlen],λb=>?_⟩
             by_cases ae:b<h.n
             · exact .inl (nk.low b ae).symm
             · exact .inr ⟨ak.bound b (by omega),by omega⟩
           · cases ab
         · cases ab
       · cases ab
     · cases ab
   · cases ab
 · cases ab
end Go.Proofs.jj
namespace Go.Proofs.jk
open Go bt Go.Proofs
abbrev VR:Nat->List I->J->Option (I×J):=Go.Proofs.jj.wQ
end Go.Proofs.jk
namespace hy
open bt
abbrev a7:=List UInt8
inductive aC where
 |mk (k:Nat) (nm:a7) (ns:List a7) (xs:List aC) (rt:Option aC)
def aC.k:aC->Nat|.mk k _ _ _ _=>k
def aC.nm:aC->a7|.mk _ nm _ _ _=>nm
def aC.xs:aC->List aC|.mk _ _ _ xs _=>xs
mutual
def sz:aC->Nat
 |.mk _ _ _ xs rt=>1+df xs+c_ rt
def df:List aC->Nat
 |[]=>0
 |t::ck=>sz t+df ck
def c_:Option aC->Nat
 |none=>0
 |some t=>sz t
end
def hY:List a7->List a7->Bool
 |[],[]=>true
 |x::xs,y::ys=>dd x y&&hY xs ys
 |_,_=>false
mutual
def u2:aC->aC->Bool
 |.mk k nm ns xs rt,.mk dh qo rD oG pf=>Nat.beq k dh&&(dd nm qo&&(hY ns rD&&(ih xs oG&&iO rt pf)))
def ih:List aC->List aC->Bool
 |[],[]=>true
 |x::xs,y::ys=>u2 x y&&ih xs ys
 |_,_=>false
def iO:Option aC->Option aC->Bool
 |none,none=>true
 |some x,some y=>u2 x y
 |_,_=>false
end
theorem mc(k:Nat)(nm:a7)(ns:List a7)(xs:List aC)(rt:Option aC):sz (.mk k nm ns xs rt)=1+df xs+c_ rt:=by rw[sz]
theorem iP(t:aC):c_ (some t)=sz t:=by rw[c_]
theorem qp:∀t:aC,0<sz t
 |.mk _ _ _ _ _=>by unfold sz;omega
theorem oH{t:aC}:∀{l:List aC},t∈l->sz t<=df l
 |[],h=>by cases h
 |x::l,h=>by
  unfold df
  rcases List.mem_cons.1 h with rfl|h
  · omega
  · have:=oH h;omega
theorem mW:∀l:List aC,l.length<=df l
 |[]=>Nat.le_refl _
 |x::l=>by
  have:=mW l
  have:=qp x
  unfold df
  simp;omega
mutual
def iQ:aC->Nat
 |.mk _ _ ns xs rt=>ns.length+pg xs+nK rt
def pg:List aC->Nat
 |[]=>0
 |t::ck=>iQ t+pg ck
def nK:Option aC->Nat
 |none=>0
 |some t=>iQ t
end
theorem zH{t:aC}:∀{l:List aC},t∈l->iQ t<=pg l
 |[],h=>by cases h
 |x::l,h=>by
  rw[pg]
  rcases List.mem_cons.1 h with rfl|h
  · omega
  · have:=zH h;omega
def hK(n:Nat):Bool:=(decide (97<=n)&&decide (n<=122))||((decide (65<=n)&&decide (n<=90))||decide (n=95))
def jA(n:Nat):Bool:=decide (48<=n)&&decide (n<=57)
def ks(n:Nat):Bool:=hK n||jA n||decide (n=45)||decide (n=47)||decide (n=46)
def Gx:a7->Bool
 |[]=>false
 |c::_=>hK c.toNat
def ij(s:a7):Bool:=decide (1<=s.length)&&decide (s.length<=24)&&Gx s&&s.all (λc=>hK c.toNat||jA c.toNat)
def md(s:a7):Bool:=decide (1<=s.length)&&decide (s.length<=161)&&s.all (λc=>ks c.toNat)
theorem zI(x y:UInt8)(a b:a7):dO (x::a) (y::b)=if x.toNat=y.toNat then dO a b else decide (x.toNat<y.toNat):=by
 by_cases h:x.toNat=y.toNat
 · rw[if_pos h];simp only[dO,h,Nat.beq_refl]
 · rw[if_neg h]
   have ae:Nat.beq x.toNat y.toNat=false:=by
    cases ab:Nat.beq x.toNat y.toNat with
    |false=>rfl
    |true=>exact absurd (Nat.eq_of_beq_eq_true ab) h
   simp only[dO,ae]
   exact Bool.eq_iff_iff.2 (by rw[Nat.blt_eq];simp)
def ph:a7:=(List.range 26).map (λi=>UInt8.ofNat (97+i))++(List.range 26).map (λi=>UInt8.ofNat (65+i))++(List.range 10).map (λi=>UInt8.ofNat (48+i))++[95]
def qq(n:Nat):Bool:=hK n||jA n
def kK(p:Nat->Bool):List I:=(List.range 256).map λn=>.bool (p n)
def ef(sep:a7):List a7->a7
 |[]=>[]
 |x::l=>x++l.flatMap (λy=>sep++y)
theorem VS(sep:a7):∀(l:List a7) (y:a7),l≠[]->ef sep (l++[y])=ef sep l++sep++y
 |[],y,h=>absurd rfl h
 |x::l,y,_=>by
  show x++(l++[y]).flatMap _=x++l.flatMap _++sep++y
  rw[List.flatMap_append]
  simp
theorem VT(sep y:a7):ef sep ([]++[y])=y:=by simp[ef]
theorem u3(sep:a7)(l:List a7){i:Nat}(h:i<l.length):ef sep (l.take (i+1))=if 0<i then ef sep (l.take i)++sep++l[i] else l[i]:=by
 rw[List.take_succ_eq_append_getElem h]
 by_cases h0:0<i
 · rw[if_pos h0,VS]
   intro e
   have aw:(l.take i).length=i:=by rw[List.length_take];omega
   rw[e] at aw
   simp at aw
   omega
 · rw[if_neg h0]
   obtain rfl:i=0:=by omega
   exact VT sep _
theorem zJ(sep:a7)(l:List a7):∀(i:Nat),(ef sep (l.take i)).length<=(ef sep l).length:=by
 intro i
 cases l with
 |nil=>simp
 |cons x l=>
  cases i with
  |zero=>simp[ef]
  |succ i=>
   show(x++(l.take i).flatMap _).length<=(x++l.flatMap _).length
   have e:l.flatMap (λy=>sep++y)=(l.take i).flatMap (λy=>sep++y)++(l.drop i).flatMap (λy=>sep++y):=by
    rw[<-List.flatMap_append,List.take_append_drop]
   rw[e]
   simp only[List.length_append]
   omega
theorem u4(sep:a7)(l:List a7){i:Nat}(h:i<l.length):l[i].length<=(ef sep l).length:=by
 have aa:=zJ sep l (i+1)
 rw[u3 sep l h] at aa
 split at aa
 · simp at aa;omega
 · exact aa
def word:Nat->a7
 |1=>[97,110,121]
 |2=>[105,110,116]
 |3=>[98,111,111,108]
 |4=>[115,116,114]
 |5=>[110,105,108]
 |_=>[]
def hd(ns ws:List a7):List a7:=List.zipWith (λn w=>n++[58,32]++w) ns ws
def hZ(eg:List Nat)(ws:List a7):List a7:=List.zipWith (λk w=>if k=8 then[40]++w++[41] else w) eg ws
def shape(k:Nat)(nm:a7)(ns:List a7)(eg:List Nat)(ws:List a7)(r:a7):a7:=
 if k=6 then nm else if k=7 then[123]++ef [44,32] (hd ns ws)++[125] else if k=8 then[102,110,40]++ef [44,32] ws++[41,32,45,62,32]++r
 else if k=9 then ef [32,124,32] (hZ eg ws) else word k
mutual
def wr:aC->a7
 |.mk k nm ns xs rt=>shape k nm ns (xs.map aC.k) (cB xs) (k7 rt)
def cB:List aC->List a7
 |[]=>[]
 |t::ck=>wr t::cB ck
def k7:Option aC->a7
 |none=>[]
 |some t=>wr t
end
mutual
def okW:aC->Bool
 |.mk k nm ns xs rt=>decide (1<=k)&&decide (k<=9)&&(decide (k≠7)||decide (xs.length=ns.length))&&(decide (k≠8)||rt.isSome)&&u5 xs&&zK rt
def u5:List aC->Bool
 |[]=>true
 |t::ck=>okW t&&u5 ck
def zK:Option aC->Bool
 |none=>true
 |some t=>okW t
end
theorem wX:∀l:List aC,(cB l).length=l.length
 |[]=>by rw[cB];rfl
 |x::l=>by rw[cB];simp[wX l]
theorem wY:∀(l:List aC) (i:Nat) (h:i<l.length) (an:i<(cB l).length),(cB l)[i]=wr l[i]
 |[],i,h,_=>by simp at h
 |x::l,0,_,_=>by simp only[cB];rfl
 |x::l,i+1,h,an=>by
  have:=wY l i (by simpa using h) (by rw[wX];simpa using h)
  simpa only[cB,List.getElem_cons_succ] using this
theorem Ms{t:aC}:∀{l:List aC},u5 l=true->t∈l->okW t=true
 |[],_,h=>by cases h
 |x::l,aw,h=>by
  rw[u5,Bool.and_eq_true] at aw
  rcases List.mem_cons.1 h with rfl|h
  · exact aw.1
  · exact Ms aw.2 h
def mX(p:Option a7)(x:a7):Bool:=match p with
 |none=>true
 |some q=>dO q x
def j_(p:Option a7):List a7->Bool
 |[]=>true
 |x::l=>ij x&&(mX p x&&j_ (some x) l)
def k8(p:Option a7):List Nat->List a7->Bool
 |k::eg,w::ws=>(decide (k≠9)&&decide (k≠1))&&(mX p w&&k8 (some w) eg ws)
 |_,_=>true
def mY(l:List a7):Nat->Option a7
 |0=>none
 |i+1=>l[i]?
theorem Mt{s:a7}(h:ij s=true):s.length<=24:=by
 unfold ij at h
 simp only[Bool.and_eq_true,decide_eq_true_eq] at h
 exact h.1.1.2
def ik(k:Nat)(s:a7)(N M:Nat)(o:Bool):Bool:=(!((!dd s []) !=decide (k=6)))&&(!(decide (0<N)&&decide (k≠7)))&&(!(decide (0<M)&&decide (k<7)))&&(!(o !=decide (k=8)))
def e3(k:Nat)(nm:a7)(ns:List a7)(eg:List Nat)(ws:List a7)(n:Nat)(r:Bool):Bool:=
 if k=6 then md nm else if k=7 then decide (ns.length=n)&&j_ none ns else if k=8 then r else if k=9 then k8 none eg ws&&decide (2<=n) else true
mutual
def ep:aC->Bool
 |.mk k nm ns xs rt=>(decide (1<=k)&&decide (k<=9))&&(ik k nm ns.length xs.length rt.isSome&&(hL xs&&e3 k nm ns (xs.map aC.k) (cB xs) xs.length (iR rt)))
def hL:List aC->Bool
 |[]=>true
 |t::ck=>ep t&&hL ck
def iR:Option aC->Bool
 |none=>false
 |some t=>ep t
end
theorem zL{t:aC}:∀{l:List aC},hL l=true->t∈l->ep t=true
 |[],_,h=>by cases h
 |x::l,aw,h=>by
  rw[hL,Bool.and_eq_true] at aw
  rcases List.mem_cons.1 h with rfl|h
  · exact aw.1
  · exact zL aw.2 h
theorem nL(k:Nat)(nm:a7)(ns:List a7)(xs:List aC)(rt:Option aC):ep (.mk k nm ns xs rt)=((decide (1<=k)&&decide (k<=9))&&(ik k nm ns.length xs.length rt.isSome&&(hL xs&&e3 k nm ns (xs.map aC.k) (cB xs) xs.length (iR rt)))):=by rw[ep]
mutual
theorem zM:∀t:aC,ep t=true->okW t=true
 |.mk k nm ns xs rt,h=>by
  rw[nL] at h
  simp only[Bool.and_eq_true,decide_eq_true_eq] at h
  obtain⟨⟨bJ,jl⟩,aQ,ab,aq⟩:=h
  have kr:=Mu xs ab
  have Mv:rt.isSome=decide (k=8):=by
   unfold ik at aQ
   simp only[Bool.and_eq_true] at aQ
   have:=aQ.2
   revert this
   cases rt.isSome<;>cases ao:decide (k=8)<;>simp
  have aY:zK rt=true:=by
   cases rt with
   |none=>rw[zK]
   |some u=>
    have Gy:k=8:=by simpa using Mv.symm
    subst Gy
    have hu:ep u=true:=by simpa[e3,iR] using aq
    rw[zK]
    exact zM u hu
  rw[okW]
  simp only[Bool.and_eq_true,Bool.or_eq_true,decide_eq_true_eq]
  refine⟨⟨⟨⟨⟨bJ,jl⟩,?_⟩,?_⟩,kr⟩,aY⟩
  · by_cases e:k=7
    · subst e
      right
      have:ns.length=xs.length/\j_ none ns=true:=by simpa[e3] using aq
      exact this.1.symm
    · exact .inl e
  · by_cases e:k=8
    · right;rw[Mv];simp[e]
    · exact .inl e
theorem Mu:∀l:List aC,hL l=true->u5 l=true
 |[],_=>by rw[u5]
 |t::l,h=>by
  rw[hL,Bool.and_eq_true] at h
  rw[u5,zM t h.1,Mu l h.2];rfl
end
def fP(c:Nat):List a7->Nat
 |[]=>0
 |x::l=>x.length+c+fP c l
theorem Mw(sep:a7):∀l:List a7,(l.flatMap (λy=>sep++y)).length=fP sep.length l
 |[]=>rfl
 |x::l=>by
  rw[List.flatMap_cons,List.length_append,Mw sep l,List.length_append,fP]
  omega
theorem CE(sep:a7):∀l:List a7,(ef sep l).length<=fP sep.length l
 |[]=>Nat.le_refl _
 |x::l=>by
  show(x++l.flatMap _).length<=_
  rw[List.length_append,Mw,fP]
  omega
theorem Gz:∀(p:Option a7) (ns:List a7),j_ p ns=true->∀n∈ns,n.length<=24
 |_,[],_,n,aN=>by cases aN
 |p,x::l,h,n,aN=>by
  rw[j_,Bool.and_eq_true,Bool.and_eq_true] at h
  rcases List.mem_cons.1 aN with rfl|aN
  · exact Mt h.1
  · exact Gz (some x) l h.2.2 n aN
def zN:List aC->Prop
 |[]=>True
 |t::l=>(wr t).length+30<=300*sz t/\zN l
theorem Mx:∀xs:List aC,zN xs->fP 2 (cB xs)<=300*df xs
 |[],_=>by rw[cB,fP];omega
 |t::l,h=>by
  have aa:=h.1
  have:=Mx l h.2
  rw[cB,fP,df];omega
theorem My:∀(ns:List a7) (xs:List aC),zN xs->(∀n∈ns,n.length<=24)->fP 2 (hd ns (cB xs))<=300*df xs
 |[],xs,_,_=>by simp[hd,fP]
 |n::ns,[],_,_=>by simp[hd,cB,fP]
 |n::ns,t::l,h,aN=>by
  have aa:=h.1
  have ad:=aN n (by simp)
  have:=My ns l h.2 (λm hm=>aN m (by simp[hm]))
  unfold hd at this⊢
  rw[cB,List.zipWith_cons_cons,fP,df]
  simp only[List.length_append,List.length_cons,List.length_nil]
  omega
theorem Mz:∀(xs:List aC),zN xs->fP 3 (hZ (xs.map aC.k) (cB xs))<=300*df xs
 |[],_=>by simp[hZ,cB,fP]
 |t::l,h=>by
  have aa:=h.1
  have:=Mz l h.2
  unfold hZ at this⊢
  rw[List.map_cons,cB,List.zipWith_cons_cons,fP,df]
  split
  · simp only[List.length_append,List.length_cons,List.length_nil]
    omega
  · omega
mutual
theorem wZ:∀t:aC,ep t=true->(wr t).length+30<=300*sz t
 |.mk k nm ns xs rt,h=>by
  rw[nL] at h
  simp only[Bool.and_eq_true,decide_eq_true_eq] at h
  obtain⟨⟨bJ,jl⟩,aQ,ab,aq⟩:=h
  have hs:=MA xs ab
  rw[wr,mc]
  unfold shape
  split
  · rename_i e
    subst e
    have:md nm=true:=by simpa[e3] using aq
    unfold md at this
    simp only[Bool.and_eq_true,decide_eq_true_eq] at this
    omega
  split
  · rename_i e
    subst e
    have hf:ns.length=xs.length/\j_ none ns=true:=by simpa[e3] using aq
    have br:=My ns xs hs (Gz none ns hf.2)
    have a3:(ef [44,32] (hd ns (cB xs))).length<=fP 2 (hd ns (cB xs)):=CE [44,32] _
    simp only[List.length_append,List.length_cons,List.length_nil]
    omega
  split
  · rename_i e
    subst e
    have br:=Mx xs hs
    have a3:(ef [44,32] (cB xs)).length<=fP 2 (cB xs):=CE [44,32] _
    have aj:(k7 rt).length<=300*c_ rt:=by
     cases rt with
     |none=>rw[k7];simp
     |some u=>
      have hu:ep u=true:=by simpa[e3,iR] using aq
      have:=wZ u hu
      rw[k7,iP];omega
    simp only[List.length_append,List.length_cons,List.length_nil]
    omega
  split
  · have br:=Mz xs hs
    have a3:(ef [32,124,32] (hZ (xs.map aC.k) (cB xs))).length<=fP 3 (hZ (xs.map aC.k) (cB xs)):=CE [32,124,32] _
    omega
  · have:(word k).length<=4:=by
      unfold word;split<;>simp
    omega
theorem MA:∀l:List aC,hL l=true->zN l
 |[],_=>trivial
 |t::l,h=>by
  rw[hL,Bool.and_eq_true] at h
  exact⟨wZ t h.1,MA l h.2⟩
end
theorem VU(u:aC)(h:ep u=true):okW u=true/\(wr u).length<=300*sz u:=⟨zM u h,by have:=wZ u h;omega⟩
end hy
namespace Go.Proofs.jk
open Go bt Go.Proofs hy
def c6(B:Nat)(h:J)(v:I)(vs:List I):Prop:=(v=.aS/\vs=[])\/∃b off cp,v=.slice b off vs.length cp/\b<B/\(∀i (af:i<vs.length),ar h b (off+i*1)=some vs[i])/\0<vs.length/\cp≠ .dead
mutual
def dD(B:Nat)(h:J):aC->I->Prop
 |.mk k nm ns xs rt,v=>∃r bK a_ c0 vs bk aI up,v=.ptr r 0/\r<B/\h.get r=some (.cells [.int .i64 (Int.ofNat k),.str nm,bK,a_,c0] 80 bk aI up)/\c6 B h bK (ns.map .str)/\c6 B h a_ vs/\dL B h xs vs/\dM B h rt c0
def dL(B:Nat)(h:J):List aC->List I->Prop
 |[],vs=>vs=[]
 |t::ck,vs=>∃v ws,vs=v::ws/\dD B h t v/\dL B h ck ws
def dM(B:Nat)(h:J):Option aC->I->Prop
 |none,v=>v=.aZ
 |some t,v=>dD B h t v
end
def fa(B:Nat)(h g:J):Prop:=∀b,b<B->g.get b=h.get b
theorem fa.ext{B C:Nat}{h g:J}(e:Ext C h g)(cC:B<=C):fa B h g:=λb ae=>e.get b (by omega)
theorem c6.bO{B:Nat}{h g:J}{v:I}{vs:List I}(e:fa B h g)(hs:c6 B h v vs):c6 B g v vs:=by
 rcases hs with hs|⟨b,off,cp,aa,ad,av,aG⟩
 · exact .inl hs
 · refine .inr ⟨b,off,cp,aa,ad,λi af=>?_,aG⟩
   rw[<-av i af]
   unfold ar
   rw[e b ad]
theorem c6.le{B C:Nat}{h:J}{v:I}{vs:List I}(e:B<=C)(hs:c6 B h v vs):c6 C h v vs:=by
 rcases hs with hs|⟨b,off,cp,aa,ad,av,aG⟩
 · exact .inl hs
 · exact .inr ⟨b,off,cp,aa,by omega,av,aG⟩
mutual
theorem dD.bO{B:Nat}{h g:J}(e:fa B h g):∀(t:aC) (v:I),dD B h t v->dD B g t v
 |.mk k nm ns xs rt,v,ab=>by
  obtain⟨r,bK,a_,c0,vs,bk,aI,up,aa,ad,av,aG,bI,cq,di⟩:=ab
  exact⟨r,bK,a_,c0,vs,bk,aI,up,aa,ad,(e r ad).trans av,aG.bO e,bI.bO e,dL.bO e xs vs cq,dM.bO e rt c0 di⟩
theorem dL.bO{B:Nat}{h g:J}(e:fa B h g):∀(ck:List aC) (vs:List I),dL B h ck vs->dL B g ck vs
 |[],vs,ab=>ab
 |t::ck,vs,ab=>by
  obtain⟨v,ws,aa,ad,av⟩:=ab
  exact⟨v,ws,aa,dD.bO e t v ad,dL.bO e ck ws av⟩
theorem dM.bO{B:Nat}{h g:J}(e:fa B h g):∀(t:Option aC) (v:I),dM B h t v->dM B g t v
 |none,v,ab=>ab
 |some t,v,ab=>dD.bO e t v ab
end
mutual
theorem dD.le{B C:Nat}{h:J}(e:B<=C):∀(t:aC) (v:I),dD B h t v->dD C h t v
 |.mk k nm ns xs rt,v,ab=>by
  obtain⟨r,bK,a_,c0,vs,bk,aI,up,aa,ad,av,aG,bI,cq,di⟩:=ab
  exact⟨r,bK,a_,c0,vs,bk,aI,up,aa,by omega,av,aG.le e,bI.le e,dL.le e xs vs cq,dM.le e rt c0 di⟩
theorem dL.le{B C:Nat}{h:J}(e:B<=C):∀(ck:List aC) (vs:List I),dL B h ck vs->dL C h ck vs
 |[],vs,ab=>ab
 |t::ck,vs,ab=>by
  obtain⟨v,ws,aa,ad,av⟩:=ab
  exact⟨v,ws,aa,dD.le e t v ad,dL.le e ck ws av⟩
theorem dM.le{B C:Nat}{h:J}(e:B<=C):∀(t:Option aC) (v:I),dM B h t v->dM C h t v
 |none,v,ab=>ab
 |some t,v,ab=>dD.le e t v ab
end
theorem dL.len{B:Nat}{h:J}:∀{ck:List aC} {vs:List I},dL B h ck vs->vs.length=ck.length
 |[],vs,ab=>by
  have e:vs=[]:=ab
  subst e;rfl
 |s::ck,vs,ab=>by
  obtain⟨u,ws,rfl,ad,av⟩:=ab
  simp[dL.len av]
theorem dL.get{B:Nat}{h:J}:∀{ck:List aC} {vs:List I},dL B h ck vs->∀i (aa:i<vs.length) (ad:i<ck.length),dD B h ck[i] vs[i]
 |[],vs,ab,i,aa,ad=>by simp at ad
 |s::ck,vs,ab,i,aa,ad=>by
  obtain⟨u,ws,rfl,av,aG⟩:=ab
  cases i with
  |zero=>exact av
  |succ i=>exact dL.get aG i (by simpa using aa) (by simpa using ad)
theorem c6.snd{B:Nat}{h:J}{v:I}{vs:List I}(hs:c6 B h v vs):I.sound v=true:=by
 rcases hs with⟨rfl,_⟩|⟨b,off,cp,rfl,_⟩<;>rfl
theorem c6.len{B:Nat}{h g:J}{v:I}{vs:List I}{t e:TypeId}(hu:Tryz.prog.underlying t=some (.slice e))(hs:c6 B h v vs):cl Tryz.prog g t v=some (.int .i64 (Int.ofNat vs.length)):=by
 rcases hs with⟨rfl,rfl⟩|⟨b,off,cp,rfl,_⟩
 · simp only[cl,hu];rfl
 · simp only[cl,hu]
theorem dM.CF{B:Nat}{h:J}{ot:Option aC}{v:I}(aD:dM B h ot v):v=.aZ\/∃R,v=.ptr R 0:=by
 cases ot with
 |none=>exact .inl aD
 |some u=>
  cases u with
  |mk k nm ns ys rt=>obtain⟨r,bK,a_,_,vs,bk,aI,up,rfl,_⟩:=aD;exact .inr ⟨r,rfl⟩
theorem dM.snd{B:Nat}{h:J}{ot:Option aC}{v:I}(aD:dM B h ot v):I.sound v=true:=by
 rcases aD.CF with rfl|⟨R,rfl⟩<;>rfl
theorem dD.snd{B:Nat}{h:J}{t:aC}{v:I}(aD:dD B h t v):I.sound v=true:=dM.snd (ot:=some t) aD
theorem oI{p:Prop}(h:p:=by first|with_reducible assumption|rfl|exact c6.snd (by with_reducible assumption)|exact c6.gY (by with_reducible assumption)|exact dM.snd (by with_reducible assumption)|exact dM.gY (by with_reducible assumption)|exact dD.snd (by with_reducible assumption)|exact dD.gY (by with_reducible assumption)):p:=h
noncomputable def b3:Nat->List I->J->Option (I×J):=Gn (rl [⟨15,[],.bool true⟩,⟨106,[.str ph],.aO [.agg (kK qq),.bool true]⟩,⟨106,[.str (ph++[45,47,46])],.aO [.agg (kK ks),.bool true]⟩]) VR
noncomputable def Y(n:Nat):aP:=fp Tryz.prog b3 n
theorem VV(call:aP)(n:Nat)(h:J):
  aB Tryz.prog Tryz.f80 none call [] (ah.mk [(0,.aZ),(1,.int .i64 (.ofNat n))] [] .none h) (.ret)
   (ah.mk [(4,.int .i64 (.ofNat n))] [] .none h):=
 bx [4] (hs:=[.v (.bool true),.b true,.b true,.b true,.b true]) (by kernel_rfl)<| .cons (by kernel_rfl:dZ Tryz.prog h BinOp.eql 35 (Operand.tmp 6) (Operand.const (Value.pointer none)) I.aZ I.aZ=some (I.bool true))<| .cons (rfl:true=true)<| .cons (rfl:true=true)<| .cons (rfl:true=true)<| .cons (rfl:true=true)<| .nil
theorem MB(call:aP)(r n:Nat)(h:J):
  aB Tryz.prog Tryz.f80 none call [0] (ah.mk [(0,.ptr r 0),(1,.int .i64 (.ofNat n))] [] .none h) (.nrm)
   (ah.mk [(0,.ptr r 0),(1,.int .i64 (.ofNat n))] [] .none h):=
 bx [0,1] (hs:=[]) (by kernel_rfl)<| .nil
theorem VW(call:aP)(r n:Nat)(h:J)
  (H1:bP (.ofNat 60) (.ofNat n)=true):
  aB Tryz.prog Tryz.f80 none call [1,0] (ah.mk [(0,.ptr r 0),(1,.int .i64 (.ofNat n))] [] .none h) (.ret)
   (ah.mk [(0,.ptr r 0),(1,.int .i64 (.ofNat n)),(4,.int .i64 (.ofNat n))] [] .none h):=
 bx [0,1,4] (hs:=[.v (.bool false),.b false,.b false,.b false,.b true]) (by kernel_rfl)<| .cons (by kernel_rfl:dZ Tryz.prog h BinOp.eql 35 (Operand.tmp 6) (Operand.const (Value.pointer none)) (I.ptr r 0) I.aZ=some (I.bool false))<| .cons (rfl:false=false)<| .cons (rfl:false=false)<| .cons (rfl:false=false)<| .cons H1<| .nil
theorem VX(call:aP)(r n:Nat)(h:J)
  (H1:bP (.ofNat 60) (.ofNat n)=false):
  aB Tryz.prog Tryz.f80 none call [1,0] (ah.mk [(0,.ptr r 0),(1,.int .i64 (.ofNat n))] [] .none h) (.nrm)
   (ah.mk [(0,.ptr r 0),(1,.int .i64 (.ofNat n))] [] .none h):=
 bx [0,1,4] (hs:=[.v (.bool false),.b false,.b false,.b false,.b false]) (by kernel_rfl)<| .cons (by kernel_rfl:dZ Tryz.prog h BinOp.eql 35 (Operand.tmp 6) (Operand.const (Value.pointer none)) (I.ptr r 0) I.aZ=some (I.bool false))<| .cons (rfl:false=false)<| .cons (rfl:false=false)<| .cons (rfl:false=false)<| .cons H1<| .nil
theorem VY(call:aP)(r n k:Nat)(h:J)
  (H1:arith .add .i64 (.ofNat n) (.ofNat 1)=some (.int .i64 (.ofNat k))):
  aB Tryz.prog Tryz.f80 none call [1,1,0] (ah.mk [(0,.ptr r 0),(1,.int .i64 (.ofNat n))] [] .none h) (.nrm)
   (ah.mk [(0,.ptr r 0),(1,.int .i64 (.ofNat k))] [] .none h):=
 bx [0,1] (hs:=[.v (.int .i64 (.ofNat k))]) (by kernel_rfl)<| .cons H1<| .nil
theorem VZ(call:aP)(r n:Nat)(h:J):
  aB Tryz.prog Tryz.f80 none call [1,1,1,0,0] (ah.mk [(0,.ptr r 0),(1,.int .i64 (.ofNat n))] [] .none h) (.nrm)
   (ah.mk [(0,.ptr r 0),(1,.int .i64 (.ofNat n)),(5,.int .i64 (.ofNat 0))] [] .none h):=
 bx [0,1,5] (hs:=[]) (by kernel_rfl)<| .nil
theorem V0(call:aP)(r n:Nat)(h:J)
  (H1:ar h r (0+3)=some .aS):
  aB Tryz.prog Tryz.f80 none call [1,1,1,0,1,0,0] (ah.mk [(0,.ptr r 0),(1,.int .i64 (.ofNat n)),(5,.int .i64 (.ofNat 0))] [] .none h) (.exit 0)
   (ah.mk [(0,.ptr r 0),(1,.int .i64 (.ofNat n))] [] .none h):=
 bx [0,1] (hs:=[.v .aS,.b false,.b false,.b false,.b false]) (by kernel_rfl)<| .cons H1<| .cons (by kernel_rfl:bP (Int.ofNat 0) (Int.ofNat 0)=false)<| .cons (by kernel_rfl:bP (Int.ofNat 0) (Int.ofNat 0)=false)<| .cons (by kernel_rfl:bP (Int.ofNat 0) (Int.ofNat 0)=false)<| .cons (rfl:false=false)<| .nil
theorem V1(call:aP)(r n b off N i q k j:Nat)(cp:bR)(x:I)(h g:J)
  (H1:ar h r (0+3)=some (.slice b off N cp))
  (aM:bP (.ofNat i) (.ofNat N)=true)
  (bm:eQ (.ofNat n) (.ofNat 60)=true)
  (bl:Nat.le (Nat.succ i) N/\I.ptr b q=I.ptr b (off+i*1))
  (bY:ar h b q=some x)
  (cG:call (.fn 80) [x,.int .i64 (.ofNat n)] h=a9.ret (.int .i64 (.ofNat k)) g)
  (du:arith .add .i64 (.ofNat i) (.ofNat 1)=some (.int .i64 (.ofNat j))):
  aB Tryz.prog Tryz.f80 none call [1,1,1,0,1,0,0] (ah.mk [(0,.ptr r 0),(1,.int .i64 (.ofNat n)),(5,.int .i64 (.ofNat i))] [] .none h) (.nrm)
   (ah.mk [(0,.ptr r 0),(1,.int .i64 (.ofNat k)),(5,.int .i64 (.ofNat j))] [] .none g):=
 bx [0,1,5] (hs:=[.v (.slice b off N cp),.b true,.b true,.b true,.b true,.v (.slice b off N cp),.v (.ptr b q),.v x,.c (.int .i64 (.ofNat k)) g,.v (.int .i64 (.ofNat j))]) (by kernel_rfl)<| .cons H1<| .cons aM<| .cons aM<| .cons aM<| .cons bm<| .cons H1<| .cons bl<| .cons bY<| .cons cG<| .cons du<| .nil
theorem V2(call:aP)(r n b off N i q k j:Nat)(cp:bR)(x:I)(h g:J)
  (H1:ar h r (0+3)=some (.slice b off N cp))
  (aM:bP (.ofNat i) (.ofNat N)=true)
  (bm:eQ (.ofNat n) (.ofNat 60)=false):
  aB Tryz.prog Tryz.f80 none call [1,1,1,0,1,0,0] (ah.mk [(0,.ptr r 0),(1,.int .i64 (.ofNat n)),(5,.int .i64 (.ofNat i))] [] .none h) (.exit 0)
   (ah.mk [(0,.ptr r 0),(1,.int .i64 (.ofNat n)),(5,.int .i64 (.ofNat i))] [] .none h):=
 bx [0,1,5] (hs:=[.v (.slice b off N cp),.b true,.b true,.b true,.b false]) (by kernel_rfl)<| .cons H1<| .cons aM<| .cons aM<| .cons aM<| .cons bm<| .nil
theorem V3(call:aP)(r n b off N i q k j:Nat)(cp:bR)(x:I)(h g:J)
  (H1:ar h r (0+3)=some (.slice b off N cp))
  (aM:bP (.ofNat i) (.ofNat N)=false):
  aB Tryz.prog Tryz.f80 none call [1,1,1,0,1,0,0] (ah.mk [(0,.ptr r 0),(1,.int .i64 (.ofNat n)),(5,.int .i64 (.ofNat i))] [] .none h) (.exit 0)
   (ah.mk [(0,.ptr r 0),(1,.int .i64 (.ofNat n)),(5,.int .i64 (.ofNat i))] [] .none h):=
 bx [0,1,5] (hs:=[.v (.slice b off N cp),.b false,.b false,.b false,.b false]) (by kernel_rfl)<| .cons H1<| .cons aM<| .cons aM<| .cons aM<| .cons (rfl:false=false)<| .nil
theorem V4(call:aP)(r n k:Nat)(x:I)(h g:J)
  (H1:ar h r (0+4)=some x)
  (aM:call (.fn 80) [x,.int .i64 (.ofNat n)] h=a9.ret (.int .i64 (.ofNat k)) g):
  aB Tryz.prog Tryz.f80 none call [1,1,1,1] (ah.mk [(0,.ptr r 0),(1,.int .i64 (.ofNat n))] [] .none h) (.ret)
   (ah.mk [(4,.int .i64 (.ofNat k))] [] .none g):=
 bx [4] (hs:=[.v x,.c (.int .i64 (.ofNat k)) g]) (by kernel_rfl)<| .cons H1<| .cons aM<| .nil
theorem MC(call:aP)(k:Nat)(x:I)(h g:J)
  (H1:call (.fn 80) [x,.int .i64 (.ofNat 0)] h=a9.ret (.int .i64 (.ofNat k)) g):
  aB Tryz.prog Tryz.f52 none call [] (ah.mk [(0,x)] [] .none h) (.ret)
   (ah.mk [(2,.int .i64 (.ofNat k))] [] .none g):=
 bx [2] (hs:=[.c (.int .i64 (.ofNat k)) g]) (by kernel_rfl)<| .cons H1<| .nil
theorem MD{B:Nat}{h:J}{xs:List aC}{vs:List I}(call:aP)(r b off:Nat)(cp:bR)(aD:ar h r (0+3)=some (.slice b off vs.length cp))(ab:dL B h xs vs)(aw:∀i (af:i<vs.length),ar h b (off+i*1)=some vs[i])(hlen:vs.length<=1000000)
  (bb:∀i (aa:i<vs.length) (ad:i<xs.length) n,n<=61->call (.fn 80) [vs[i],.int .i64 (Int.ofNat n)] h=.ret (.int .i64 (Int.ofNat (min (n+sz xs[i]) 61))) h):∀(k i n:Nat),vs.length-i=k->i<=vs.length->n<=61->
  eL Tryz.prog Tryz.f80 none call [1,1,1,0,1,0] (k+1) ⟨[(0,.ptr r 0),(1,.int .i64 (Int.ofNat n)),(5,.int .i64 (Int.ofNat i))],[],.none,h⟩ (.exit 0) ⟨[(0,.ptr r 0),(1,.int .i64 (Int.ofNat (min (n+df (xs.drop i)) 61)))],[],.none,h⟩
 |0,i,n,aq,af,aN=>by
  have eD:=dL.len ab
  obtain rfl:i=vs.length:=by omega
  rw[List.drop_of_length_le (by omega)]
  have e:min (n+df []) 61=n:=by show min (n+0) 61=n;omega
  rw[e]
  exact .exit (cQ.post (V3 call r n b off vs.length _ 0 0 0 cp .aZ h h aD (e1 (by omega))) ⟨rfl,rfl,trivial⟩) (by simp)
 |k+1,i,n,aq,af,aN=>by
  have eD:=dL.len ab
  have aa:i<vs.length:=by omega
  have ad:i<xs.length:=by omega
  rw[List.drop_eq_getElem_cons ad]
  by_cases pj:n<=60
  · have st:=V1 call r n b off vs.length i (off+i*1) (min (n+sz xs[i]) 61) (i+1) cp vs[i] h h aD (dT aa) (mO (by omega)) ⟨aa,rfl⟩ (aw i aa) (bb i aa ad n aN) (j7 aa (by omega))
    have e:min (n+df (xs[i]::xs.drop (i+1))) 61=min (min (n+sz xs[i]) 61+df (xs.drop (i+1))) 61:=by
     show min (n+(sz xs[i]+df (xs.drop (i+1)))) 61=_
     omega
    rw[e]
    exact .step st (MD call r b off cp aD ab aw hlen bb k (i+1) _ (by omega) (by omega) (by omega))
  · have e:min (n+df (xs[i]::xs.drop (i+1))) 61=n:=by omega
    rw[e]
    exact .exit (cQ.post (V2 call r n b off vs.length i 0 0 0 cp .aZ h h aD (dT aa) (ox (by omega))) ⟨rfl,rfl,trivial⟩) (by simp)
theorem ME(m n:Nat)(h:J):Y (m+1) (.fn 80) [.aZ,.int .i64 (Int.ofNat n)] h=.ret (.int .i64 (Int.ofNat n)) h:=
 eA (intr:=b3) (n:=m) (args:=[.aZ,.int .i64 (Int.ofNat n)]) Tryz.func80 (by kernel_rfl) rfl (by kernel_rfl) (VV (Y m) n h) (.inl rfl) (by kernel_rfl)
theorem GA:∀(N:Nat) (t:aC),sz t<=N->sz t<=90000->∀(B:Nat) (h:J) (v:I) (m n:Nat),sz t<m->n<=61->dD B h t v->Y m (.fn 80) [v,.int .i64 (Int.ofNat n)] h=.ret (.int .i64 (Int.ofNat (min (n+sz t) 61))) h
 |0,t,gW,_,_,_,_,_,_,_,_,_=>by have:=qp t;omega
 |N+1,.mk k nm ns xs rt,gW,y3,B,h,v,m,n,hm,aN,aD=>by
  obtain⟨r,bK,a_,c0,vs,bk,aI,up,rfl,ad,av,aG,bI,cq,di⟩:=aD
  have hs:sz (.mk k nm ns xs rt)=1+df xs+c_ rt:=by unfold sz;rfl
  rw[hs] at gW hm y3⊢
  obtain⟨m,rfl⟩:∃j,m=j+1:=⟨m-1,by omega⟩
  have eD:=dL.len cq
  have jv:=mW xs
  by_cases pj:n<=60
  · have ib:=MB (Y m) r n h
    have s1:=VX (Y m) r n h (e1 (by omega))
    have s2:=VY (Y m) r n (n+1) h (j7 (m:=100000) (by omega) (by decide))
    have bN:=VZ (Y m) r (n+1) h
    have bb:∀i (aa:i<vs.length) (ad:i<xs.length) n,n<=61->Y m (.fn 80) [vs[i],.int .i64 (Int.ofNat n)] h=.ret (.int .i64 (Int.ofNat (min (n+sz xs[i]) 61))) h:=λi aa ad n aN=>by
     have hl:=oH (List.getElem_mem ad)
     exact GA N xs[i] (by omega) (by omega) B h vs[i] m n (by omega) aN (dL.get cq i aa ad)
    have fB:ar h r (0+3)=some a_:=aT av rfl
    have loop:aB Tryz.prog Tryz.f80 none (Y m) [1,1,1,0,1,0] ⟨[(0,.ptr r 0),(1,.int .i64 (Int.ofNat (n+1))),(5,.int .i64 (Int.ofNat 0))],[],.none,h⟩ (.exit 0) ⟨[(0,.ptr r 0),(1,.int .i64 (Int.ofNat (min (n+1+df xs) 61)))],[],.none,h⟩:=by
     rcases bI with⟨rfl,rfl⟩|⟨b,off,cp,rfl,ae,aw,_⟩
     · have l1:xs=[]:=List.eq_nil_of_length_eq_zero (by simpa using eD.symm)
       subst l1
       have e:min (n+1+df []) 61=n+1:=by show min (n+1+0) 61=n+1;omega
       rw[e]
       exact eL.run (p:=[1,1,1,0,1,0]) (n:=1) (by kernel_rfl) (.exit (V0 (Y m) r (n+1) h fB) (by simp)) (by omega)
     · have:=MD (Y m) r b off cp fB cq aw (by omega) bb vs.length 0 (n+1) (by omega) (by omega) (by omega)
       rw[List.drop_zero] at this
       exact eL.run (p:=[1,1,1,0,1,0]) (by kernel_rfl) this (by omega)
    have V5:=aB.block (p:=[1,1,1,0,1]) (id:=0) (by kernel_rfl) loop
    have yQ:Y m (.fn 80) [c0,.int .i64 (Int.ofNat (min (n+1+df xs) 61))] h=.ret (.int .i64 (Int.ofNat (min (n+(1+df xs+c_ rt)) 61))) h:=by
     cases rt with
     |none=>
      have e:c0=.aZ:=di
      subst e
      obtain⟨m,rfl⟩:∃j,m=j+1:=⟨m-1,by omega⟩
      have e:min (n+(1+df xs+c_ none)) 61=min (n+1+df xs) 61:=by show min (n+(1+df xs+0)) 61=_;omega
      rw[e]
      exact ME m _ h
     |some u=>
      have eR:c_ (some u)=sz u:=by unfold c_;rfl
      rw[eR] at gW hm y3⊢
      rw[GA N u (by omega) (by omega) B h c0 m _ (by omega) (by omega) di]
      congr 3
      omega
    have bS:=V4 (Y m) r (min (n+1+df xs) 61) (min (n+(1+df xs+c_ rt)) 61) c0 h h (aT av rfl) yQ
    exact eA (intr:=b3) (n:=m) (args:=[.ptr r 0,.int .i64 (Int.ofNat n)]) Tryz.func80 (by kernel_rfl) rfl (by kernel_rfl) (aB.seq (p:=[]) (by kernel_rfl) ib (aB.seq (p:=[1]) (by kernel_rfl) s1 (aB.seq (p:=[1,1]) (by kernel_rfl) s2 (aB.seq (p:=[1,1,1]) (by kernel_rfl) (aB.seq (p:=[1,1,1,0]) (by kernel_rfl) bN V5) bS)))) (.inl rfl) (by kernel_rfl)
  · have ib:=MB (Y m) r n h
    have e:min (n+(1+df xs+c_ rt)) 61=n:=by omega
    rw[e]
    have s1:=VW (Y m) r n h (dT (by omega))
    exact eA (intr:=b3) (n:=m) (args:=[.ptr r 0,.int .i64 (Int.ofNat n)]) Tryz.func80 (by kernel_rfl) rfl (by kernel_rfl) (aB.seq (p:=[]) (by kernel_rfl) ib (aB.gy (p:=[1]) (by kernel_rfl) s1 (by simp))) (.inl rfl) (by kernel_rfl)
theorem MF{t:aC}{B:Nat}{h:J}{v:I}{m:Nat}(ae:sz t<=90000)(hm:sz t<m)(aD:dD B h t v):Y (m+1) (.fn 52) [v] h=.ret (.int .i64 (Int.ofNat (min (sz t) 61))) h:=by
 have e:=GA (sz t) t (Nat.le_refl _) ae B h v m 0 hm (by decide) aD
 rw[Nat.zero_add] at e
 exact eA (intr:=b3) (n:=m) (args:=[v]) Tryz.func52 (by kernel_rfl) rfl (by kernel_rfl) (MC (Y m) _ v h h e) (.inl rfl) (by kernel_rfl)
theorem V6(call:aP)(v:I)(h:J):
  aB Tryz.prog Tryz.f16 none call [0] (ah.mk [(0,v)] [] .none h) (.nrm)
   (ah.mk [(0,v)] [] .none h):=
 bx [0] (hs:=[]) (by kernel_rfl)<| .nil
theorem V7(call:aP)(v:I)(h g:J)
  (H1:bt.storeCells (J.push h (.cells [.int .i64 (.ofNat 0)] 3 .own 0 0)) (J.n h) 0 [.int .i64 (.ofNat 0)]=some g):
  aB Tryz.prog Tryz.f16 none call [1,0] (ah.mk [(0,v)] [] .none h) (.nrm)
   (ah.mk [(0,v),(3,.ptr (J.n h) 0)] [] .none g):=
 bx [0,3] (hs:=[.mM (.aO []) g]) (by kernel_rfl)<| .cons (⟨by kernel_rfl,H1,rfl⟩:some 1=some 1/\bt.storeCells (J.push h (dr.cells [I.int IntKind.i64 (Int.ofNat 0)] 3 gS.own 0 0)) (J.n h) 0 [I.int IntKind.i64 (Int.ofNat 0)]=some g/\I.aO []=I.aO [])<| .nil
theorem V8(call:aP)(v w:I)(a:Nat)(h g:J)
  (H1:call (.fn 37) [v] h=a9.ret w g):
  aB Tryz.prog Tryz.f16 none call [1,1,0,0] (ah.mk [(0,v),(3,.ptr a 0)] [] .none h) (.nrm)
   (ah.mk [(3,.ptr a 0),(5,w)] [] .none g):=
 bx [3,5] (hs:=[.c w g]) (by kernel_rfl)<| .cons H1<| .nil
theorem V9(call:aP)(l a i j:Nat)(h g:J)
  (H1:ar h a 0=some (.int .i64 (.ofNat i)))
  (aM:arith .add .i64 (.ofNat i) (.ofNat 1)=some (.int .i64 (.ofNat j)))
  (bm:bt.storeCells h a 0 [.int .i64 (.ofNat j)]=some g)
  (bl:ar g a 0=some (.int .i64 (.ofNat j)))
  (bY:bP (.ofNat 60) (.ofNat j)=true):
  aB Tryz.prog Tryz.f16 (some l) call [1,1,0,1,0,1] (ah.mk [(3,.ptr a 0)] [] .none h) (.exit 0)
   (ah.mk [(3,.ptr a 0)] [] .none g):=
 bx [3] (hs:=[.v (.int .i64 (.ofNat i)),.v (.int .i64 (.ofNat j)),.mM (.aO []) g,.v (.int .i64 (.ofNat j)),.b true]) (by kernel_rfl)<| .cons H1<| .cons aM<| .cons (⟨by kernel_rfl,bm,rfl⟩:some 1=some 1/\bt.storeCells h a 0 [I.int IntKind.i64 (Int.ofNat j)]=some g/\I.aO []=I.aO [])<| .cons bl<| .cons bY<| .nil
theorem V_(call:aP)(l a i j:Nat)(h g:J)
  (H1:ar h a 0=some (.int .i64 (.ofNat i)))
  (aM:arith .add .i64 (.ofNat i) (.ofNat 1)=some (.int .i64 (.ofNat j)))
  (bm:bt.storeCells h a 0 [.int .i64 (.ofNat j)]=some g)
  (bl:ar g a 0=some (.int .i64 (.ofNat j)))
  (bY:bP (.ofNat 60) (.ofNat j)=false):
  aB Tryz.prog Tryz.f16 (some l) call [1,1,0,1,0,1] (ah.mk [(3,.ptr a 0)] [] .none h) (.nrm)
   (ah.mk [(3,.ptr a 0)] [] .none g):=
 bx [3] (hs:=[.v (.int .i64 (.ofNat i)),.v (.int .i64 (.ofNat j)),.mM (.aO []) g,.v (.int .i64 (.ofNat j)),.b false]) (by kernel_rfl)<| .cons H1<| .cons aM<| .cons (⟨by kernel_rfl,bm,rfl⟩:some 1=some 1/\bt.storeCells h a 0 [I.int IntKind.i64 (Int.ofNat j)]=some g/\I.aO []=I.aO [])<| .cons bl<| .cons bY<| .nil
theorem Wa(call:aP)(a j eU:Nat)(h:J)
  (H1:ar h a 0=some (.int .i64 (.ofNat j))):
  aB Tryz.prog Tryz.f16 none call [1,1,1] (ah.mk [(3,.ptr a 0)] [.collected eU] .none h) (.ret)
   (ah.mk [(2,.int .i64 (.ofNat j))] [.collected eU] .none h):=
 bx [2] (hs:=[.v (.int .i64 (.ofNat j))]) (by kernel_rfl)<| .cons H1<| .nil
theorem Wb(call:aP)(r:Nat)(h:J):
  aB Tryz.prog Tryz.f37 none call [] (ah.mk [(0,.ptr r 0)] [] .none h) (.ret)
   (ah.mk [(2,.fn 57 [] [.ptr (J.n h) 0])] [] .none (J.push h (.cells [.ptr r 0] 35 .own 0 0))):=
 bx [2] (hs:=[]) (by kernel_rfl)<| .nil
theorem Wc(call:aP)(h:J):
  aB Tryz.prog Tryz.f37 none call [] (ah.mk [(0,.aZ)] [] .none h) (.ret)
   (ah.mk [(2,.fn 57 [] [.ptr (J.n h) 0])] [] .none (J.push h (.cells [.aZ] 35 .own 0 0))):=
 bx [2] (hs:=[]) (by kernel_rfl)<| .nil
theorem Wd(call:aP)(l a:Nat)(v w:I)(h aa ad:J)
  (H1:bt.storeCells (J.push (J.push h (.cells [.dt l] 89 .own 0 0)) (.cells [.gb] 89 .own 0 0)) (J.n (J.push h (.cells [.dt l] 89 .own 0 0))) 0 [.fn 58 [] [.ptr (J.n h) 0,.ptr (J.n (J.push h (.cells [.dt l] 89 .own 0 0))) 0]]=some aa)
  (aM:ar aa (J.n (J.push h (.cells [.dt l] 89 .own 0 0))) 0=some (.fn 58 [] [.ptr (J.n h) 0,.ptr (J.n h+1) 0]))
  (bm:ar aa a 0=some v)
  (bl:call (.fn 58) [v,.ptr (J.n h) 0,.ptr (J.n h+1) 0] aa=a9.ret w ad):
  aB Tryz.prog Tryz.f57 none call [] (ah.mk [(0,.dt l),(1,.ptr a 0)] [] .none h) (.nrm)
   (ah.mk [] [] .none ad):=
 bx [] (hs:=[.mM (.aO []) aa,.v (.fn 58 [] [.ptr (J.n h) 0,.ptr (J.n h+1) 0]),.v v,.c w ad]) (by kernel_rfl)<| .cons (⟨by kernel_rfl,H1,rfl⟩:some 1=some 1/\bt.storeCells (J.push (J.push h (dr.cells [I.dt l] 89 gS.own 0 0)) (dr.cells [I.gb] 89 gS.own 0 0)) (J.n (J.push h (dr.cells [I.dt l] 89 gS.own 0 0))) 0 [I.fn 58 [] [I.ptr (J.n h) 0,I.ptr (J.n (J.push h (dr.cells [I.dt l] 89 gS.own 0 0))) 0]]=some aa/\I.aO []=I.aO [])<| .cons aM<| .cons bm<| .cons bl<| .nil
theorem We(call:aP)(y z:Nat)(h:J):
  aB Tryz.prog Tryz.f58 none call [] (ah.mk [(0,.aZ),(1,.ptr y 0),(2,.ptr z 0)] [] .none h) (.ret)
   (ah.mk [(4,.bool true)] [] .none h):=
 bx [4] (hs:=[.v (.bool true),.b true]) (by kernel_rfl)<| .cons (by kernel_rfl:dZ Tryz.prog h BinOp.eql 35 (Operand.tmp 7) (Operand.const (Value.pointer none)) I.aZ I.aZ=some (I.bool true))<| .cons (rfl:true=true)<| .nil
theorem Wf(call:aP)(r y z:Nat)(h:J):
  aB Tryz.prog Tryz.f58 none call [0] (ah.mk [(0,.ptr r 0),(1,.ptr y 0),(2,.ptr z 0)] [] .none h) (.nrm)
   (ah.mk [(0,.ptr r 0),(1,.ptr y 0),(2,.ptr z 0)] [] .none h):=
 bx [0,1,2] (hs:=[]) (by kernel_rfl)<| .nil
theorem Wg(call:aP)(r y z:Nat)(h:J):
  aB Tryz.prog Tryz.f58 none call [1,0] (ah.mk [(0,.ptr r 0),(1,.ptr y 0),(2,.ptr z 0)] [] .none h) (.nrm)
   (ah.mk [(0,.ptr r 0),(1,.ptr y 0),(2,.ptr z 0)] [] .none h):=
 bx [0,1,2] (hs:=[.v (.bool false),.b false]) (by kernel_rfl)<| .cons (by kernel_rfl:dZ Tryz.prog h BinOp.eql 35 (Operand.tmp 7) (Operand.const (Value.pointer none)) (I.ptr r 0) I.aZ=some (I.bool false))<| .cons (rfl:false=false)<| .nil
theorem Wh(call:aP)(r y z l:Nat)(h g:J)
  (H1:ar h y 0=some (.dt l))
  (aM:call (.dt l) [.ptr r 0] h=a9.ret (.bool true) g):
  aB Tryz.prog Tryz.f58 none call [1,1,0] (ah.mk [(0,.ptr r 0),(1,.ptr y 0),(2,.ptr z 0)] [] .none h) (.nrm)
   (ah.mk [(0,.ptr r 0),(1,.ptr y 0),(2,.ptr z 0)] [] .none g):=
 bx [0,1,2] (hs:=[.v (.dt l),.c (.bool true) g,.b false]) (by kernel_rfl)<| .cons H1<| .cons aM<| .cons (by kernel_rfl:(!true)=false)<| .nil
theorem Wi(call:aP)(r y z l:Nat)(h g:J)
  (H1:ar h y 0=some (.dt l))
  (aM:call (.dt l) [.ptr r 0] h=a9.ret (.bool false) g):
  aB Tryz.prog Tryz.f58 none call [1,1,0] (ah.mk [(0,.ptr r 0),(1,.ptr y 0),(2,.ptr z 0)] [] .none h) (.ret)
   (ah.mk [(4,.bool false)] [] .none g):=
 bx [4] (hs:=[.v (.dt l),.c (.bool false) g,.b true]) (by kernel_rfl)<| .cons H1<| .cons aM<| .cons (by kernel_rfl:(!false)=true)<| .nil
theorem Wj(call:aP)(r y z b off N:Nat)(cp:bR)(h:J)
  (H1:ar h r (0+3)=some (.slice b off N cp)):
  aB Tryz.prog Tryz.f58 none call [1,1,1,0,0] (ah.mk [(0,.ptr r 0),(1,.ptr y 0),(2,.ptr z 0)] [] .none h) (.nrm)
   (ah.mk [(0,.ptr r 0),(1,.ptr y 0),(2,.ptr z 0),(16,.slice b off N cp),(17,.int .i64 (.ofNat N)),(18,.int .i64 (.ofNat 0))] [] .none h):=
 bx [0,1,2,16,17,18] (hs:=[.v (.slice b off N cp)]) (by kernel_rfl)<| .cons H1<| .nil
theorem Wk(call:aP)(r y z:Nat)(h:J)
  (H1:ar h r (0+3)=some .aS):
  aB Tryz.prog Tryz.f58 none call [1,1,1,0,0] (ah.mk [(0,.ptr r 0),(1,.ptr y 0),(2,.ptr z 0)] [] .none h) (.nrm)
   (ah.mk [(0,.ptr r 0),(1,.ptr y 0),(2,.ptr z 0),(16,.aS),(17,.int .i64 (.ofNat 0)),(18,.int .i64 (.ofNat 0))] [] .none h):=
 bx [0,1,2,16,17,18] (hs:=[.v .aS]) (by kernel_rfl)<| .cons H1<| .nil
theorem MG(call:aP)(r y z N i:Nat)(v:I)(h:J)
  (H1:bP (.ofNat i) (.ofNat N)=false):
  aB Tryz.prog Tryz.f58 none call [1,1,1,0,1,0,0] (ah.mk [(0,.ptr r 0),(1,.ptr y 0),(2,.ptr z 0),(16,v),(17,.int .i64 (.ofNat N)),(18,.int .i64 (.ofNat i))] [] .none h) (.exit 0)
   (ah.mk [(0,.ptr r 0),(1,.ptr y 0),(2,.ptr z 0)] [] .none h):=
 bx [0,1,2] (hs:=[.b false]) (by kernel_rfl)<| .cons H1<| .nil
theorem Wl(call:aP)(r y z b off N i q j:Nat)(cp:bR)(x:I)(h g:J)
  (H1:bP (.ofNat i) (.ofNat N)=true)
  (aM:Nat.le (Nat.succ i) N/\I.ptr b q=I.ptr b (off+i*1))
  (bm:ar h b q=some x)
  (bl:ar h z 0=some (.fn 58 [] [.ptr y 0,.ptr z 0]))
  (bY:call (.fn 58) [x,.ptr y 0,.ptr z 0] h=a9.ret (.bool true) g)
  (cG:arith .add .i64 (.ofNat i) (.ofNat 1)=some (.int .i64 (.ofNat j))):
  aB Tryz.prog Tryz.f58 none call [1,1,1,0,1,0,0] (ah.mk [(0,.ptr r 0),(1,.ptr y 0),(2,.ptr z 0),(16,.slice b off N cp),(17,.int .i64 (.ofNat N)),(18,.int .i64 (.ofNat i))] [] .none h) (.nrm)
   (ah.mk [(0,.ptr r 0),(1,.ptr y 0),(2,.ptr z 0),(16,.slice b off N cp),(17,.int .i64 (.ofNat N)),(18,.int .i64 (.ofNat j))] [] .none g):=
 bx [0,1,2,16,17,18] (hs:=[.b true,.v (.ptr b q),.v x,.v (.fn 58 [] [.ptr y 0,.ptr z 0]),.c (.bool true) g,.b false,.v (.int .i64 (.ofNat j))]) (by kernel_rfl)<| .cons H1<| .cons aM<| .cons bm<| .cons bl<| .cons bY<| .cons (by kernel_rfl:(!true)=false)<| .cons cG<| .nil
theorem Wm(call:aP)(r y z b off N i q:Nat)(cp:bR)(x:I)(h g:J)
  (H1:bP (.ofNat i) (.ofNat N)=true)
  (aM:Nat.le (Nat.succ i) N/\I.ptr b q=I.ptr b (off+i*1))
  (bm:ar h b q=some x)
  (bl:ar h z 0=some (.fn 58 [] [.ptr y 0,.ptr z 0]))
  (bY:call (.fn 58) [x,.ptr y 0,.ptr z 0] h=a9.ret (.bool false) g):
  aB Tryz.prog Tryz.f58 none call [1,1,1,0,1,0,0] (ah.mk [(0,.ptr r 0),(1,.ptr y 0),(2,.ptr z 0),(16,.slice b off N cp),(17,.int .i64 (.ofNat N)),(18,.int .i64 (.ofNat i))] [] .none h) (.ret)
   (ah.mk [(4,.bool false)] [] .none g):=
 bx [4] (hs:=[.b true,.v (.ptr b q),.v x,.v (.fn 58 [] [.ptr y 0,.ptr z 0]),.c (.bool false) g,.b true]) (by kernel_rfl)<| .cons H1<| .cons aM<| .cons bm<| .cons bl<| .cons bY<| .cons (by kernel_rfl:(!false)=true)<| .nil
theorem Wn(call:aP)(r y z:Nat)(x v:I)(h g:J)
  (H1:ar (J.room h 7) z 0=some (.fn 58 [] [.ptr y 0,.ptr z 0]))
  (aM:ar (J.room h 7) r (0+4)=some x)
  (bm:call (.fn 58) [x,.ptr y 0,.ptr z 0] (J.room h 7)=a9.ret v g)
  (bl:I.sound x=true:=by first|with_reducible assumption|rfl|exact c6.snd (by with_reducible assumption)|exact c6.gY (by with_reducible assumption)|exact dM.snd (by with_reducible assumption)|exact dM.gY (by with_reducible assumption)|exact dD.snd (by with_reducible assumption)|exact dD.gY (by with_reducible assumption))
  (bY:I.sound v=true:=by first|with_reducible assumption|rfl|exact c6.snd (by with_reducible assumption)|exact c6.gY (by with_reducible assumption)|exact dM.snd (by with_reducible assumption)|exact dM.gY (by with_reducible assumption)|exact dD.snd (by with_reducible assumption)|exact dD.gY (by with_reducible assumption)):
  aB Tryz.prog Tryz.f58 none call [1,1,1,1] (ah.mk [(0,.ptr r 0),(1,.ptr y 0),(2,.ptr z 0)] [] .none h) (.ret)
   (ah.mk [(4,v)] [] .none g):=
 bx [4] (hs:=[.v (.fn 58 [] [.ptr y 0,.ptr z 0]),.v x,.c v g]) (by kernel_rfl)<| .cons H1<| .cons aM<| .cons bm<| .cons (by kernel_rfl:I.sound (I.fn 58 [] [I.ptr y 0,I.ptr z 0])=true)<| .cons H1<| .cons (by kernel_rfl:I.sound (I.ptr r 0)=true)<| .cons (by kernel_rfl:I.ptr r 0=I.ptr r 0)<| .cons (by kernel_rfl:I.sound (I.ptr r 0)=true)<| .cons (by kernel_rfl:I.ptr r 0=I.ptr r 0)<| .cons (by kernel_rfl:I.sound (I.ptr r (0+4))=true)<| .cons (by kernel_rfl:I.ptr r (0+4)=I.ptr r (0+4))<| .cons bl<| .cons aM<| .cons bY<| .cons (by kernel_rfl:v=v)<| .nil
noncomputable def GB:Code:=sub (fk Tryz.f16) [1,1,0,1,0,0]
noncomputable def Wo:Code:=sub (fk Tryz.f16) [1,1,0,1,0,1]
theorem Wp:GB=.skip:=by kernel_rfl
noncomputable abbrev w0(s:LoopState)(p:Option Code)(r:a2)(N:Nat):dr:=.loop s p (dR Tryz.f16) r [6] GB Wo (N+2)
structure rE(N:Nat)(h:J)(r:a2)(c:Nat)(x:J):Prop where
 qs:x.get N=some (.cells [.int .i64 (Int.ofNat c)] 3 .own 0 0)
 lT:x.get (N+2)=some (.defrd (some []))
 w1:x.get (N+3)=some (w0 .ready none r N)
 dt:x.get (N+4)=some (.cells [.dt (N+3)] 89 .own 0 0)
 w2:x.get (N+5)=some (.cells [.fn 58 [] [.ptr (N+4) 0,.ptr (N+5) 0]] 89 .own 0 0)
 ext:Ext N h x
structure MH(N:Nat)(h:J)(r:a2)(x:J):Prop where
 qs:x.get N=some (.cells [.int .i64 (Int.ofNat 61)] 3 .own 0 0)
 lT:x.get (N+2)=some (.defrd (some []))
 w1:x.get (N+3)=some (w0 .done (some (.exit 0)) r N)
 ext:Ext N h x
theorem rE.room{N:Nat}{h:J}{r:a2}{c:Nat}{x:J}(af:rE N h r c x)(k:Nat):rE N h r c (x.room k):=⟨af.qs,af.lT,af.w1,af.dt,af.w2,af.ext.ht⟩
theorem Wq(m:Nat){N:Nat}{h:J}{r:a2}{c:Nat}{x:J}(aj:bt.Mod r [(3,.ptr N 0)])(af:rE N h r c x)(ag:c<=60)(v:I):
  ∃b y,Y (m+1) (.dt (N+3)) [v] x=.ret (.bool b) y/\((b=true/\c+1<=60/\rE N h r (c+1) y)\/(b=false/\60<c+1/\MH N h r y)):=by
 have aU:Y (m+1) (.dt (N+3)) [v] x=tE Tryz.prog (Y m) (N+3) [v] x:=rfl
 rw[aU]
 have aL:∀q,cQ Tryz.prog (dR Tryz.f16) (some (N+3)) (Y m) GB ⟨put 6 v [(3,.ptr N 0)],[],q,x⟩ .nrm ⟨[(3,.ptr N 0)],[],q,x⟩:=λq r' hm=>by
  rw[Wp]
  exact⟨r',rfl,hm.sub ⟨rfl,trivial⟩⟩
 have ee:(x.set (N+3) (some (w0 .busy none r N))).get N=some (.cells [.int .i64 (Int.ofNat c)] 3 .own 0 0):=by
  rw[J.c7,if_neg (by omega)];exact af.qs
 by_cases pj:c+1<=60
 · have ae:=V_ (Y m) (N+3) N c (c+1) _ _ (ow ee) (j7 (m:=100) (by omega) (by decide)) (Ci (y:=.int .i64 (Int.ofNat (c+1))) rfl ee) (ow (t:=3) (by rw[J.c7,if_pos rfl])) (e1 (by omega))
   have e:=Lp af.w1 aj (aL _) ae (by rw[J.c7,if_neg (by omega),J.c7,if_pos rfl])
   rw[e]
   refine⟨true,_,rfl,.inl ⟨rfl,pj,?_,?_,?_,?_,?_,?_⟩⟩
   · simp only[J.c7];rw[if_neg (by omega),if_pos trivial]
   · simp only[J.c7];rw[if_neg (by omega),if_neg (by omega),if_neg (by omega)];exact af.lT
   · simp only[J.c7];rw[if_pos trivial]
   · simp only[J.c7];rw[if_neg (by omega),if_neg (by omega),if_neg (by omega)];exact af.dt
   · simp only[J.c7];rw[if_neg (by omega),if_neg (by omega),if_neg (by omega)];exact af.w2
   · exact((af.ext.iB (by omega)).iB (by omega)).iB (by omega)
 · have ae:=V9 (Y m) (N+3) N c (c+1) _ _ (ow ee) (j7 (m:=100) (by omega) (by decide)) (Ci (y:=.int .i64 (Int.ofNat (c+1))) rfl ee) (ow (t:=3) (by rw[J.c7,if_pos rfl])) (dT (by omega))
   have e:=Lp af.w1 aj (aL _) ae (by rw[J.c7,if_neg (by omega),J.c7,if_pos rfl])
   rw[e]
   have yH:c+1=61:=by omega
   refine⟨false,_,rfl,.inr ⟨rfl,by omega,?_,?_,?_,?_⟩⟩
   · simp only[J.c7];rw[if_neg (by omega),if_pos trivial,yH]
   · simp only[J.c7];rw[if_neg (by omega),if_neg (by omega),if_neg (by omega)];exact af.lT
   · simp only[J.c7];rw[if_pos trivial]
   · exact((af.ext.iB (by omega)).iB (by omega)).iB (by omega)
def u6(N:Nat)(h:J)(r:a2)(c s:Nat)(b:Bool)(y:J):Prop:=(b=true/\c+s<=60/\rE N h r (c+s) y)\/(b=false/\60<c+s/\MH N h r y)
def GC(m:Nat)(N:Nat)(h:J)(r:a2)(B:Nat)(ot:Option aC):Prop:=∀(v:I) (c:Nat) (x:J),c<=60->dM B h ot v->rE N h r c x->∃b y,Y m (.fn 58) [v,.ptr (N+4) 0,.ptr (N+5) 0] x=.ret (.bool b) y/\u6 N h r c (c_ ot) b y
theorem MI{m N B R b off:Nat}{h:J}{r:a2}{xs:List aC}{vs:List I}(cp:bR)(cC:B<=N)(ae:b<B)(ab:dL B h xs vs)(aw:∀i (af:i<vs.length),ar h b (off+i*1)=some vs[i])(hlen:vs.length<=1000000)
  (bb:∀i (ad:i<xs.length),GC m N h r B (some xs[i])):∀(k i c:Nat) (x:J),vs.length-i=k->i<=vs.length->c<=60->rE N h r c x->
  ∃e Γ y,eL Tryz.prog Tryz.f58 none (Y m) [1,1,1,0,1,0] (k+1) ⟨[(0,.ptr R 0),(1,.ptr (N+4) 0),(2,.ptr (N+5) 0),(16,.slice b off vs.length cp),(17,.int .i64 (Int.ofNat vs.length)),(18,.int .i64 (Int.ofNat i))],[],.none,x⟩ e ⟨Γ,[],.none,y⟩/\
   ((e=.exit 0/\Γ=[(0,.ptr R 0),(1,.ptr (N+4) 0),(2,.ptr (N+5) 0)]/\u6 N h r c (df (xs.drop i)) true y)\/(e=.ret/\Γ=[(4,.bool false)]/\u6 N h r c (df (xs.drop i)) false y))
 |0,i,c,x,aq,af,ag,mZ=>by
  have eD:=dL.len ab
  obtain rfl:i=vs.length:=by omega
  rw[List.drop_of_length_le (by omega)]
  exact⟨_,_,_,.exit (MG (Y m) R (N+4) (N+5) _ _ _ x (e1 (by omega))) (by simp),.inl ⟨rfl,rfl,.inl ⟨rfl,ag,mZ⟩⟩⟩
 |k+1,i,c,x,aq,af,ag,mZ=>by
  have eD:=dL.len ab
  have aa:i<vs.length:=by omega
  have ad:i<xs.length:=by omega
  have ao:df (xs.drop i)=sz xs[i]+df (xs.drop (i+1)):=by
   rw[List.drop_eq_getElem_cons ad];rfl
  have fB:ar x b (off+i*1)=some vs[i]:=by
   rw[<-aw i aa]
   unfold ar
   rw[mZ.ext.get b (by omega)]
  obtain⟨fy,y,aA,ax⟩:=bb i ad vs[i] c x ag (dL.get ab i aa ad) mZ
  have eR:c_ (some xs[i])=sz xs[i]:=by unfold c_;rfl
  rw[eR] at ax
  rcases ax with⟨rfl,bD,ed⟩|⟨rfl,bD,ed⟩
  · have st:=Wl (Y m) R (N+4) (N+5) b off vs.length i (off+i*1) (i+1) cp vs[i] x y (dT aa) ⟨aa,rfl⟩ fB (ow mZ.w2) aA (j7 aa (by omega))
    obtain⟨e,Γ,z,bw,bV⟩:=MI (R:=R) cp cC ae ab aw hlen bb k (i+1) (c+sz xs[i]) y (by omega) (by omega) bD ed
    refine⟨e,Γ,z,.step st bw,?_⟩
    unfold u6 at bV⊢
    rw[ao,<-Nat.add_assoc]
    exact bV
  · have st:=Wm (Y m) R (N+4) (N+5) b off vs.length i (off+i*1) cp vs[i] x y (dT aa) ⟨aa,rfl⟩ fB (ow mZ.w2) aA
    exact⟨_,_,_,.exit st (by simp),.inr ⟨rfl,rfl,.inr ⟨rfl,by omega,ed⟩⟩⟩
theorem GD{N B:Nat}{h:J}{r:a2}(aj:bt.Mod r [(3,.ptr N 0)])(cC:B<=N):∀(K:Nat) (ot:Option aC),c_ ot<=K->c_ ot<=90000->∀m,c_ ot+3<=m->GC m N h r B ot
 |K,none,_,_,m,hm=>λv c x ag aD mZ=>by
  obtain rfl:v=.aZ:=aD
  obtain⟨m,rfl⟩:∃j,m=j+1:=⟨m-1,by omega⟩
  exact⟨true,x,eA (intr:=b3) (n:=m) (args:=[.aZ,.ptr (N+4) 0,.ptr (N+5) 0]) Tryz.func58 (by kernel_rfl) rfl (by kernel_rfl) (We (Y m) (N+4) (N+5) x) (.inl rfl) (by kernel_rfl),.inl ⟨rfl,ag,mZ⟩⟩
 |0,some t,de,_,m,hm=>by
  have eR:c_ (some t)=sz t:=by unfold c_;rfl
  have:=qp t
  omega
 |K+1,some (.mk k nm ns xs rt),de,g5,m,hm=>λv c x ag aD mZ=>by
  have hs:c_ (some (.mk k nm ns xs rt))=1+df xs+c_ rt:=by rw[iP,mc]
  obtain⟨R,bK,a_,c0,vs,bk,aI,up,rfl,ad,av,aG,bI,cq,di⟩:=aD
  rw[hs] at de g5 hm⊢
  obtain⟨m,rfl⟩:∃j,m=j+1:=⟨m-1,by omega⟩
  obtain⟨m,rfl⟩:∃j,m=j+1:=⟨m-1,by omega⟩
  have eD:=dL.len cq
  have jv:=mW xs
  have ib:=Wf (Y (m+1)) R (N+4) (N+5) x
  have s1:=Wg (Y (m+1)) R (N+4) (N+5) x
  obtain⟨fy,y,aA,ax⟩:=Wq m aj mZ ag (.ptr R 0)
  rcases ax with⟨rfl,bD,ed⟩|⟨rfl,bD,ed⟩
  · have s2:=Wh (Y (m+1)) R (N+4) (N+5) (N+3) x y (ow mZ.dt) aA
    have zO:y.get R=some (.cells [.int .i64 (Int.ofNat k),.str nm,bK,a_,c0] 80 bk aI up):=by
     rw[ed.ext.get R (by omega)];exact av
    have fB:ar y R (0+3)=some a_:=aT zO rfl
    have bb:∀i (ad:i<xs.length),GC (m+1) N h r B (some xs[i]):=λi ad=>by
     have hl:=oH (List.getElem_mem ad)
     have eR:c_ (some xs[i])=sz xs[i]:=by unfold c_;rfl
     exact GD aj cC K (some xs[i]) (by omega) (by omega) (m+1) (by omega)
    have loop:∃e Γ z,aB Tryz.prog Tryz.f58 none (Y (m+1)) [1,1,1,0] ⟨[(0,.ptr R 0),(1,.ptr (N+4) 0),(2,.ptr (N+5) 0)],[],.none,y⟩ e ⟨Γ,[],.none,z⟩/\
      ((e=.nrm/\Γ=[(0,.ptr R 0),(1,.ptr (N+4) 0),(2,.ptr (N+5) 0)]/\u6 N h r (c+1) (df xs) true z)\/(e=.ret/\Γ=[(4,.bool false)]/\u6 N h r (c+1) (df xs) false z)):=by
     rcases bI with⟨rfl,rfl⟩|⟨b,off,cp,rfl,ae,aw,_⟩
     · have l1:xs=[]:=List.eq_nil_of_length_eq_zero (by simpa using eD.symm)
       subst l1
       refine⟨_,_,_,aB.seq (p:=[1,1,1,0]) (by kernel_rfl) (Wk (Y (m+1)) R (N+4) (N+5) y fB) (aB.block (p:=[1,1,1,0,1]) (id:=0) (by kernel_rfl) (eL.run (p:=[1,1,1,0,1,0]) (n:=1) (by kernel_rfl) (.exit (MG (Y (m+1)) R (N+4) (N+5) 0 0 _ y (by kernel_rfl)) (by simp)) (by omega))),.inl ⟨rfl,rfl,.inl ⟨rfl,bD,ed⟩⟩⟩
     · obtain⟨e,Γ,z,bw,bV⟩:=MI (R:=R) cp cC ae cq aw (by omega) bb vs.length 0 (c+1) y (by omega) (by omega) bD ed
       rw[List.drop_zero] at bV
       have c5:=eL.run (p:=[1,1,1,0,1,0]) (by kernel_rfl) bw (by omega)
       have gz:=Wj (Y (m+1)) R (N+4) (N+5) b off vs.length cp y fB
       rcases bV with⟨rfl,gZ,pk⟩|⟨rfl,gZ,pk⟩
       · exact⟨_,_,_,aB.seq (p:=[1,1,1,0]) (by kernel_rfl) gz (aB.block (p:=[1,1,1,0,1]) (id:=0) (by kernel_rfl) c5),.inl ⟨rfl,gZ,pk⟩⟩
       · exact⟨_,_,_,aB.seq (p:=[1,1,1,0]) (by kernel_rfl) gz (aB.rq (p:=[1,1,1,0,1]) (id:=0) (by kernel_rfl) c5 (by simp)),.inr ⟨rfl,gZ,pk⟩⟩
    obtain⟨e,Γ,z,bw,bV⟩:=loop
    rcases bV with⟨rfl,rfl,bV⟩|⟨rfl,rfl,bV⟩
    · rcases bV with⟨_,c5,gz⟩|⟨c5,_⟩
      · have gZ:=gz.room 7
        have Wr:(z.room 7).get R=some (.cells [.int .i64 (Int.ofNat k),.str nm,bK,a_,c0] 80 bk aI up):=by
         rw[gZ.ext.get R (by omega)];exact av
        obtain⟨fy,w,cW,cN⟩:=GD aj cC K rt (by omega) (by omega) (m+1) (by omega) c0 (c+1+df xs) _ c5 di gZ
        have eT:I.sound c0=true:=by
         cases rt with
         |none=>obtain rfl:c0=.aZ:=di;rfl
         |some u=>
          cases u with
          |mk k nm ns ys rt=>obtain⟨r,bK,a_,_,vs,bk,aI,up,rfl,_⟩:=di;rfl
        have bS:=Wn (Y (m+1)) R (N+4) (N+5) c0 (.bool fy) z w (ow gZ.w2) (aT Wr rfl) cW eT rfl
        refine⟨fy,w,eA (intr:=b3) (n:=m+1) (args:=[.ptr R 0,.ptr (N+4) 0,.ptr (N+5) 0]) Tryz.func58 (by kernel_rfl) rfl (by kernel_rfl) (aB.seq (p:=[]) (by kernel_rfl) ib (aB.seq (p:=[1]) (by kernel_rfl) s1 (aB.seq (p:=[1,1]) (by kernel_rfl) s2 (aB.seq (p:=[1,1,1]) (by kernel_rfl) bw bS)))) (.inl rfl) rfl,?_⟩
        have hE:c+1+df xs+c_ rt=c+(1+df xs+c_ rt):=by omega
        unfold u6 at cN⊢
        rw[hE] at cN
        exact cN
      · simp at c5
    · rcases bV with⟨c5,_⟩|⟨_,c5,gz⟩
      · simp at c5
      · exact⟨false,z,eA (intr:=b3) (n:=m+1) (args:=[.ptr R 0,.ptr (N+4) 0,.ptr (N+5) 0]) Tryz.func58 (by kernel_rfl) rfl (by kernel_rfl) (aB.seq (p:=[]) (by kernel_rfl) ib (aB.seq (p:=[1]) (by kernel_rfl) s1 (aB.seq (p:=[1,1]) (by kernel_rfl) s2 (aB.gy (p:=[1,1,1]) (by kernel_rfl) bw (by simp))))) (.inl rfl) (by kernel_rfl),.inr ⟨rfl,by omega,gz⟩⟩
  · have s2:=Wi (Y (m+1)) R (N+4) (N+5) (N+3) x y (ow mZ.dt) aA
    exact⟨false,y,eA (intr:=b3) (n:=m+1) (args:=[.ptr R 0,.ptr (N+4) 0,.ptr (N+5) 0]) Tryz.func58 (by kernel_rfl) rfl (by kernel_rfl) (aB.seq (p:=[]) (by kernel_rfl) ib (aB.seq (p:=[1]) (by kernel_rfl) s1 (aB.gy (p:=[1,1]) (by kernel_rfl) s2 (by simp)))) (.inl rfl) (by kernel_rfl),.inr ⟨rfl,by omega,ed⟩⟩
theorem Ws{call:aP}(j N:Nat)(r:a2)(q:bL)(h:J)(hm:bt.Mod r [(2,.int .i64 (Int.ofNat j))])(ao:h.get (N+2)=some (.defrd (some []))):
  pV Tryz.prog call Tryz.f16 (.ok .ret r [.collected (N+2)] q h)=.ret (.int .i64 (Int.ofNat j)) (h.set (N+2) (some (.defrd none))):=by
 have aj:=FQ hm (rfl:sL Tryz.prog (dR Tryz.f16) Tryz.f16 [(2,.int .i64 (Int.ofNat j))] (h.set (N+2) (some (.defrd none)))=some (.int .i64 (Int.ofNat j)))
 simp only[pV,jJ,ao,List.nil_append,aj]
theorem GF{ot:Option aC}{B:Nat}{h:J}{v:I}(m:Nat)(g5:c_ ot<=90000)(cC:B<=h.n)(aD:dM B h ot v)(hm:c_ ot+3<=m):
  ∃an,Y (m+2) (.fn 16) [v] h=.ret (.int .i64 (Int.ofNat (min (c_ ot) 61))) an/\Ext h.n h an:=by
 have Wt:=aD.CF
 let aa:=(h.push (.cells [.int .i64 (Int.ofNat 0)] 3 .own 0 0)).set h.n (some (.cells [.int .i64 (Int.ofNat 0)] 3 .own 0 0))
 let ad:=aa.push (.cells [v] 35 .own 0 0)
 have aE:aa.n=h.n+1:=rfl
 have bf:ad.n=h.n+2:=rfl
 have aF:bt.storeCells (h.push (.cells [.int .i64 (Int.ofNat 0)] 3 .own 0 0)) h.n 0 [.int .i64 (Int.ofNat 0)]=some aa:=
  Ci (x:=.int .i64 (Int.ofNat 0)) (t:=3) rfl (by rw[J.gD,if_pos rfl])
 have Wu:Y (m+1) (.fn 37) [v] aa=.ret (.fn 57 [] [.ptr (h.n+1) 0]) ad:=by
  rcases Wt with rfl|⟨R,rfl⟩
  · exact eA (intr:=b3) (n:=m) (args:=[.aZ]) Tryz.func37 (by kernel_rfl) rfl (by kernel_rfl) (Wc (Y m) aa) (.inl rfl) rfl
  · exact eA (intr:=b3) (n:=m) (args:=[.ptr R 0]) Tryz.func37 (by kernel_rfl) rfl (by kernel_rfl) (Wb (Y m) R aa) (.inl rfl) rfl
 have w:WF Tryz.prog Tryz.f16 none (Y (m+1)) [] (λe r d q an=>∃l_,pV Tryz.prog (Y (m+1)) Tryz.f16 (.ok e r d q an)=.ret (.int .i64 (Int.ofNat (min (c_ ot) 61))) l_/\Ext h.n h l_) (n5 0 [v] .leaf) [] .none h:=by
  refine WF.seq (p:=[]) (by kernel_rfl) (W.of (V6 (Y (m+1)) v h) (Ce [v]) λr1 a5=>.inl ⟨rfl,?_⟩)
  refine WF.seq (p:=[1]) (by kernel_rfl) (W.of (V7 (Y (m+1)) v h aa aF) a5 λr2 bX=>.inl ⟨rfl,?_⟩)
  refine WF.seq (p:=[1,1]) (by kernel_rfl) ?_
  refine WF.seq (p:=[1,1,0]) (by kernel_rfl) (W.of (V8 (Y (m+1)) v _ h.n aa ad Wu) bX λdS oF=>.inl ⟨rfl,?_⟩)
  refine WF.block (p:=[1,1,0,1]) (id:=0) (by kernel_rfl) ?_
  refine WF.range (p:=[1,1,0,1,0]) (t:=5) (ps:=[6]) (by kernel_rfl) (by kernel_rfl) (hf:=rfl) (hm:=oF) ?_
  let me:=(ad.push (.defrd (some []))).push (w0 .ready none dS h.n)
  let bC:=((me.push (.cells [.dt (h.n+3)] 89 .own 0 0)).push (.cells [.gb] 89 .own 0 0)).set (h.n+5) (some (.cells [.fn 58 [] [.ptr (h.n+4) 0,.ptr (h.n+5) 0]] 89 .own 0 0))
  have MJ:bt.Mod dS [(3,.ptr h.n 0)]:=oF.sub ⟨rfl,trivial⟩
  have afU:me.n=h.n+4:=rfl
  have hE:Ext h.n h aa:=(Ext.push (Nat.le_refl _) _).iB (Nat.le_refl _)
  have oD:Ext h.n h ad:=hE.k2 (by omega)
  have lH:Ext h.n h me:=(oD.k2 (by omega)).k2 (by show h.n<=h.n+3;omega)
  have j9:Ext h.n h bC:=((lH.k2 (by omega)).k2 (by show h.n<=h.n+5;omega)).iB (by omega)
  have i0:rE h.n h dS 0 bC:=by
   refine⟨?_,?_,?_,?_,?_,?_⟩
   · simp only[bC,me,ad,aa,J.gD,J.c7,J.sa,J.vK];grind
   · simp only[bC,me,ad,aa,J.gD,J.c7,J.sa,J.vK];grind
   · simp only[bC,me,ad,aa,J.gD,J.c7,J.sa,J.vK];grind
   · simp only[bC,me,ad,aa,J.gD,J.c7,J.sa,J.vK];grind
   · simp only[bC,me,ad,aa,J.gD,J.c7,J.sa,J.vK];grind
   · exact j9
  obtain⟨fy,y,aA,ax⟩:=GD MJ cC (c_ ot) ot (Nat.le_refl _) g5 m hm v 0 bC (by decide) aD i0
  have cA:bt.storeCells ((me.push (.cells [.dt (h.n+3)] 89 .own 0 0)).push (.cells [.gb] 89 .own 0 0)) (h.n+5) 0 [.fn 58 [] [.ptr (h.n+4) 0,.ptr (h.n+5) 0]]=some bC:=
   Ci (x:=.gb) rfl (by rw[J.gD];exact if_pos rfl)
  have hJ:bC.get (h.n+1)=some (.cells [v] 35 .own 0 0):=by
   simp only[bC,me,ad,aa,J.gD,J.c7,J.sa,J.vK];grind
  have fQ:=Wd (Y m) (h.n+3) (h.n+1) v (.bool fy) me bC y cA (ow i0.w2) (ow hJ) aA
  have mV:Y (m+1) (.fn 57) [.dt (h.n+3),.ptr (h.n+1) 0] me=.ret (.aO []) y:=
   eA (intr:=b3) (n:=m) (args:=[.dt (h.n+3),.ptr (h.n+1) 0]) Tryz.func57 (by kernel_rfl) rfl (by kernel_rfl) fQ (.inr rfl) (by kernel_rfl)
  have fin:∀(j:Nat) (z:J),j=min (c_ ot) 61->z.get h.n=some (.cells [.int .i64 (Int.ofNat j)] 3 .own 0 0)->z.get (h.n+2)=some (.defrd (some []))->Ext h.n h z->
    WF Tryz.prog Tryz.f16 none (Y (m+1)) [1,1,1] (λe r d q an=>∃l_,pV Tryz.prog (Y (m+1)) Tryz.f16 (.ok e r d q an)=.ret (.int .i64 (Int.ofNat (min (c_ ot) 61))) l_/\Ext h.n h l_) dS [.collected (h.n+2)] .none z:=λj z aK aW qX Wv=>by
   refine W.of (Wa (Y (m+1)) h.n j (h.n+2) _ (ow aW)) MJ λeZ Ww=>?_
   subst aK
   exact⟨_,Ws (min (c_ ot) 61) h.n eZ _ _ Ww qX,Wv.iB (by omega)⟩
  rcases ax with⟨rfl,bD,ed⟩|⟨rfl,bD,ed⟩
  · have uX:n4 (h.n+3) dS [.collected (h.n+2)] .none (.ret (.aO []) y)=.ok .nrm dS [.collected (h.n+2)] .none (y.set (h.n+3) (some (w0 .exhausted none dS h.n))):=by
      simp only[n4,ed.w1]
    refine⟨.nrm,_,(congrArg (n4 (h.n+3) dS [.collected (h.n+2)] .none) mV).trans uX,.inr ⟨by simp,.inl ⟨rfl,?_⟩⟩⟩
    exact fin (0+c_ ot) _ (by omega) (by rw[J.c7,if_neg (by omega)];exact ed.qs) (by rw[J.c7,if_neg (by omega)];exact ed.lT) (ed.ext.iB (by omega))
  · have uX:n4 (h.n+3) dS [.collected (h.n+2)] .none (.ret (.aO []) y)=.ok (.exit 0) dS [.collected (h.n+2)] .none (y.set (h.n+3) (some (w0 .exhausted (some (.exit 0)) dS h.n))):=by
      simp only[n4,ed.w1]
    refine⟨.exit 0,_,(congrArg (n4 (h.n+3) dS [.collected (h.n+2)] .none) mV).trans uX,.inl ⟨rfl,.inl ⟨rfl,?_⟩⟩⟩
    exact fin 61 _ (by omega) (by rw[J.c7,if_neg (by omega)];exact ed.qs) (by rw[J.c7,if_neg (by omega)];exact ed.lT) (ed.ext.iB (by omega))
 obtain⟨e,r,d,q,an,cW,l_,cN,ki⟩:=w
 exact⟨l_,UJ (intr:=b3) (n:=m+1) (args:=[v]) Tryz.func16 (by kernel_rfl) rfl (by kernel_rfl) ⟨e,r,d,q,an,cW,cN⟩,ki⟩
theorem Wx(call:aP)(v w:I)(h:J):
  aB Tryz.prog Tryz.f59 none call [0] (ah.mk [(0,v),(1,w)] [] .none h) (.nrm)
   (ah.mk [(0,v),(1,w)] [] .none h):=
 bx [0,1] (hs:=[]) (by kernel_rfl)<| .nil
theorem Wy(call:aP)(b off N a3 b1 M:Nat)(cp cj:bR)(h:J)
  (H1:(!a8 (.ofNat N) (.ofNat M))=true):
  aB Tryz.prog Tryz.f59 none call [1,0] (ah.mk [(0,.slice b off N cp),(1,.slice a3 b1 M cj)] [] .none h) (.ret)
   (ah.mk [(0,.slice b off N cp),(1,.slice a3 b1 M cj),(4,.bool false)] [] .none h):=
 bx [0,1,4] (hs:=[.b true]) (by kernel_rfl)<| .cons H1<| .nil
theorem Wz(call:aP)(b off N a3 b1 M:Nat)(cp cj:bR)(h:J)
  (H1:(!a8 (.ofNat N) (.ofNat M))=false):
  aB Tryz.prog Tryz.f59 none call [1,0] (ah.mk [(0,.slice b off N cp),(1,.slice a3 b1 M cj)] [] .none h) (.nrm)
   (ah.mk [(0,.slice b off N cp),(1,.slice a3 b1 M cj)] [] .none h):=
 bx [0,1,4] (hs:=[.b false]) (by kernel_rfl)<| .cons H1<| .nil
theorem WA(call:aP)(a3 b1 M:Nat)(cj:bR)(h:J)
  (H1:(!a8 (.ofNat 0) (.ofNat M))=true):
  aB Tryz.prog Tryz.f59 none call [1,0] (ah.mk [(0,.aS),(1,.slice a3 b1 M cj)] [] .none h) (.ret)
   (ah.mk [(0,.aS),(1,.slice a3 b1 M cj),(4,.bool false)] [] .none h):=
 bx [0,1,4] (hs:=[.b true]) (by kernel_rfl)<| .cons H1<| .nil
theorem WB(call:aP)(a3 b1 M:Nat)(cj:bR)(h:J)
  (H1:(!a8 (.ofNat 0) (.ofNat M))=false):
  aB Tryz.prog Tryz.f59 none call [1,0] (ah.mk [(0,.aS),(1,.slice a3 b1 M cj)] [] .none h) (.nrm)
   (ah.mk [(0,.aS),(1,.slice a3 b1 M cj)] [] .none h):=
 bx [0,1,4] (hs:=[.b false]) (by kernel_rfl)<| .cons H1<| .nil
theorem WC(call:aP)(b off N:Nat)(cp:bR)(h:J)
  (H1:(!a8 (.ofNat N) (.ofNat 0))=true):
  aB Tryz.prog Tryz.f59 none call [1,0] (ah.mk [(0,.slice b off N cp),(1,.aS)] [] .none h) (.ret)
   (ah.mk [(0,.slice b off N cp),(1,.aS),(4,.bool false)] [] .none h):=
 bx [0,1,4] (hs:=[.b true]) (by kernel_rfl)<| .cons H1<| .nil
theorem WD(call:aP)(b off N:Nat)(cp:bR)(h:J)
  (H1:(!a8 (.ofNat N) (.ofNat 0))=false):
  aB Tryz.prog Tryz.f59 none call [1,0] (ah.mk [(0,.slice b off N cp),(1,.aS)] [] .none h) (.nrm)
   (ah.mk [(0,.slice b off N cp),(1,.aS)] [] .none h):=
 bx [0,1,4] (hs:=[.b false]) (by kernel_rfl)<| .cons H1<| .nil
theorem WE(call:aP)(h:J):
  aB Tryz.prog Tryz.f59 none call [1,0] (ah.mk [(0,.aS),(1,.aS)] [] .none h) (.nrm)
   (ah.mk [(0,.aS),(1,.aS)] [] .none h):=
 bx [0,1,4] (hs:=[.b false]) (by kernel_rfl)<| .cons (by kernel_rfl:(!a8 (Int.ofNat 0) (Int.ofNat 0))=false)<| .nil
theorem GG(call:aP)(b off N:Nat)(cp:bR)(w:I)(h:J):
  aB Tryz.prog Tryz.f59 none call [1,1,0,0] (ah.mk [(0,.slice b off N cp),(1,w)] [] .none h) (.nrm)
   (ah.mk [(0,.slice b off N cp),(1,w),(12,.int .i64 (.ofNat N)),(13,.int .i64 (.ofNat 0))] [] .none h):=
 bx [0,1,12,13] (hs:=[]) (by kernel_rfl)<| .nil
theorem MK(call:aP)(w:I)(h:J):
  aB Tryz.prog Tryz.f59 none call [1,1,0,0] (ah.mk [(0,.aS),(1,w)] [] .none h) (.nrm)
   (ah.mk [(0,.aS),(1,w),(12,.int .i64 (.ofNat 0)),(13,.int .i64 (.ofNat 0))] [] .none h):=
 bx [0,1,12,13] (hs:=[]) (by kernel_rfl)<| .nil
theorem CG(call:aP)(N i:Nat)(v w:I)(h:J)
  (H1:bP (.ofNat i) (.ofNat N)=false):
  aB Tryz.prog Tryz.f59 none call [1,1,0,1,0,0] (ah.mk [(0,v),(1,w),(12,.int .i64 (.ofNat N)),(13,.int .i64 (.ofNat i))] [] .none h) (.exit 0)
   (ah.mk [] [] .none h):=
 bx [] (hs:=[.b false]) (by kernel_rfl)<| .cons H1<| .nil
theorem WG(call:aP)(b off N a3 b1 M i q a1 j:Nat)(s t:List UInt8)(cp cj:bR)(h:J)
  (H1:bP (.ofNat i) (.ofNat N)=true)
  (aM:Nat.le (Nat.succ i) N/\I.ptr b q=I.ptr b (off+i*1))
  (bm:ar (J.room h 9) b q=some (.str s))
  (bl:Nat.le (Nat.succ i) M/\I.ptr a3 a1=I.ptr a3 (b1+i*1))
  (bY:ar (J.room h 9) a3 a1=some (.str t))
  (cG:(!dd s t)=true):
  aB Tryz.prog Tryz.f59 none call [1,1,0,1,0,0] (ah.mk [(0,.slice b off N cp),(1,.slice a3 b1 M cj),(12,.int .i64 (.ofNat N)),(13,.int .i64 (.ofNat i))] [] .none h) (.ret)
   (ah.mk [(0,.slice b off N cp),(1,.slice a3 b1 M cj),(4,.bool false),(12,.int .i64 (.ofNat N)),(13,.int .i64 (.ofNat i))] [] .none (J.room h 9)):=
 bx [0,1,4,12,13] (hs:=[.b true,.v (.ptr b q),.v (.str s),.v (.ptr a3 a1),.v (.str t),.b true]) (by kernel_rfl)<| .cons H1<| .cons aM<| .cons bm<| .cons bl<| .cons bY<| .cons (by kernel_rfl:I.sound (I.slice b off N cp)=true)<| .cons (by kernel_rfl:I.slice b off N cp=I.slice b off N cp)<| .cons (by kernel_rfl:I.sound (I.int IntKind.i64 (Int.ofNat i))=true)<| .cons (by kernel_rfl:I.int IntKind.i64 (Int.ofNat i)=I.int IntKind.i64 (Int.ofNat i))<| .cons (by kernel_rfl:I.sound (I.ptr b q)=true)<| .cons aM<| .cons (by kernel_rfl:I.sound (I.str s)=true)<| .cons bm<| .cons (by kernel_rfl:I.sound (I.slice a3 b1 M cj)=true)<| .cons (by kernel_rfl:I.slice a3 b1 M cj=I.slice a3 b1 M cj)<| .cons (by kernel_rfl:I.sound (I.int IntKind.i64 (Int.ofNat i))=true)<| .cons (by kernel_rfl:I.int IntKind.i64 (Int.ofNat i)=I.int IntKind.i64 (Int.ofNat i))<| .cons (by kernel_rfl:I.sound (I.ptr a3 a1)=true)<| .cons bl<| .cons (by kernel_rfl:I.sound (I.str t)=true)<| .cons bY<| .cons (by kernel_rfl:I.sound (I.bool !dd s t)=true)<| .cons (by kernel_rfl:(I.bool !dd s t)=I.bool !dd s t)<| .cons cG<| .nil
theorem WH(call:aP)(b off N a3 b1 M i q a1 j:Nat)(s t:List UInt8)(cp cj:bR)(h:J)
  (H1:bP (.ofNat i) (.ofNat N)=true)
  (aM:Nat.le (Nat.succ i) N/\I.ptr b q=I.ptr b (off+i*1))
  (bm:ar (J.room h 9) b q=some (.str s))
  (bl:Nat.le (Nat.succ i) M/\I.ptr a3 a1=I.ptr a3 (b1+i*1))
  (bY:ar (J.room h 9) a3 a1=some (.str t))
  (cG:(!dd s t)=false)
  (du:arith .add .i64 (.ofNat i) (.ofNat 1)=some (.int .i64 (.ofNat j))):
  aB Tryz.prog Tryz.f59 none call [1,1,0,1,0,0] (ah.mk [(0,.slice b off N cp),(1,.slice a3 b1 M cj),(12,.int .i64 (.ofNat N)),(13,.int .i64 (.ofNat i))] [] .none h) (.nrm)
   (ah.mk [(0,.slice b off N cp),(1,.slice a3 b1 M cj),(12,.int .i64 (.ofNat N)),(13,.int .i64 (.ofNat j))] [] .none (J.room h 9)):=
 bx [0,1,4,12,13] (hs:=[.b true,.v (.ptr b q),.v (.str s),.v (.ptr a3 a1),.v (.str t),.b false,.v (.int .i64 (.ofNat j))]) (by kernel_rfl)<| .cons H1<| .cons aM<| .cons bm<| .cons bl<| .cons bY<| .cons (by kernel_rfl:I.sound (I.slice b off N cp)=true)<| .cons (by kernel_rfl:I.slice b off N cp=I.slice b off N cp)<| .cons (by kernel_rfl:I.sound (I.int IntKind.i64 (Int.ofNat i))=true)<| .cons (by kernel_rfl:I.int IntKind.i64 (Int.ofNat i)=I.int IntKind.i64 (Int.ofNat i))<| .cons (by kernel_rfl:I.sound (I.ptr b q)=true)<| .cons aM<| .cons (by kernel_rfl:I.sound (I.str s)=true)<| .cons bm<| .cons (by kernel_rfl:I.sound (I.slice a3 b1 M cj)=true)<| .cons (by kernel_rfl:I.slice a3 b1 M cj=I.slice a3 b1 M cj)<| .cons (by kernel_rfl:I.sound (I.int IntKind.i64 (Int.ofNat i))=true)<| .cons (by kernel_rfl:I.int IntKind.i64 (Int.ofNat i)=I.int IntKind.i64 (Int.ofNat i))<| .cons (by kernel_rfl:I.sound (I.ptr a3 a1)=true)<| .cons bl<| .cons (by kernel_rfl:I.sound (I.str t)=true)<| .cons bY<| .cons (by kernel_rfl:I.sound (I.bool !dd s t)=true)<| .cons (by kernel_rfl:(I.bool !dd s t)=I.bool !dd s t)<| .cons cG<| .cons du<| .nil
theorem WI(call:aP)(h:J):
  aB Tryz.prog Tryz.f59 none call [1,1,1] (ah.mk [] [] .none h) (.ret)
   (ah.mk [(4,.bool true)] [] .none h):=
 bx [4] (hs:=[]) (by kernel_rfl)<| .nil
theorem rF{a b:Nat}(h:a≠b):(!a8 (Int.ofNat a) (Int.ofNat b))=true:=by
 rw[jS h];rfl
theorem w3{a b:Nat}(h:a=b):(!a8 (Int.ofNat a) (Int.ofNat b))=false:=by
 rw[nA h];rfl
theorem CH:∀(us bs:List a7),us.length≠bs.length->hY us bs=false
 |[],[],h=>absurd rfl h
 |[],_::_,_=>by rw[hY];all_goals simp
 |_::_,[],_=>by rw[hY];all_goals simp
 |x::us,y::bs,h=>by
  rw[hY,CH us bs (by simpa using h),Bool.and_false]
theorem c6.strs{B:Nat}{h:J}{v:I}{us:List a7}(hs:c6 B h v (us.map .str)):(v=.aS/\us=[])\/∃b off cp,v=.slice b off us.length cp/\b<B/\∀i (af:i<us.length),ar h b (off+i*1)=some (.str us[i]):=by
 rcases hs with⟨aa,ad⟩|⟨b,off,cp,aa,ad,av,_⟩
 · exact .inl ⟨aa,by simpa using ad⟩
 · refine .inr ⟨b,off,cp,by simpa using aa,ad,λi af=>?_⟩
   have:=av i (by simpa using af)
   simpa using this
theorem lI{B b i:Nat}{h x:J}(e:Ext B h x)(ae:b<B):ar x b i=ar h b i:=by
 unfold ar;rw[e.get b ae]
theorem ML{B b off a3 b1:Nat}{h:J}{us bs:List a7}(call:aP)(cp cj:bR)(ae:b<B)(ec:a3<B)(aL:∀i (af:i<us.length),ar h b (off+i*1)=some (.str us[i]))(zP:∀i (af:i<bs.length),ar h a3 (b1+i*1)=some (.str bs[i]))(aw:us.length=bs.length)(hlen:us.length<=90000):∀(k i:Nat) (x:J),us.length-i=k->i<=us.length->Ext B h x->
  ∃e Γ y,eL Tryz.prog Tryz.f59 none call [1,1,0,1,0] (k+1) ⟨[(0,.slice b off us.length cp),(1,.slice a3 b1 bs.length cj),(12,.int .i64 (Int.ofNat us.length)),(13,.int .i64 (Int.ofNat i))],[],.none,x⟩ e ⟨Γ,[],.none,y⟩/\
   ((e=.exit 0/\Γ=[]/\hY (us.drop i) (bs.drop i)=true)\/(e=.ret/\Γ=[(4,.bool false)]/\hY (us.drop i) (bs.drop i)=false))/\Ext B h y
 |0,i,x,aq,af,ab=>by
  obtain rfl:i=us.length:=by omega
  rw[List.drop_of_length_le (Nat.le_refl _),aw,List.drop_of_length_le (Nat.le_refl _)]
  exact⟨_,_,_,.exit (CG call _ _ _ _ x (e1 (by omega))) (by simp),.inl ⟨rfl,rfl,by rw[hY]⟩,ab⟩
 |k+1,i,x,aq,af,ab=>by
  have aa:i<us.length:=by omega
  have ad:i<bs.length:=by omega
  have aA:ar (x.room 9) b (off+i*1)=some (.str us[i]):=(lI ab.ht ae).trans (aL i aa)
  have ax:ar (x.room 9) a3 (b1+i*1)=some (.str bs[i]):=(lI ab.ht ec).trans (zP i ad)
  rw[List.drop_eq_getElem_cons aa,List.drop_eq_getElem_cons ad,hY]
  cases ag:dd us[i] bs[i] with
  |true=>
   obtain⟨e,Γ,y,bw,bV,c5⟩:=ML call cp cj ae ec aL zP aw hlen k (i+1) (x.room 9) (by omega) (by omega) ab.ht
   refine⟨e,Γ,y,.step (WH call b off us.length a3 b1 bs.length i (off+i*1) (b1+i*1) (i+1) us[i] bs[i] cp cj x (dT aa) ⟨aa,rfl⟩ aA ⟨ad,rfl⟩ ax (by rw[ag];rfl) (j7 aa (by omega))) bw,?_,c5⟩
   rw[Bool.true_and];exact bV
  |false=>
   exact⟨_,[(4,.bool false)],_,.exit (cQ.post (WG call b off us.length a3 b1 bs.length i (off+i*1) (b1+i*1) 0 us[i] bs[i] cp cj x (dT aa) ⟨aa,rfl⟩ aA ⟨ad,rfl⟩ ax (by rw[ag];rfl)) ⟨rfl,trivial⟩) (by simp),.inr ⟨rfl,rfl,by rw[Bool.false_and]⟩,ab.ht⟩
theorem WJ(m:Nat){B:Nat}{h:J}{v w:I}{us bs:List a7}(aL:c6 B h v (us.map .str))(ae:c6 B h w (bs.map .str))(hlen:us.length<=90000):∃an,Y (m+1) (.fn 59) [v,w] h=.ret (.bool (hY us bs)) an/\Ext B h an:=by
 have run:∃Γ y,aB Tryz.prog Tryz.f59 none (Y m) [1] ⟨[(0,v),(1,w)],[],.none,h⟩ .ret ⟨Γ,[],.none,y⟩/\Γ=[(4,.bool (hY us bs))]/\Ext B h y:=by
  have go:∀z,c6 B h v (us.map .str)->us.length=bs.length->aB Tryz.prog Tryz.f59 none (Y m) [1,0] ⟨[(0,v),(1,w)],[],.none,h⟩ .nrm ⟨[(0,v),(1,w)],[],.none,h⟩->(∃e Γ y,aB Tryz.prog Tryz.f59 none (Y m) [1,1,0] ⟨[(0,v),(1,w)],[],.none,h⟩ e ⟨Γ,[],.none,y⟩/\((e=.nrm/\Γ=[]/\hY us bs=true)\/(e=.ret/\Γ=[(4,.bool false)]/\hY us bs=false))/\Ext B h y)->z=0->∃Γ y,aB Tryz.prog Tryz.f59 none (Y m) [1] ⟨[(0,v),(1,w)],[],.none,h⟩ .ret ⟨Γ,[],.none,y⟩/\Γ=[(4,.bool (hY us bs))]/\Ext B h y:=by
   rintro z _ _ r1 ⟨e,Γ,y,r2,dS,eZ⟩ _
   rcases dS with⟨rfl,rfl,jB⟩|⟨rfl,rfl,jB⟩
   · rw[jB]
     exact⟨_,y,aB.seq (p:=[1]) (by kernel_rfl) r1 (aB.seq (p:=[1,1]) (by kernel_rfl) r2 (WI (Y m) y)),rfl,eZ⟩
   · rw[jB]
     exact⟨_,y,aB.seq (p:=[1]) (by kernel_rfl) r1 (aB.gy (p:=[1,1]) (by kernel_rfl) r2 (by simp)),rfl,eZ⟩
  rcases aL.strs with⟨rfl,rfl⟩|⟨b,off,cp,rfl,hb,hJ⟩
  · rcases ae.strs with⟨rfl,rfl⟩|⟨a3,b1,cj,rfl,ec,mH⟩
    · refine go 0 aL rfl (WE (Y m) h) ⟨_,_,_,aB.seq (p:=[1,1,0]) (by kernel_rfl) (MK (Y m) _ h) (aB.block (p:=[1,1,0,1]) (id:=0) (by kernel_rfl) (eL.run (p:=[1,1,0,1,0]) (n:=1) (by kernel_rfl) (.exit (CG (Y m) 0 0 _ _ h (by kernel_rfl)) (by simp)) (by omega))),.inl ⟨rfl,rfl,by rw[hY]⟩,Ext.refl _ _⟩ rfl
    · by_cases aW:bs.length=0
      · obtain rfl:bs=[]:=List.eq_nil_of_length_eq_zero aW
        refine go 0 aL rfl (cQ.post (WB (Y m) a3 b1 0 cj h (by kernel_rfl)) ⟨rfl,rfl,trivial⟩) ⟨_,_,_,aB.seq (p:=[1,1,0]) (by kernel_rfl) (MK (Y m) _ h) (aB.block (p:=[1,1,0,1]) (id:=0) (by kernel_rfl) (eL.run (p:=[1,1,0,1,0]) (n:=1) (by kernel_rfl) (.exit (CG (Y m) 0 0 _ _ h (by kernel_rfl)) (by simp)) (by omega))),.inl ⟨rfl,rfl,by rw[hY]⟩,Ext.refl _ _⟩ rfl
      · refine⟨[(4,.bool false)],_,aB.gy (p:=[1]) (by kernel_rfl) (cQ.post (WA (Y m) a3 b1 bs.length cj h (rF (λe=>aW e.symm))) ⟨rfl,trivial⟩) (by simp),?_,Ext.refl _ _⟩
        rw[CH [] bs (λe=>aW e.symm)]
  · rcases ae.strs with⟨rfl,rfl⟩|⟨a3,b1,cj,rfl,ec,mH⟩
    · by_cases aW:us.length=0
      · obtain rfl:us=[]:=List.eq_nil_of_length_eq_zero aW
        refine go 0 aL rfl (cQ.post (WD (Y m) b off 0 cp h (by kernel_rfl)) ⟨rfl,rfl,trivial⟩) ⟨_,_,_,aB.seq (p:=[1,1,0]) (by kernel_rfl) (GG (Y m) b off 0 cp _ h) (aB.block (p:=[1,1,0,1]) (id:=0) (by kernel_rfl) (eL.run (p:=[1,1,0,1,0]) (n:=1) (by kernel_rfl) (.exit (CG (Y m) 0 0 _ _ h (by kernel_rfl)) (by simp)) (by omega))),.inl ⟨rfl,rfl,by rw[hY]⟩,Ext.refl _ _⟩ rfl
      · refine⟨[(4,.bool false)],_,aB.gy (p:=[1]) (by kernel_rfl) (cQ.post (WC (Y m) b off us.length cp h (rF aW)) ⟨rfl,trivial⟩) (by simp),?_,Ext.refl _ _⟩
        rw[CH us [] aW]
    · by_cases aW:us.length=bs.length
      · obtain⟨e,Γ,y,bw,bV,c5⟩:=ML (Y m) cp cj hb ec hJ mH aW hlen us.length 0 h (by omega) (by omega) (Ext.refl _ _)
        have gz:=eL.run (p:=[1,1,0,1,0]) (by kernel_rfl) bw (by omega)
        rw[List.drop_zero,List.drop_zero] at bV
        refine go 0 aL aW (cQ.post (Wz (Y m) b off us.length a3 b1 bs.length cp cj h (w3 aW)) ⟨rfl,rfl,trivial⟩) ?_ rfl
        rcases bV with⟨rfl,gZ,pk⟩|⟨rfl,gZ,pk⟩
        · exact⟨_,_,_,aB.seq (p:=[1,1,0]) (by kernel_rfl) (GG (Y m) b off us.length cp _ h) (aB.block (p:=[1,1,0,1]) (id:=0) (by kernel_rfl) gz),.inl ⟨rfl,gZ,pk⟩,c5⟩
        · exact⟨_,_,_,aB.seq (p:=[1,1,0]) (by kernel_rfl) (GG (Y m) b off us.length cp _ h) (aB.rq (p:=[1,1,0,1]) (id:=0) (by kernel_rfl) gz (by simp)),.inr ⟨rfl,gZ,pk⟩,c5⟩
      · refine⟨[(4,.bool false)],_,aB.gy (p:=[1]) (by kernel_rfl) (cQ.post (Wy (Y m) b off us.length a3 b1 bs.length cp cj h (rF aW)) ⟨rfl,trivial⟩) (by simp),?_,Ext.refl _ _⟩
        rw[CH us bs aW]
 obtain⟨Γ,y,r1,rfl,dS⟩:=run
 exact⟨y,eA (intr:=b3) (n:=m) (args:=[v,w]) Tryz.func59 (by kernel_rfl) rfl (by kernel_rfl) (aB.seq (p:=[]) (by kernel_rfl) (Wx (Y m) v w h) r1) (.inl rfl) rfl,dS⟩
theorem WK(call:aP)(v w:I)(h:J):
  aB Tryz.prog Tryz.f60 none call [0] (ah.mk [(0,v),(1,w),(2,.fn 39 [] [])] [] .none h) (.nrm)
   (ah.mk [(0,v),(1,w),(2,.fn 39 [] [])] [] .none h):=
 bx [0,1,2] (hs:=[]) (by kernel_rfl)<| .nil
theorem WL(call:aP)(b off N a3 b1 M:Nat)(cp cj:bR)(h:J)
  (H1:(!a8 (.ofNat N) (.ofNat M))=true):
  aB Tryz.prog Tryz.f60 none call [1,0] (ah.mk [(0,.slice b off N cp),(1,.slice a3 b1 M cj),(2,.fn 39 [] [])] [] .none h) (.ret)
   (ah.mk [(0,.slice b off N cp),(1,.slice a3 b1 M cj),(2,.fn 39 [] []),(6,.bool false)] [] .none h):=
 bx [0,1,2,6] (hs:=[.b true]) (by kernel_rfl)<| .cons H1<| .nil
theorem WM(call:aP)(b off N a3 b1 M:Nat)(cp cj:bR)(h:J)
  (H1:(!a8 (.ofNat N) (.ofNat M))=false):
  aB Tryz.prog Tryz.f60 none call [1,0] (ah.mk [(0,.slice b off N cp),(1,.slice a3 b1 M cj),(2,.fn 39 [] [])] [] .none h) (.nrm)
   (ah.mk [(0,.slice b off N cp),(1,.slice a3 b1 M cj),(2,.fn 39 [] [])] [] .none h):=
 bx [0,1,2,6] (hs:=[.b false]) (by kernel_rfl)<| .cons H1<| .nil
theorem WN(call:aP)(a3 b1 M:Nat)(cj:bR)(h:J)
  (H1:(!a8 (.ofNat 0) (.ofNat M))=true):
  aB Tryz.prog Tryz.f60 none call [1,0] (ah.mk [(0,.aS),(1,.slice a3 b1 M cj),(2,.fn 39 [] [])] [] .none h) (.ret)
   (ah.mk [(0,.aS),(1,.slice a3 b1 M cj),(2,.fn 39 [] []),(6,.bool false)] [] .none h):=
 bx [0,1,2,6] (hs:=[.b true]) (by kernel_rfl)<| .cons H1<| .nil
theorem WO(call:aP)(a3 b1 M:Nat)(cj:bR)(h:J)
  (H1:(!a8 (.ofNat 0) (.ofNat M))=false):
  aB Tryz.prog Tryz.f60 none call [1,0] (ah.mk [(0,.aS),(1,.slice a3 b1 M cj),(2,.fn 39 [] [])] [] .none h) (.nrm)
   (ah.mk [(0,.aS),(1,.slice a3 b1 M cj),(2,.fn 39 [] [])] [] .none h):=
 bx [0,1,2,6] (hs:=[.b false]) (by kernel_rfl)<| .cons H1<| .nil
theorem WQ(call:aP)(b off N:Nat)(cp:bR)(h:J)
  (H1:(!a8 (.ofNat N) (.ofNat 0))=true):
  aB Tryz.prog Tryz.f60 none call [1,0] (ah.mk [(0,.slice b off N cp),(1,.aS),(2,.fn 39 [] [])] [] .none h) (.ret)
   (ah.mk [(0,.slice b off N cp),(1,.aS),(2,.fn 39 [] []),(6,.bool false)] [] .none h):=
 bx [0,1,2,6] (hs:=[.b true]) (by kernel_rfl)<| .cons H1<| .nil
theorem WR(call:aP)(b off N:Nat)(cp:bR)(h:J)
  (H1:(!a8 (.ofNat N) (.ofNat 0))=false):
  aB Tryz.prog Tryz.f60 none call [1,0] (ah.mk [(0,.slice b off N cp),(1,.aS),(2,.fn 39 [] [])] [] .none h) (.nrm)
   (ah.mk [(0,.slice b off N cp),(1,.aS),(2,.fn 39 [] [])] [] .none h):=
 bx [0,1,2,6] (hs:=[.b false]) (by kernel_rfl)<| .cons H1<| .nil
theorem WS(call:aP)(h:J):
  aB Tryz.prog Tryz.f60 none call [1,0] (ah.mk [(0,.aS),(1,.aS),(2,.fn 39 [] [])] [] .none h) (.nrm)
   (ah.mk [(0,.aS),(1,.aS),(2,.fn 39 [] [])] [] .none h):=
 bx [0,1,2,6] (hs:=[.b false]) (by kernel_rfl)<| .cons (by kernel_rfl:(!a8 (Int.ofNat 0) (Int.ofNat 0))=false)<| .nil
theorem GH(call:aP)(b off N:Nat)(cp:bR)(w:I)(h:J):
  aB Tryz.prog Tryz.f60 none call [1,1,0,0] (ah.mk [(0,.slice b off N cp),(1,w),(2,.fn 39 [] [])] [] .none h) (.nrm)
   (ah.mk [(1,w),(2,.fn 39 [] []),(15,.slice b off N cp),(16,.int .i64 (.ofNat N)),(17,.int .i64 (.ofNat 0))] [] .none h):=
 bx [1,2,15,16,17] (hs:=[]) (by kernel_rfl)<| .nil
theorem MM(call:aP)(w:I)(h:J):
  aB Tryz.prog Tryz.f60 none call [1,1,0,0] (ah.mk [(0,.aS),(1,w),(2,.fn 39 [] [])] [] .none h) (.nrm)
   (ah.mk [(1,w),(2,.fn 39 [] []),(15,.aS),(16,.int .i64 (.ofNat 0)),(17,.int .i64 (.ofNat 0))] [] .none h):=
 bx [1,2,15,16,17] (hs:=[]) (by kernel_rfl)<| .nil
theorem CI(call:aP)(N i:Nat)(v w:I)(h:J)
  (H1:bP (.ofNat i) (.ofNat N)=false):
  aB Tryz.prog Tryz.f60 none call [1,1,0,1,0,0] (ah.mk [(1,w),(2,.fn 39 [] []),(15,v),(16,.int .i64 (.ofNat N)),(17,.int .i64 (.ofNat i))] [] .none h) (.exit 0)
   (ah.mk [] [] .none h):=
 bx [] (hs:=[.b false]) (by kernel_rfl)<| .cons H1<| .nil
theorem WT(call:aP)(b off N a3 b1 M i q a1 j:Nat)(x y:I)(cp cj:bR)(h g:J)
  (H1:bP (.ofNat i) (.ofNat N)=true)
  (aM:Nat.le (Nat.succ i) N/\I.ptr b q=I.ptr b (off+i*1))
  (bm:ar h b q=some x)
  (bl:Nat.le (Nat.succ i) M/\I.ptr a3 a1=I.ptr a3 (b1+i*1))
  (bY:ar h a3 a1=some y)
  (cG:call (.fn 39) [x,y] h=a9.ret (.bool true) g)
  (du:arith .add .i64 (.ofNat i) (.ofNat 1)=some (.int .i64 (.ofNat j))):
  aB Tryz.prog Tryz.f60 none call [1,1,0,1,0,0] (ah.mk [(1,.slice a3 b1 M cj),(2,.fn 39 [] []),(15,.slice b off N cp),(16,.int .i64 (.ofNat N)),(17,.int .i64 (.ofNat i))] [] .none h) (.nrm)
   (ah.mk [(1,.slice a3 b1 M cj),(2,.fn 39 [] []),(15,.slice b off N cp),(16,.int .i64 (.ofNat N)),(17,.int .i64 (.ofNat j))] [] .none g):=
 bx [1,2,15,16,17] (hs:=[.b true,.v (.ptr b q),.v x,.v (.ptr a3 a1),.v y,.c (.bool true) g,.b false,.v (.int .i64 (.ofNat j))]) (by kernel_rfl)<| .cons H1<| .cons aM<| .cons bm<| .cons bl<| .cons bY<| .cons cG<| .cons (by kernel_rfl:(!true)=false)<| .cons du<| .nil
theorem WU(call:aP)(b off N a3 b1 M i q a1 j:Nat)(x y:I)(cp cj:bR)(h g:J)
  (H1:bP (.ofNat i) (.ofNat N)=true)
  (aM:Nat.le (Nat.succ i) N/\I.ptr b q=I.ptr b (off+i*1))
  (bm:ar h b q=some x)
  (bl:Nat.le (Nat.succ i) M/\I.ptr a3 a1=I.ptr a3 (b1+i*1))
  (bY:ar h a3 a1=some y)
  (cG:call (.fn 39) [x,y] h=a9.ret (.bool false) g):
  aB Tryz.prog Tryz.f60 none call [1,1,0,1,0,0] (ah.mk [(1,.slice a3 b1 M cj),(2,.fn 39 [] []),(15,.slice b off N cp),(16,.int .i64 (.ofNat N)),(17,.int .i64 (.ofNat i))] [] .none h) (.ret)
   (ah.mk [(6,.bool false)] [] .none g):=
 bx [6] (hs:=[.b true,.v (.ptr b q),.v x,.v (.ptr a3 a1),.v y,.c (.bool false) g,.b true]) (by kernel_rfl)<| .cons H1<| .cons aM<| .cons bm<| .cons bl<| .cons bY<| .cons cG<| .cons (by kernel_rfl:(!false)=true)<| .nil
theorem WV(call:aP)(h:J):
  aB Tryz.prog Tryz.f60 none call [1,1,1] (ah.mk [] [] .none h) (.ret)
   (ah.mk [(6,.bool true)] [] .none h):=
 bx [6] (hs:=[]) (by kernel_rfl)<| .nil
theorem GI(call:aP)(v w:I)(h:J):
  aB Tryz.prog Tryz.f39 none call [0] (ah.mk [(0,v),(1,w)] [] .none h) (.nrm)
   (ah.mk [(0,v),(1,w)] [] .none h):=
 bx [0,1] (hs:=[]) (by kernel_rfl)<| .nil
theorem WW(call:aP)(h:J):
  aB Tryz.prog Tryz.f39 none call [1,0] (ah.mk [(0,.aZ),(1,.aZ)] [] .none h) (.ret)
   (ah.mk [(4,.bool true)] [] .none h):=
 bx [4] (hs:=[.v (.bool true),.b true,.b true,.b true,.b true,.v (.bool true),.b true,.b true,.v (.bool true),.b true]) (by kernel_rfl)<| .cons (by kernel_rfl:dZ Tryz.prog h BinOp.eql 35 (Operand.tmp 5) (Operand.const (Value.pointer none)) I.aZ I.aZ=some (I.bool true))<| .cons (rfl:true=true)<| .cons (rfl:true=true)<| .cons (rfl:true=true)<| .cons (rfl:true=true)<| .cons (by kernel_rfl:dZ Tryz.prog h BinOp.eql 35 (Operand.tmp 11) (Operand.const (Value.pointer none)) I.aZ I.aZ=some (I.bool true))<| .cons (rfl:true=true)<| .cons (rfl:true=true)<| .cons (by kernel_rfl:dZ Tryz.prog h BinOp.eql 35 (Operand.tmp 14) (Operand.const (Value.pointer none)) I.aZ I.aZ=some (I.bool true))<| .cons (rfl:true=true)<| .nil
theorem WX(call:aP)(r:Nat)(h:J):
  aB Tryz.prog Tryz.f39 none call [1,0] (ah.mk [(0,.aZ),(1,.ptr r 0)] [] .none h) (.ret)
   (ah.mk [(4,.bool false)] [] .none h):=
 bx [4] (hs:=[.v (.bool true),.b true,.b true,.b true,.b true,.v (.bool true),.b true,.b true,.v (.bool false),.b true]) (by kernel_rfl)<| .cons (by kernel_rfl:dZ Tryz.prog h BinOp.eql 35 (Operand.tmp 5) (Operand.const (Value.pointer none)) I.aZ I.aZ=some (I.bool true))<| .cons (rfl:true=true)<| .cons (rfl:true=true)<| .cons (rfl:true=true)<| .cons (rfl:true=true)<| .cons (by kernel_rfl:dZ Tryz.prog h BinOp.eql 35 (Operand.tmp 11) (Operand.const (Value.pointer none)) I.aZ I.aZ=some (I.bool true))<| .cons (rfl:true=true)<| .cons (rfl:true=true)<| .cons (by kernel_rfl:dZ Tryz.prog h BinOp.eql 35 (Operand.tmp 14) (Operand.const (Value.pointer none)) (I.ptr r 0) I.aZ=some (I.bool false))<| .cons (rfl:true=true)<| .nil
theorem WY(call:aP)(r:Nat)(h:J):
  aB Tryz.prog Tryz.f39 none call [1,0] (ah.mk [(0,.ptr r 0),(1,.aZ)] [] .none h) (.ret)
   (ah.mk [(4,.bool false)] [] .none h):=
 bx [4] (hs:=[.v (.bool false),.b false,.b false,.v (.bool true),.b false,.b true,.v (.bool false),.b false,.b false,.b false]) (by kernel_rfl)<| .cons (by kernel_rfl:dZ Tryz.prog h BinOp.eql 35 (Operand.tmp 5) (Operand.const (Value.pointer none)) (I.ptr r 0) I.aZ=some (I.bool false))<| .cons (rfl:false=false)<| .cons (rfl:false=false)<| .cons (by kernel_rfl:dZ Tryz.prog h BinOp.eql 35 (Operand.tmp 8) (Operand.const (Value.pointer none)) I.aZ I.aZ=some (I.bool true))<| .cons (rfl:false=false)<| .cons (rfl:true=true)<| .cons (by kernel_rfl:dZ Tryz.prog h BinOp.eql 35 (Operand.tmp 11) (Operand.const (Value.pointer none)) (I.ptr r 0) I.aZ=some (I.bool false))<| .cons (rfl:false=false)<| .cons (rfl:false=false)<| .cons (rfl:false=false)<| .nil
theorem CJ:∀(us bs:List aC),us.length≠bs.length->ih us bs=false
 |[],[],h=>absurd rfl h
 |[],_::_,_=>by rw[ih];all_goals simp
 |_::_,[],_=>by rw[ih];all_goals simp
 |x::us,y::bs,h=>by
  rw[ih,CJ us bs (by simpa using h),Bool.and_false]
abbrev MN(m B:Nat)(h:J)(xs ys:List aC)(vs ws:List I):Prop:=∀i (aa:i<vs.length) (ad:i<ws.length) (av:i<xs.length) (aG:i<ys.length) x,Ext B h x->∃an,Y m (.fn 39) [vs[i],ws[i]] x=.ret (.bool (u2 xs[i] ys[i])) an/\Ext B x an
theorem MO{m B b off a3 b1:Nat}{h:J}{xs ys:List aC}{vs ws:List I}(cp cj:bR)(ae:b<B)(ec:a3<B)(aL:∀i (af:i<vs.length),ar h b (off+i*1)=some vs[i])(zP:∀i (af:i<ws.length),ar h a3 (b1+i*1)=some ws[i])(eD:vs.length=xs.length)(ni:ws.length=ys.length)(aw:vs.length=ws.length)(hlen:vs.length<=90000)(bb:MN m B h xs ys vs ws):∀(k i:Nat) (x:J),vs.length-i=k->i<=vs.length->Ext B h x->
  ∃e Γ y,eL Tryz.prog Tryz.f60 none (Y m) [1,1,0,1,0] (k+1) ⟨[(1,.slice a3 b1 ws.length cj),(2,.fn 39 [] []),(15,.slice b off vs.length cp),(16,.int .i64 (Int.ofNat vs.length)),(17,.int .i64 (Int.ofNat i))],[],.none,x⟩ e ⟨Γ,[],.none,y⟩/\
   ((e=.exit 0/\Γ=[]/\ih (xs.drop i) (ys.drop i)=true)\/(e=.ret/\Γ=[(6,.bool false)]/\ih (xs.drop i) (ys.drop i)=false))/\Ext B h y
 |0,i,x,aq,af,ab=>by
  obtain rfl:i=vs.length:=by omega
  rw[List.drop_of_length_le (by omega),List.drop_of_length_le (by omega)]
  exact⟨_,_,_,.exit (CI (Y m) _ _ _ _ x (e1 (by omega))) (by simp),.inl ⟨rfl,rfl,by rw[ih]⟩,ab⟩
 |k+1,i,x,aq,af,ab=>by
  have aa:i<vs.length:=by omega
  have ad:i<ws.length:=by omega
  have av:i<xs.length:=by omega
  have aG:i<ys.length:=by omega
  have aA:ar x b (off+i*1)=some vs[i]:=(lI ab ae).trans (aL i aa)
  have ax:ar x a3 (b1+i*1)=some ws[i]:=(lI ab ec).trans (zP i ad)
  rw[List.drop_eq_getElem_cons av,List.drop_eq_getElem_cons aG,ih]
  obtain⟨g,aF,a6⟩:=bb i aa ad av aG x ab
  have al:Ext B h g:=ab.trans (Nat.le_refl _) a6
  cases ag:u2 xs[i] ys[i] with
  |true=>
   rw[ag] at aF
   obtain⟨e,Γ,y,bw,bV,c5⟩:=MO cp cj ae ec aL zP eD ni aw hlen bb k (i+1) g (by omega) (by omega) al
   refine⟨e,Γ,y,.step (WT (Y m) b off vs.length a3 b1 ws.length i (off+i*1) (b1+i*1) (i+1) vs[i] ws[i] cp cj x g (dT aa) ⟨aa,rfl⟩ aA ⟨ad,rfl⟩ ax aF (j7 aa (by omega))) bw,?_,c5⟩
   rw[Bool.true_and];exact bV
  |false=>
   rw[ag] at aF
   exact⟨_,_,_,.exit (WU (Y m) b off vs.length a3 b1 ws.length i (off+i*1) (b1+i*1) 0 vs[i] ws[i] cp cj x g (dT aa) ⟨aa,rfl⟩ aA ⟨ad,rfl⟩ ax aF) (by simp),.inr ⟨rfl,rfl,by rw[Bool.false_and]⟩,al⟩
theorem WZ(m:Nat){B:Nat}{h:J}{v w:I}{xs ys:List aC}{vs ws:List I}(aL:c6 B h v vs)(ae:c6 B h w ws)(eD:vs.length=xs.length)(ni:ws.length=ys.length)(hlen:vs.length<=90000)(bb:MN m B h xs ys vs ws):∃an,Y (m+1) (.fn 60) [v,w,.fn 39 [] []] h=.ret (.bool (ih xs ys)) an/\Ext B h an:=by
 have run:∃Γ y,aB Tryz.prog Tryz.f60 none (Y m) [1] ⟨[(0,v),(1,w),(2,.fn 39 [] [])],[],.none,h⟩ .ret ⟨Γ,[],.none,y⟩/\Γ=[(6,.bool (ih xs ys))]/\Ext B h y:=by
  have go:∀z,aB Tryz.prog Tryz.f60 none (Y m) [1,0] ⟨[(0,v),(1,w),(2,.fn 39 [] [])],[],.none,h⟩ .nrm ⟨[(0,v),(1,w),(2,.fn 39 [] [])],[],.none,h⟩->(∃e Γ y,aB Tryz.prog Tryz.f60 none (Y m) [1,1,0] ⟨[(0,v),(1,w),(2,.fn 39 [] [])],[],.none,h⟩ e ⟨Γ,[],.none,y⟩/\((e=.nrm/\Γ=[]/\ih xs ys=true)\/(e=.ret/\Γ=[(6,.bool false)]/\ih xs ys=false))/\Ext B h y)->z=0->∃Γ y,aB Tryz.prog Tryz.f60 none (Y m) [1] ⟨[(0,v),(1,w),(2,.fn 39 [] [])],[],.none,h⟩ .ret ⟨Γ,[],.none,y⟩/\Γ=[(6,.bool (ih xs ys))]/\Ext B h y:=by
   rintro z r1 ⟨e,Γ,y,r2,dS,eZ⟩ _
   rcases dS with⟨rfl,rfl,jB⟩|⟨rfl,rfl,jB⟩
   · rw[jB]
     exact⟨_,y,aB.seq (p:=[1]) (by kernel_rfl) r1 (aB.seq (p:=[1,1]) (by kernel_rfl) r2 (WV (Y m) y)),rfl,eZ⟩
   · rw[jB]
     exact⟨_,y,aB.seq (p:=[1]) (by kernel_rfl) r1 (aB.gy (p:=[1,1]) (by kernel_rfl) r2 (by simp)),rfl,eZ⟩
  have nil:∀(us bs:List aC),us.length=0->bs.length=0->ih us bs=true:=λus bs aa ad=>by
   rw[List.eq_nil_of_length_eq_zero aa,List.eq_nil_of_length_eq_zero ad,ih]
  rcases aL with⟨rfl,rfl⟩|⟨b,off,cp,rfl,hb,hJ,oJ⟩
  · rcases ae with⟨rfl,rfl⟩|⟨a3,b1,cj,rfl,ec,mH,m0⟩
    · refine go 0 (WS (Y m) h) ⟨_,_,_,aB.seq (p:=[1,1,0]) (by kernel_rfl) (MM (Y m) _ h) (aB.block (p:=[1,1,0,1]) (id:=0) (by kernel_rfl) (eL.run (p:=[1,1,0,1,0]) (n:=1) (by kernel_rfl) (.exit (CI (Y m) 0 0 _ _ h (by kernel_rfl)) (by simp)) (by omega))),.inl ⟨rfl,rfl,nil _ _ eD.symm ni.symm⟩,Ext.refl _ _⟩ rfl
    · by_cases aW:ws.length=0
      · obtain rfl:ws=[]:=List.eq_nil_of_length_eq_zero aW
        refine go 0 (cQ.post (WO (Y m) a3 b1 0 cj h (by kernel_rfl)) ⟨rfl,rfl,rfl,trivial⟩) ⟨_,_,_,aB.seq (p:=[1,1,0]) (by kernel_rfl) (MM (Y m) _ h) (aB.block (p:=[1,1,0,1]) (id:=0) (by kernel_rfl) (eL.run (p:=[1,1,0,1,0]) (n:=1) (by kernel_rfl) (.exit (CI (Y m) 0 0 _ _ h (by kernel_rfl)) (by simp)) (by omega))),.inl ⟨rfl,rfl,nil _ _ eD.symm ni.symm⟩,Ext.refl _ _⟩ rfl
      · refine⟨[(6,.bool false)],_,aB.gy (p:=[1]) (by kernel_rfl) (cQ.post (WN (Y m) a3 b1 ws.length cj h (rF (λe=>aW e.symm))) ⟨rfl,trivial⟩) (by simp),?_,Ext.refl _ _⟩
        rw[CJ xs ys (by simp at eD;omega)]
  · rcases ae with⟨rfl,rfl⟩|⟨a3,b1,cj,rfl,ec,mH,m0⟩
    · by_cases aW:vs.length=0
      · obtain rfl:vs=[]:=List.eq_nil_of_length_eq_zero aW
        refine go 0 (cQ.post (WR (Y m) b off 0 cp h (by kernel_rfl)) ⟨rfl,rfl,rfl,trivial⟩) ⟨_,_,_,aB.seq (p:=[1,1,0]) (by kernel_rfl) (GH (Y m) b off 0 cp _ h) (aB.block (p:=[1,1,0,1]) (id:=0) (by kernel_rfl) (eL.run (p:=[1,1,0,1,0]) (n:=1) (by kernel_rfl) (.exit (CI (Y m) 0 0 _ _ h (by kernel_rfl)) (by simp)) (by omega))),.inl ⟨rfl,rfl,nil _ _ eD.symm ni.symm⟩,Ext.refl _ _⟩ rfl
      · refine⟨[(6,.bool false)],_,aB.gy (p:=[1]) (by kernel_rfl) (cQ.post (WQ (Y m) b off vs.length cp h (rF aW)) ⟨rfl,trivial⟩) (by simp),?_,Ext.refl _ _⟩
        rw[CJ xs ys (by simp at ni;omega)]
    · by_cases aW:vs.length=ws.length
      · obtain⟨e,Γ,y,bw,bV,c5⟩:=MO cp cj hb ec hJ mH eD ni aW hlen bb vs.length 0 h (by omega) (by omega) (Ext.refl _ _)
        have gz:=eL.run (p:=[1,1,0,1,0]) (by kernel_rfl) bw (by omega)
        rw[List.drop_zero,List.drop_zero] at bV
        refine go 0 (cQ.post (WM (Y m) b off vs.length a3 b1 ws.length cp cj h (w3 aW)) ⟨rfl,rfl,rfl,trivial⟩) ?_ rfl
        rcases bV with⟨rfl,gZ,pk⟩|⟨rfl,gZ,pk⟩
        · exact⟨_,_,_,aB.seq (p:=[1,1,0]) (by kernel_rfl) (GH (Y m) b off vs.length cp _ h) (aB.block (p:=[1,1,0,1]) (id:=0) (by kernel_rfl) gz),.inl ⟨rfl,gZ,pk⟩,c5⟩
        · exact⟨_,_,_,aB.seq (p:=[1,1,0]) (by kernel_rfl) (GH (Y m) b off vs.length cp _ h) (aB.rq (p:=[1,1,0,1]) (id:=0) (by kernel_rfl) gz (by simp)),.inr ⟨rfl,gZ,pk⟩,c5⟩
      · refine⟨[(6,.bool false)],_,aB.gy (p:=[1]) (by kernel_rfl) (cQ.post (WL (Y m) b off vs.length a3 b1 ws.length cp cj h (rF aW)) ⟨rfl,trivial⟩) (by simp),?_,Ext.refl _ _⟩
        rw[CJ xs ys (by omega)]
 obtain⟨Γ,y,r1,rfl,dS⟩:=run
 exact⟨y,eA (intr:=b3) (n:=m) (args:=[v,w,.fn 39 [] []]) Tryz.func60 (by kernel_rfl) rfl (by kernel_rfl) (aB.seq (p:=[]) (by kernel_rfl) (WK (Y m) v w h) r1) (.inl rfl) rfl,dS⟩
theorem W0:iO none none=true:=by rw[iO]
theorem W1(t:aC):iO none (some t)=false:=by rw[iO]<;>simp
theorem W2(t:aC):iO (some t) none=false:=by rw[iO]<;>simp
theorem W3(m:Nat)(h:J):Y (m+1) (.fn 39) [.aZ,.aZ] h=.ret (.bool true) h:=
 eA (intr:=b3) (n:=m) (args:=[.aZ,.aZ]) Tryz.func39 (by kernel_rfl) rfl (by kernel_rfl) (aB.seq (p:=[]) (by kernel_rfl) (GI (Y m) _ _ h) (aB.gy (p:=[1]) (by kernel_rfl) (WW (Y m) h) (by simp))) (.inl rfl) (by kernel_rfl)
theorem W4(m R:Nat)(h:J):Y (m+1) (.fn 39) [.aZ,.ptr R 0] h=.ret (.bool false) h:=
 eA (intr:=b3) (n:=m) (args:=[.aZ,.ptr R 0]) Tryz.func39 (by kernel_rfl) rfl (by kernel_rfl) (aB.seq (p:=[]) (by kernel_rfl) (GI (Y m) _ _ h) (aB.gy (p:=[1]) (by kernel_rfl) (WX (Y m) R h) (by simp))) (.inl rfl) (by kernel_rfl)
theorem W5(m R:Nat)(h:J):Y (m+1) (.fn 39) [.ptr R 0,.aZ] h=.ret (.bool false) h:=
 eA (intr:=b3) (n:=m) (args:=[.ptr R 0,.aZ]) Tryz.func39 (by kernel_rfl) rfl (by kernel_rfl) (aB.seq (p:=[]) (by kernel_rfl) (GI (Y m) _ _ h) (aB.gy (p:=[1]) (by kernel_rfl) (WY (Y m) R h) (by simp))) (.inl rfl) (by kernel_rfl)
theorem W6(m r r2:Nat)(h:J){R:a9->Prop}(H:∃aE:Nat,ar (h.room 54) r (0+0)=some (.int .i64 (.ofNat aE))/\∃bf:Nat,ar (h.room 54) r2 (0+0)=some (.int .i64 (.ofNat bf))/\(aE=bf->∃s1:List UInt8,ar (h.room 54) r (0+1)=some (.str s1)/\∃s2:List UInt8,ar (h.room 54) r2 (0+1)=some (.str s2)/\(dd s1 s2=true->∃v1:I,ar (h.room 54) r (0+2)=some v1/\∃v2:I,ar (h.room 54) r2 (0+2)=some v2/\∃br:Bool,∃ai:J,(Y m) (.fn 59) [v1,v2] (h.room 54)=.ret (.bool br) ai/\(br=true->∃cz:I,ar ai r (0+3)=some cz/\∃v4:I,ar ai r2 (0+3)=some v4/\∃a3:Bool,∃au:J,(Y m) (.fn 60) [cz,v4,.fn 39 [] []] ai=.ret (.bool a3) au/\(a3=true->∃er:I,ar au r (0+4)=some er/\∃v6:I,ar au r2 (0+4)=some v6/\∃dm:Bool,∃ay:J,(Y m) (.fn 39) [er,v6] au=.ret (.bool dm) ay/\I.sound v1=true/\I.sound v2=true/\I.sound cz=true/\I.sound v4=true/\I.sound er=true/\I.sound v6=true/\R (.ret (.bool dm) ay))/\(a3=false->I.sound v1=true/\I.sound v2=true/\I.sound cz=true/\I.sound v4=true/\R (.ret (.bool false) au)))/\(br=false->I.sound v1=true/\I.sound v2=true/\R (.ret (.bool false) ai)))/\(dd s1 s2=false->R (.ret (.bool false) (h.room 54))))/\(¬aE=bf->R (.ret (.bool false) (h.room 54)))):
  R (Y (m+1) (.fn 39) [.ptr r 0,.ptr r2 0] h):=
 dQ (intr:=b3) [(63,.bq .o),(67,.bq .o)] [(0,.v (.ptr r 0)),(1,.v (.ptr r2 0))] Tryz.func39 (by kernel_rfl) (by kernel_rfl) (by kernel_rfl) rfl (Eq.mp (by kernel_rfl) H)
theorem MP:∀(K:Nat) (oa ob:Option aC),c_ oa<=K->c_ oa<=90000->(∀t,oa=some t->iQ t<=90000)->∀(m B:Nat) (h:J) (v w:I),2*c_ oa+3<=m->dM B h oa v->dM B h ob w->∃an,Y m (.fn 39) [v,w] h=.ret (.bool (iO oa ob)) an/\Ext B h an
 |K,none,none,_,_,_,m,B,h,v,w,hm,aD,hw=>by
  obtain rfl:v=.aZ:=aD
  obtain rfl:w=.aZ:=hw
  obtain⟨m,rfl⟩:∃j,m=j+1:=⟨m-1,by omega⟩
  rw[W0]
  exact⟨h,W3 m h,Ext.refl _ _⟩
 |K,none,some (.mk bJ bQ ez gV fX),_,_,_,m,B,h,v,w,hm,aD,hw=>by
  obtain rfl:v=.aZ:=aD
  obtain⟨R,bK,a_,c0,vs,bk,aI,up,rfl,ad,av,aG,bI,cq,di⟩:=hw
  obtain⟨m,rfl⟩:∃j,m=j+1:=⟨m-1,by omega⟩
  rw[W1]
  exact⟨h,W4 m R h,Ext.refl _ _⟩
 |K,some (.mk bJ bQ ez gV fX),none,_,_,_,m,B,h,v,w,hm,aD,hw=>by
  obtain rfl:w=.aZ:=hw
  obtain⟨R,bK,a_,c0,vs,bk,aI,up,rfl,ad,av,aG,bI,cq,di⟩:=aD
  obtain⟨m,rfl⟩:∃j,m=j+1:=⟨m-1,by omega⟩
  rw[W2]
  exact⟨h,W5 m R h,Ext.refl _ _⟩
 |0,some t,some u,de,_,_,m,B,h,v,w,hm,aD,hw=>by
  rw[iP] at de
  have:=qp t
  omega
 |K+1,some (.mk k nm ns xs rt),some (.mk dh qo rD oG pf),de,g5,ia,m,B,h,v,w,hm,aD,hw=>by
  rw[iP,mc] at de g5 hm
  obtain⟨R,bK,a_,c0,vs,bk,aI,up,rfl,ad,av,aG,bI,cq,di⟩:=aD
  obtain⟨um,GJ,jU,CK,sA,MQ,qY,MR,rfl,p_,rG,yI,W7,MS,W8⟩:=hw
  obtain⟨m,rfl⟩:∃j,m=j+2:=⟨m-2,by omega⟩
  have aN:=ia _ rfl
  rw[iQ] at aN
  have eD:=dL.len cq
  have ni:=dL.len MS
  have jv:=mW xs
  have lH:Ext B h (h.room 54):=Ext.room B h 54
  have zO:=(lH.get R ad).trans av
  have GK:=(lH.get um p_).trans rG
  have bb:∀(oa ob:Option aC),c_ oa<=K->c_ oa<=90000->(∀t,oa=some t->iQ t<=90000)->∀(m B:Nat) (h:J) (v w:I),2*c_ oa+3<=m->dM B h oa v->dM B h ob w->∃an,Y m (.fn 39) [v,w] h=.ret (.bool (iO oa ob)) an/\Ext B h an:=MP K
  obtain⟨ai,aF,bC⟩:=WJ m (aG.bO (fa.ext lH (Nat.le_refl _))) (yI.bO (fa.ext lH (Nat.le_refl _))) (by omega)
  have j9:Ext B h ai:=lH.trans (Nat.le_refl _) bC
  have W9:=(j9.get R ad).trans av
  have W_:=(j9.get um p_).trans rG
  obtain⟨au,a6,cS⟩:=WZ m (xs:=xs) (ys:=oG) (bI.bO (fa.ext j9 (Nat.le_refl _))) (W7.bO (fa.ext j9 (Nat.le_refl _))) eD ni (by omega) (λi i1 i2 i3 i4 x ab=>by
   have hl:=oH (List.getElem_mem i3)
   have jc:=zH (List.getElem_mem i3)
   have ex:=j9.trans (Nat.le_refl _) ab
   have:=bb (some xs[i]) (some oG[i]) (by rw[iP];omega) (by rw[iP];omega) (λt bc=>by obtain rfl:=Option.some.inj bc;omega) m B x vs[i] sA[i] (by rw[iP];omega) (dD.bO (fa.ext ex (Nat.le_refl _)) _ _ (dL.get cq i i1 i3)) (dD.bO (fa.ext ex (Nat.le_refl _)) _ _ (dL.get MS i i2 i4))
   simpa only[iO] using this)
  have nJ:Ext B h au:=j9.trans (Nat.le_refl _) cS
  have Xa:=(nJ.get R ad).trans av
  have Xb:=(nJ.get um p_).trans rG
  obtain⟨ay,dy,dC⟩:=bb rt pf (by omega) (by omega) (λt bc=>by subst bc;rw[nK] at aN;omega) (m+1) B au c0 CK (by omega) (dM.bO (fa.ext nJ (Nat.le_refl _)) _ _ di) (dM.bO (fa.ext nJ (Nat.le_refl _)) _ _ W8)
  have Xc:Ext B h ay:=nJ.trans (Nat.le_refl _) dC
  have ho:iO (some (.mk k nm ns xs rt)) (some (.mk dh qo rD oG pf))=(Nat.beq k dh&&(dd nm qo&&(hY ns rD&&(ih xs oG&&iO rt pf)))):=by rw[iO,u2]
  rw[ho]
  have fin:∀b y,b=(Nat.beq k dh&&(dd nm qo&&(hY ns rD&&(ih xs oG&&iO rt pf))))->Ext B h y->∃an,a9.ret (.bool b) y=.ret (.bool (Nat.beq k dh&&(dd nm qo&&(hY ns rD&&(ih xs oG&&iO rt pf))))) an/\Ext B h an:=λb y e x=>⟨y,by rw[e],x⟩
  refine W6 (m+1) R um h (R:=λx=>∃an,x=.ret (.bool (Nat.beq k dh&&(dd nm qo&&(hY ns rD&&(ih xs oG&&iO rt pf))))) an/\Ext B h an) ⟨k,aT zO rfl,dh,aT GK rfl,λaq=>⟨nm,aT zO rfl,qo,aT GK rfl,λhb=>⟨bK,aT zO rfl,GJ,aT GK rfl,_,ai,aF,λec=>⟨a_,aT W9 rfl,jU,aT W_ rfl,_,au,a6,λy9=>⟨c0,aT Xa rfl,CK,aT Xb rfl,_,ay,dy,oI,oI,oI,oI,oI,oI,fin _ _ ?_ Xc⟩,λy9=>⟨oI,oI,oI,oI,fin _ _ (by rw[y9];simp) nJ⟩⟩,λec=>⟨oI,oI,fin _ _ (by rw[ec];simp) j9⟩⟩,λhb=>fin _ _ (by rw[hb];simp) lH⟩,λaq=>fin _ _ ?_ lH⟩
  · subst aq
    rw[hb,ec,y9,Nat.beq_refl k];rfl
  · rw[show Nat.beq k dh=false by
     cases ab:Nat.beq k dh with
     |false=>rfl
     |true=>exact absurd (Nat.eq_of_beq_eq_true ab) aq];rfl
theorem Xd(call:aP)(v w:I)(h:J):
  aB Tryz.prog Tryz.f20 none call [0] (ah.mk [(0,v),(1,w)] [] .none h) (.nrm)
   (ah.mk [(0,v),(1,w)] [] .none h):=
 bx [0,1] (hs:=[]) (by kernel_rfl)<| .nil
theorem Xe(call:aP)(v w:I)(k bQ:Nat)(dm:Bool)(h ai au ay:J)
  (H1:call (.fn 16) [v] h=a9.ret (.int .i64 (.ofNat k)) ai)
  (aM:eQ (.ofNat k) (.ofNat 60)=true)
  (bm:call (.fn 16) [w] ai=a9.ret (.int .i64 (.ofNat bQ)) au)
  (bl:eQ (.ofNat bQ) (.ofNat 60)=true)
  (bY:call (.fn 39) [v,w] au=a9.ret (.bool dm) ay):
  aB Tryz.prog Tryz.f20 none call [1] (ah.mk [(0,v),(1,w)] [] .none h) (.ret)
   (ah.mk [(4,.bool dm)] [] .none ay):=
 bx [4] (hs:=[.c (.int .i64 (.ofNat k)) ai,.b true,.b true,.c (.int .i64 (.ofNat bQ)) au,.b true,.b true,.b true,.b true,.b true,.c (.bool dm) ay,.b true]) (by kernel_rfl)<| .cons H1<| .cons aM<| .cons aM<| .cons bm<| .cons aM<| .cons aM<| .cons bl<| .cons bl<| .cons bl<| .cons bY<| .cons bl<| .nil
theorem Xf(call:aP)(v w:I)(k bQ:Nat)(dm:Bool)(h ai au ay:J)
  (H1:call (.fn 16) [v] h=a9.ret (.int .i64 (.ofNat k)) ai)
  (aM:eQ (.ofNat k) (.ofNat 60)=true)
  (bm:call (.fn 16) [w] ai=a9.ret (.int .i64 (.ofNat bQ)) au)
  (bl:eQ (.ofNat bQ) (.ofNat 60)=false):
  aB Tryz.prog Tryz.f20 none call [1] (ah.mk [(0,v),(1,w)] [] .none h) (.ret)
   (ah.mk [(4,.bool false)] [] .none au):=
 bx [4] (hs:=[.c (.int .i64 (.ofNat k)) ai,.b true,.b true,.c (.int .i64 (.ofNat bQ)) au,.b true,.b true,.b false,.b false,.b false,.b false]) (by kernel_rfl)<| .cons H1<| .cons aM<| .cons aM<| .cons bm<| .cons aM<| .cons aM<| .cons bl<| .cons bl<| .cons bl<| .cons bl<| .nil
theorem Xg(call:aP)(v w:I)(k bQ:Nat)(dm:Bool)(h ai au ay:J)
  (H1:call (.fn 16) [v] h=a9.ret (.int .i64 (.ofNat k)) ai)
  (aM:eQ (.ofNat k) (.ofNat 60)=false):
  aB Tryz.prog Tryz.f20 none call [1] (ah.mk [(0,v),(1,w)] [] .none h) (.ret)
   (ah.mk [(4,.bool false)] [] .none ai):=
 bx [4] (hs:=[.c (.int .i64 (.ofNat k)) ai,.b false,.b false,.b false,.b false,.b false,.b false,.b false,.b false]) (by kernel_rfl)<| .cons H1<| .cons aM<| .cons aM<| .cons aM<| .cons aM<| .cons (rfl:false=false)<| .cons (rfl:false=false)<| .cons (rfl:false=false)<| .cons (rfl:false=false)<| .nil
theorem c6.w4{B:Nat}{h g:J}{v:I}{us:List a7}(hs:c6 B h v (us.map .str)):cl Tryz.prog g 63 v=some (.int .i64 (Int.ofNat us.length)):=by
 have:=c6.len (g:=g) (t:=63) (e:=9) (by kernel_rfl) hs
 rwa [List.length_map] at this
theorem c6.pn{B:Nat}{h g:J}{v:I}{vs:List I}(hs:c6 B h v vs):cl Tryz.prog g 50 v=some (.int .i64 (Int.ofNat vs.length)):=c6.len (e:=35) (by kernel_rfl) hs
def w5(oa ob:Option aC):Bool:=decide (c_ oa<=60)&&(decide (c_ ob<=60)&&iO oa ob)
theorem GL{n:Nat}(h:n<=60):eQ (Int.ofNat (min n 61)) (Int.ofNat 60)=true:=mO (by omega)
theorem MT{n:Nat}(h:¬n<=60):eQ (Int.ofNat (min n 61)) (Int.ofNat 60)=false:=ox (by omega)
theorem MU{oa ob:Option aC}{B:Nat}{h:J}{v w:I}(m:Nat)(aL:c_ oa<=90000)(ae:c_ ob<=90000)(aN:∀t,oa=some t->iQ t<=90000)(cC:B<=h.n)(hm:2*c_ oa+c_ ob+5<=m)(aD:dM B h oa v)(hw:dM B h ob w):
  ∃an,Y (m+1) (.fn 20) [v,w] h=.ret (.bool (w5 oa ob)) an/\Ext B h an:=by
 obtain⟨m,rfl⟩:∃j,m=j+2:=⟨m-2,by omega⟩
 obtain⟨ai,aF,bC⟩:=GF m aL cC aD (by omega)
 have j9:Ext B h ai:=bC.le cC
 have fin:∀b y,aB Tryz.prog Tryz.f20 none (Y (m+2)) [1] ⟨[(0,v),(1,w)],[],.none,h⟩ .ret ⟨[(4,.bool b)],[],.none,y⟩->b=w5 oa ob->Ext B h y->∃an,Y (m+2+1) (.fn 20) [v,w] h=.ret (.bool (w5 oa ob)) an/\Ext B h an:=λb y aj ae ab=>by
  rw[<-ae]
  exact⟨y,eA (intr:=b3) (n:=m+2) (args:=[v,w]) Tryz.func20 (by kernel_rfl) rfl (by kernel_rfl) (aB.seq (p:=[]) (by kernel_rfl) (Xd (Y (m+2)) v w h) aj) (.inl rfl) (by kernel_rfl),ab⟩
 unfold w5 at fin⊢
 by_cases aa:c_ oa<=60
 · have po:B<=ai.n:=Nat.le_trans cC j9.n
   obtain⟨au,a6,cS⟩:=GF m ae po (dM.bO (fa.ext j9 (Nat.le_refl _)) _ _ hw) (by omega)
   have nJ:Ext B h au:=j9.trans (Nat.le_refl _) (cS.le po)
   by_cases ad:c_ ob<=60
   · obtain⟨ay,dy,dC⟩:=MP (c_ oa) oa ob (Nat.le_refl _) aL aN (m+2) B au v w (by omega) (dM.bO (fa.ext nJ (Nat.le_refl _)) _ _ aD) (dM.bO (fa.ext nJ (Nat.le_refl _)) _ _ hw)
     exact fin (iO oa ob) ay (Xe (Y (m+2)) v w _ _ _ h ai au ay aF (GL aa) a6 (GL ad) dy) (by simp[aa,ad]) (nJ.trans (Nat.le_refl _) dC)
   · exact fin false au (Xf (Y (m+2)) v w _ _ false h ai au h aF (GL aa) a6 (MT ad)) (by simp[ad]) nJ
 · exact fin false ai (Xg (Y (m+2)) v w _ 0 false h ai h h aF (MT aa)) (by simp[aa]) j9
theorem Xh{ot:Option aC}{B:Nat}{h:J}{v:I}{m:Nat}(ae:c_ ot<=90000)(hm:c_ ot<m)(aD:dM B h ot v):Y (m+1) (.fn 52) [v] h=.ret (.int .i64 (Int.ofNat (min (c_ ot) 61))) h:=by
 cases ot with
 |none=>
  obtain rfl:v=.aZ:=aD
  obtain⟨m,rfl⟩:∃j,m=j+1:=⟨m-1,by omega⟩
  exact eA (intr:=b3) (n:=m+1) (args:=[.aZ]) Tryz.func52 (by kernel_rfl) rfl (by kernel_rfl) (MC (Y (m+1)) _ .aZ h h (ME m 0 h)) (.inl rfl) (by kernel_rfl)
 |some t=>
  rw[iP] at ae hm⊢
  exact MF ae hm aD
end Go.Proofs.jk
