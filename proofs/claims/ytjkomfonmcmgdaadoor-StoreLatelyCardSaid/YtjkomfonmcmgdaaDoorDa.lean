/-
  PROVED HERE: contracts of functions (Da). No condition beside each statement's own.
-/
import Derived.Test.YtjkomfonmcmgdaaDoorTx
import Derived.Test.YtjkomfonmcmgdaaDoorAx
import Derived.Test.YtjkomfonmcmgdaaDoorProg
import Derived.Test.YtjkomfonmcmgdaaDoorSxa
set_option linter.unusedVariables false
set_option linter.unusedSimpArgs false
set_option maxRecDepth 100000
set_option maxHeartbeats 1000000
namespace Go.Proofs.hJ
open Go a8 Go.Proofs
theorem QR(call:bt)(c m:Nat)(h:ab){Q:bk->au->Prop}(H:∃aM:Nat,aB h c 0=some (.ptr aM 0)/\aB h aM (0+3)=some (.map m)/\∃bo:Nat,∃al:ab,yP h (.map m)=some (.ptr bo 0,al)/\Q .nrm (au.mk [(0,.ptr c 0),(1,.int .u64 (.ofNat 0)),(8,.ptr bo 0)] [] .none al)):
  a4 Tryd.prog Tryd.f30 call [1,0,0] ⟨[(0,.ptr c 0),(1,.int .u64 (.ofNat 0))],[],.none,h⟩ Q:=
 dZ [(7,.a9 (.is (.map m))),(8,.a9 .p)] [0,1,8] [(0,.v (.ptr c 0)),(1,.v (.int .u64 (.ofNat 0)))] rfl (Eq.mp (by kernel_rfl) H)
theorem QS(call:bt)(c:Nat)(h:ab){Q:bk->au->Prop}(H:Q .nrm (au.mk [(0,.ptr c 0),(1,.int .u64 (.ofNat 0))] [] .none h)):
  a4 Tryd.prog Tryd.f30 call [0] ⟨[(0,.ptr c 0)],[],.none,h⟩ Q:=
 dZ [] [0,1] [(0,.v (.ptr c 0))] rfl (Eq.mp (by kernel_rfl) H)
theorem tW(call:bt)(c b it:Nat)(x:Bool)(h:ab){Q:bk->au->Prop}(H:(x=true->∃aM:Nat,∃bo:Nat,qS h (.ptr it 0)=some (.aJ [.int .u64 (.ofNat aM),.ptr bo 0])/\∃bF:Nat,aB (h.room 32) bo (0+7)=some (.int .i64 (.ofNat bF))/\(bF=0->∃b4:Nat,aB (h.room 32) bo (0+8)=some (.int .i64 (.ofNat b4))/\(b4=0->(b=0->Q .nrm (au.mk [(0,.ptr c 0),(1,.int .u64 (.ofNat aM)),(8,.ptr it 0)] [] .none (h.room 32)))/\(¬b=0->∃cy:Nat,aB (h.room 32) bo (0+9)=some (.int .u64 (.ofNat cy))/\∃cO:Nat,aB (h.room 32) c 0=some (.ptr cO 0)/\∃v1:I,aB (h.room 32) cO (0+3)=some v1/\∃di:Nat,gv Tryd.prog (h.room 32) 52 v1 (.int .u64 (.ofNat b)) false=some (.ptr di 0)/\∃fu:Nat,aB (h.room 32) di (0+9)=some (.int .u64 (.ofNat fu))/\I.sound v1=true/\(cy<fu->Q .nrm (au.mk [(0,.ptr c 0),(1,.int .u64 (.ofNat aM)),(8,.ptr it 0)] [] .none (h.room 32)))/\(¬cy<fu->Q .nrm (au.mk [(0,.ptr c 0),(1,.int .u64 (.ofNat b)),(8,.ptr it 0)] [] .none (h.room 32)))))/\(¬b4=0->Q .nrm (au.mk [(0,.ptr c 0),(1,.int .u64 (.ofNat b)),(8,.ptr it 0)] [] .none (h.room 32))))/\(¬bF=0->Q .nrm (au.mk [(0,.ptr c 0),(1,.int .u64 (.ofNat b)),(8,.ptr it 0)] [] .none (h.room 32))))/\(x=false->Q (.exit 0) (au.mk [(0,.ptr c 0),(1,.int .u64 (.ofNat b)),(8,.ptr it 0)] [] .none h))):
  a4 Tryd.prog Tryd.f30 call [1,0,1,0,0,1] ⟨[(0,.ptr c 0),(1,.int .u64 (.ofNat b)),(8,.ptr it 0),(10,.bool x)],[],.none,h⟩ Q:=
 dZ [(11,.a9 (.g_ [.n .u64,.p]))] [0,1,8] [(0,.v (.ptr c 0)),(1,.v (.int .u64 (.ofNat b))),(8,.v (.ptr it 0)),(10,.v (.bool x))] rfl (Eq.mp (by kernel_rfl) H)
theorem QT(call:bt)(b:Nat)(h:ab){Q:bk->au->Prop}(H:Q .ret (au.mk [(1,.int .u64 (.ofNat b))] [] .none h)):
  a4 Tryd.prog Tryd.f30 call [1,1] ⟨[(1,.int .u64 (.ofNat b))],[],.none,h⟩ Q:=
 dZ [] [1] [(1,.v (.int .u64 (.ofNat b)))] rfl (Eq.mp (by kernel_rfl) H)
theorem a4.run{P:Program}{fn:Func}{call:bt}{p:List Nat}{st s:au}{e:bk}(h:a4 P fn call p st λcn a6=>cn=e/\a6=s):bS P fn none call p st e s:=by
 obtain⟨cn,a6,r,rfl,rfl⟩:=h;exact r
structure dj where
 id:Nat
 b:Nat
 pins:Nat
 held:Nat
 used:Nat
 born:Nat
def dj.loose(d:dj):Bool:=Nat.beq d.pins 0&&Nat.beq d.held 0
def qp(h:ab)(e:db):Option dj:=match e.key,e.val with
 |.int .u64 (.ofNat id),.ptr b 0=>match aB h b 7,aB h b 8,aB h b 9 with
  |some (.int .i64 (.ofNat p)),some (.int .i64 (.ofNat q)),some (.int .u64 (.ofNat u))=>some ⟨id,b,p,q,u,e.born⟩
  |_,_,_=>none
 |_,_=>none
theorem sa{h:ab}{e:db}{d:dj}(ak:qp h e=some d):e.key=.int .u64 (Int.ofNat d.id)/\e.val=.ptr d.b 0/\aB h d.b 7=some (.int .i64 (Int.ofNat d.pins))/\aB h d.b 8=some (.int .i64 (Int.ofNat d.held))/\aB h d.b 9=some (.int .u64 (Int.ofNat d.used))/\e.born=d.born:=by
 unfold qp at ak
 split at ak
 · rename_i id b aa ad
   split at ak
   · rename_i p q u aq aC bC
     cases ak
     exact⟨aa,ad,aq,aC,bC,rfl⟩
   · cases ak
 · cases ak
def sb(h:ab):List db->Option (List dj)
 |[]=>some []
 |e::es=>match qp h e with
  |some d=>match sb h es with
   |some l=>some (d::l)
   |none=>none
  |none=>none
inductive n2(h:ab):List db->List dj->Prop where
 |nil:n2 h [] []
 |cons {e es d l}:qp h e=some d->n2 h es l->n2 h (e::es) (d::l)
theorem Iy{h:ab}:∀{es:List db} {l:List dj},sb h es=some l->n2 h es l
 |[],l,ar=>by cases ar;exact .nil
 |e::es,l,ar=>by
  unfold sb at ar
  split at ar
  · rename_i d ak
    split at ar
    · rename_i mJ s5
      cases ar
      exact .cons ak (Iy s5)
    · cases ar
  · cases ar
theorem n2.dz{h:ab}{es:List db}{l:List dj}(ar:n2 h es l):∀e∈es,∃d∈l,qp h e=some d:=by
 induction ar with
 |nil=>intro e he;cases he
 |cons aa ad a3=>
  intro e he
  rcases List.mem_cons.1 he with rfl|he
  · exact⟨_,by simp,aa⟩
  · obtain⟨d,aq,aC⟩:=a3 e he;exact⟨d,by simp[aq],aC⟩
theorem n2.Iz{h:ab}{es:List db}{l:List dj}(ar:n2 h es l):∀d∈l,∃e∈es,qp h e=some d:=by
 induction ar with
 |nil=>intro e he;cases he
 |cons aa ad a3=>
  intro e he
  rcases List.mem_cons.1 he with rfl|he
  · exact⟨_,by simp,aa⟩
  · obtain⟨d,aq,aC⟩:=a3 e he;exact⟨d,by simp[aq],aC⟩
def kS:List Nat->Bool
 |[]=>true
 |a::l=>match l.any λx=>Nat.beq a x with
  |true=>false
  |false=>kS l
theorem wF{α:Type}(f:α->Nat):∀(l:List α),kS (l.map f)=true->∀a∈l,∀b∈l,f a=f b->a=b
 |[],_,a,aw,_,_,_=>by cases aw
 |x::l,h,a,aw,b,ae,e=>by
  simp only[List.map_cons,kS] at h
  split at h
  · cases h
  · rename_i aa
    have J:∀y∈l,f x≠f y:=λy aO e=>by
     have:((l.map f).any λz=>Nat.beq (f x) z)=true:=List.any_eq_true.2 ⟨f y,List.mem_map.2 ⟨y,aO,rfl⟩,by rw[e];exact Nat.beq_refl _⟩
     rw[this] at aa;cases aa
    rcases List.mem_cons.1 aw with gi|zo<;>rcases List.mem_cons.1 ae with mg|lS
    · rw[gi,mg]
    · rw[gi] at e;exact absurd e (J b lS)
    · rw[mg] at e;exact absurd e.symm (J a zo)
    · exact wF f l h a zo b lS e
def sc(l:List dj)(clock:Nat):Bool:=kS (l.map dj.born)&&(kS (l.map dj.id)&&(kS ((l.filter dj.loose).map dj.used)&&(l.all λd=>Nat.blt d.born clock&&Nat.blt 0 d.id)))
def mh:List dj->Option dj
 |[]=>none
 |d::l=>match d.loose with
  |true=>match mh l with
   |none=>some d
   |some x=>match Nat.blt x.used d.used with
    |true=>some x
    |false=>some d
  |false=>mh l
def Dh:Option dj->Nat
 |some d=>d.id
 |none=>0
theorem zt:∀{l:List dj},mh l=none->∀d∈l,d.loose=false
 |[],_,d,ak=>by cases ak
 |x::l,h,d,ak=>by
  unfold mh at h
  split at h
  · split at h
    · cases h
    · split at h<;>cases h
  · rename_i J
    rcases List.mem_cons.1 ak with rfl|ak
    · exact J
    · exact zt h d ak
theorem wG:∀{l:List dj} {m:dj},mh l=some m->m∈l/\m.loose=true/\∀d∈l,d.loose=true->m.used<=d.used
 |[],m,h=>by cases h
 |x::l,m,h=>by
  unfold mh at h
  split at h
  · rename_i J
    split at h
    · rename_i aH
      cases h
      refine⟨by simp,J,λd ak ar=>?_⟩
      rcases List.mem_cons.1 ak with rfl|ak
      · exact Nat.le_refl _
      · have:=zt aH d ak;rw[ar] at this;cases this
    · rename_i y aO
      obtain⟨aa,ad,aq⟩:=wG aO
      split at h
      · rename_i bX
        cases h
        rw[Nat.blt_eq] at bX
        refine⟨by simp[aa],ad,λd ak ar=>?_⟩
        rcases List.mem_cons.1 ak with rfl|ak
        · omega
        · exact aq d ak ar
      · rename_i bX
        cases h
        have bX:¬y.used<x.used:=λe=>by rw[<-Nat.blt_eq] at e;rw[e] at bX;cases bX
        refine⟨by simp,J,λd ak ar=>?_⟩
        rcases List.mem_cons.1 ak with rfl|ak
        · exact Nat.le_refl _
        · have:=aq d ak ar;omega
  · rename_i J
    obtain⟨aa,ad,aq⟩:=wG h
    refine⟨by simp[aa],ad,λd ak ar=>?_⟩
    rcases List.mem_cons.1 ak with rfl|ak
    · rw[ar] at J;cases J
    · exact aq d ak ar
def kk(l:List dj)(S:List Nat)(b:Nat):Prop:=
 (b=0/\∀d∈l,d.born∈S->d.loose=false)\/∃m∈l,m.born∈S/\m.loose=true/\b=m.id/\∀d∈l,d.born∈S->d.loose=true->m.used<=d.used
theorem kk.fin{l:List dj}{clock:Nat}(an:sc l clock=true){S:List Nat}{b:Nat}(ae:kk l S b)(hl:∀d∈l,d.born∈S):b=Dh (mh l):=by
 simp only[sc,Bool.and_eq_true] at an
 obtain⟨_,_,hu,_⟩:=an
 cases hm:mh l with
 |none=>
  have:=zt hm
  rcases ae with⟨rfl,_⟩|⟨m,aa,_,ad,_⟩
  · rfl
  · rw[this m aa] at ad;cases ad
 |some x=>
  obtain⟨aa,ad,aq⟩:=wG hm
  rcases ae with⟨rfl,aC⟩|⟨m,aR,_,bD,rfl,zu⟩
  · rw[aC x aa (hl x aa)] at ad;cases ad
  · have ax:=aq m aR bD
    have av:=zu x aa (hl x aa) ad
    have:=wF dj.used (l.filter dj.loose) hu m (List.mem_filter.2 ⟨aR,bD⟩) x (List.mem_filter.2 ⟨aa,ad⟩) (by omega)
    rw[this];rfl
def qq(l:List dj)(S:List Nat):Nat:=(l.filter λd=>!S.contains d.born).length
theorem QU{l:List dj}(ak:kS (l.map dj.born)=true){S:List Nat}{d:dj}(hm:d∈l)(hs:d.born∉S):qq l (S++[d.born])+1=qq l S:=by
 unfold qq
 have x5:∀a∈l,∀b∈l,a.born=b.born->a=b:=wF dj.born l ak
 have key:∀(l:List dj),kS (l.map dj.born)=true->d∈l->(l.filter λx=>!(S++[d.born]).contains x.born).length+1=(l.filter λx=>!S.contains x.born).length:=by
  intro l
  induction l with
  |nil=>intro _ h;cases h
  |cons x l a3=>
   intro ak hm
   have Ix:=ak
   simp only[List.map_cons,kS] at ak
   split at ak
   · cases ak
   · rename_i aa
     by_cases J:x.born=d.born
     · have lU:∀y∈l,¬y.born=d.born:=λy aO e=>by
         have:((l.map dj.born).any λz=>Nat.beq x.born z)=true:=List.any_eq_true.2 ⟨y.born,List.mem_map.2 ⟨y,aO,rfl⟩,by rw[J,e];exact Nat.beq_refl _⟩
         rw[this] at aa;cases aa
       have ax:(l.filter λx=>!(S++[d.born]).contains x.born)=l.filter λx=>!S.contains x.born:=by
        apply List.filter_congr
        intro y aO
        have:=lU y aO
        simp[this]
       have av:(!(S++[d.born]).contains x.born)=false:=by simp[J]
       have bq:(!S.contains x.born)=true:=by rw[J];simpa using hs
       rw[List.filter_cons,av,List.filter_cons,bq]
       simp only[Bool.false_eq_true,if_false,if_true,List.length_cons]
       rw[ax]
     · have s4:d∈l:=by
         rcases List.mem_cons.1 hm with rfl|h
         · exact absurd rfl J
         · exact h
       have Cb:=a3 ak s4
       have av:(!(S++[d.born]).contains x.born)=(!S.contains x.born):=by simp[J]
       rw[List.filter_cons,List.filter_cons,av]
       cases af:(!S.contains x.born) with
       |true=>simp only[if_true,List.length_cons];omega
       |false=>simp only[Bool.false_eq_true,if_false];exact Cb
 exact key l ak hm
theorem QV{h0:ab}{h:ab}{kt:TypeId}{x:dj}:∀{es:List db} {l:List dj},n2 h es l->(∀a∈l,∀b∈l,a.id=b.id->a=b)->x∈l->∀i,∃j,ij Tryd.prog h0 kt (.int .u64 (Int.ofNat x.id)) es i=some (some (j,.ptr x.b 0)):=by
 intro es l ar
 induction ar with
 |nil=>intro _ J;cases J
 |@cons e es d l aa ad a3=>
  intro gU J i
  obtain⟨bJ,bR,_⟩:=sa aa
  simp only[ij,np,bJ,nn,if_true]
  by_cases Di:x.id=d.id
  · have:x=d:=gU x J d (by simp) Di
    subst this
    have:cW (Int.ofNat x.id) (Int.ofNat x.id)=true:=qc rfl
    rw[this]
    exact⟨i,by rw[bR]⟩
  · have:cW (Int.ofNat x.id) (Int.ofNat d.id)=false:=oV Di
    rw[this]
    have iM:x∈l:=by
     rcases List.mem_cons.1 J with rfl|h
     · exact absurd rfl Di
     · exact h
    exact a3 (λa aw b ae=>gU a (by simp[aw]) b (by simp[ae])) iM (i+1)
theorem IA{b:Nat}:∀{es:List db} {e:db},e∈es->(∀x∈es,x.born=e.born->x=e)->e.born=b->qR b es=some e
 |[],e,he,_,_=>by cases he
 |x::es,e,he,hu,ae=>by
  unfold qR
  by_cases J:x.born=b
  · have:Nat.beq x.born b=true:=by rw[J];exact Nat.beq_refl _
    rw[this]
    rw[hu x (by simp) (J.trans ae.symm)]
  · have:Nat.beq x.born b=false:=by
      cases af:Nat.beq x.born b with
      |false=>rfl
      |true=>exact absurd (Nat.eq_of_beq_eq_true af) J
    rw[this]
    rcases List.mem_cons.1 he with rfl|he
    · exact absurd ae J
    · exact IA he (λx J=>hu x (by simp[J])) ae
theorem QW(l:List Nat)(b:Nat):uY (l++[b])=some b:=by rw[Bp];simp
def tX(f:Nat)(args:List I)(h:ab):Option (I×ab):=match Nat.beq f 30,args with
 |true,[.ptr c 0]=>match aB h c 0 with
  |some (.ptr st 0)=>match aB h st 3 with
   |some (.map m)=>match h.get m with
    |some (.map es clock)=>match sb h es with
     |some l=>match sc l clock&&(Nat.blt c h.n&&(Nat.blt st h.n&&(Nat.blt m h.n&&(l.all λd=>Nat.blt d.b h.n)))) with
      |true=>some (.int .u64 (Int.ofNat (Dh (mh l))),h.room (1+32*l.length))
      |false=>none
     |none=>none
    |_=>none
   |_=>none
  |_=>none
 |_,_=>none
theorem wH{S:List Nat}{x y:Nat}(h:x∈S++[y]):x∈S\/x=y:=by simpa using h
theorem kk.no{l:List dj}{S:List Nat}{b:Nat}{d:dj}(ae:kk l S b)(ak:d.loose=false)(hu:∀a∈l,a.born=d.born->a=d):kk l (S++[d.born]) b:=by
 rcases ae with⟨rfl,aa⟩|⟨m,aa,ad,aq,rfl,aC⟩
 · refine .inl ⟨rfl,λa aw hs=>?_⟩
   rcases wH hs with h|h
   · exact aa a aw h
   · rw[hu a aw h];exact ak
 · refine .inr ⟨m,aa,by simp[ad],aq,rfl,λa aw hs ar=>?_⟩
   rcases wH hs with h|h
   · exact aC a aw h ar
   · rw[hu a aw h,ak] at ar;cases ar
theorem kk.first{l:List dj}{S:List Nat}{d:dj}(ae:kk l S 0)(gU:∀a∈l,0<a.id)(hm:d∈l)(ak:d.loose=true)(hu:∀a∈l,a.born=d.born->a=d):kk l (S++[d.born]) d.id:=by
 rcases ae with⟨_,aa⟩|⟨m,aa,ad,aq,h0,aC⟩
 · refine .inr ⟨d,hm,by simp,ak,rfl,λa aw hs ar=>?_⟩
   rcases wH hs with h|h
   · rw[aa a aw h] at ar;cases ar
   · rw[hu a aw h];exact Nat.le_refl _
 · have:=gU m aa;omega
theorem kk.cmp{l:List dj}{S:List Nat}{b:Nat}(ae:kk l S b)(h0:¬b=0):∃m∈l,b=m.id/\∀d∈l,d.loose=true->(∀a∈l,a.born=d.born->a=d)->(d.used<m.used->kk l (S++[d.born]) d.id)/\(¬d.used<m.used->kk l (S++[d.born]) b):=by
 rcases ae with⟨h,_⟩|⟨m,aa,ad,aq,rfl,aC⟩
 · exact absurd h h0
 · refine⟨m,aa,rfl,λd hm ak hu=>⟨λbX=>?_,λbX=>?_⟩⟩
   · refine .inr ⟨d,hm,by simp,ak,rfl,λa aw hs ar=>?_⟩
     rcases wH hs with h|h
     · have:=aC a aw h ar;omega
     · rw[hu a aw h];exact Nat.le_refl _
   · refine .inr ⟨m,aa,by simp[ad],aq,rfl,λa aw hs ar=>?_⟩
     rcases wH hs with h|h
     · exact aC a aw h ar
     · rw[hu a aw h];omega
abbrev qs(c b it:Nat):Env:=[(0,.ptr c 0),(1,.int .u64 (Int.ofNat b)),(8,.ptr it 0)]
structure wI(h:ab)(m clock:Nat)(S:List Nat)(g:ab):Prop where
 n:g.n=h.n+(1+32*S.length)
 low:∀b,b<h.n->g.get b=h.get b
 it:g.get h.n=some (.mapIter (some m) clock S clock)
theorem QX{h g:ab}{b off:Nat}(e:g.get b=h.get b):aB g b off=aB h b off:=by unfold aB;rw[e]
structure IB(h:ab)(c st m clock:Nat)(es:List db)(l:List dj):Prop where
 af:aB h c 0=some (.ptr st 0)
 bY:aB h st 3=some (.map m)
 hm:h.get m=some (.map es clock)
 fS:n2 h es l
 ok:sc l clock=true
 QY:c<h.n
 QZ:st<h.n
 mH:m<h.n
 IC:∀d∈l,d.b<h.n
def zv(h:ab)(c m clock:Nat)(l:List dj)(n:Nat)(s:au):Prop:=∃S b g,s=⟨qs c b h.n,[],.none,g⟩/\wI h m clock S g/\kk l S b/\qq l S=n/\S.length+n=l.length
def tY(h:ab)(m clock:Nat)(l:List dj)(e:bk)(s:au):Prop:=e=.exit 0/\∃b g S,s=⟨[(1,.int .u64 (Int.ofNat b))],[],.none,g⟩/\wI h m clock S g/\kk l S b/\S.length=l.length/\∀d∈l,d.born∈S
theorem Q0{jv:bt}(kT:h6 Tryd.prog jv)(hdr:∀need bx,k_ Tryd.prog need bx jv){h:ab}{c st m clock:Nat}{es:List db}{l:List dj}(w:IB h c st m clock es l)(n:Nat)(s:au)(hs:zv h c m clock l n s):
  e4 Tryd.prog Tryd.f30 none [1,0,1,0,0] s (Dg (zv h c m clock l) n (tY h m clock l)):=by
 obtain⟨S,b,g,rfl,aj,ae,Yn,Yo⟩:=hs
 have ID:=w.ok
 simp only[sc,Bool.and_eq_true] at ID
 obtain⟨wJ,Q1,Yp,dx⟩:=ID
 have IE:∀d∈l,d.born<clock/\0<d.id:=λd ak=>by
  have:=List.all_eq_true.1 dx d ak
  simpa using this
 have Q2:=wF dj.id l Q1
 have IF:=wF dj.born l wJ
 have Q3:∀x∈es,∀e∈es,x.born=e.born->x=e:=by
  intro x J e he ae
  obtain⟨Q4,Q5,Q6⟩:=w.fS.dz x J
  obtain⟨Dj,Q7,Q8⟩:=w.fS.dz e he
  obtain⟨b8,cG,_,_,_,dw⟩:=sa Q6
  obtain⟨bn,cJ,_,_,_,dr⟩:=sa Q8
  have:=IF Q4 Q5 Dj Q7 (by omega)
  subst this
  obtain⟨bJ,v1,cz⟩:=x
  obtain⟨bR,v2,cA⟩:=e
  simp only at b8 cG dw bn cJ dr
  rw[b8,cG,dw,bn,cJ,dr]
 have IG:¬m=h.n:=by have:=w.mH;omega
 have vr:g.get m=some (.map es clock):=(aj.low m w.mH).trans w.hm
 refine e4.seq (p:=[1,0,1,0,0]) (R1:=λe s=>e=.nrm/\((s=⟨put 10 (.bool false) (qs c b h.n),[],.none,g⟩/\∀e∈es,e.born∈S)\/∃e∈es,e.born∉S/\s=⟨put 10 (.bool true) (qs c b h.n),[],.none,g.set h.n (some (.mapIter (some m) clock (S++[e.born]) clock))⟩)) (by kernel_rfl)
  (e4.next kT (p:=[1,0,1,0,0,0]) (it:=8) (a:=9) (t:=10) (by kernel_rfl) (by kernel_rfl) (by kernel_rfl) (by kernel_rfl) (by kernel_rfl) rfl aj.it vr (λe he=>by
   obtain⟨d,d1,d2⟩:=w.fS.dz e he
   obtain⟨_,_,_,_,_,dw⟩:=sa d2
   have:=(IE d d1).1;omega) (Nat.le_refl _) (λdx=>⟨rfl,.inl ⟨rfl,dx⟩⟩) λe he h5=>⟨rfl,.inr ⟨e,he,h5,rfl⟩⟩) (λa6 aa=>?_) λe a6 he aa=>absurd aa.1 he
 obtain⟨_,⟨rfl,hl⟩|⟨e,he,h5,rfl⟩⟩:=aa
 · have IH:∀d∈l,d.born∈S:=λd ak=>by
     obtain⟨e,he,yo⟩:=w.fS.Iz d ak
     obtain⟨_,_,_,_,_,dw⟩:=sa yo
     rw[<-dw];exact hl e he
   have h0:qq l S=0:=by
    unfold qq
    rw[List.length_eq_zero_iff,List.filter_eq_nil_iff]
    intro d ak
    simpa using IH d ak
   have rx:bS Tryd.prog Tryd.f30 none jv [1,0,1,0,0,1] ⟨[(0,.ptr c 0),(1,.int .u64 (Int.ofNat b)),(8,.ptr h.n 0),(10,.bool false)],[],.none,g⟩ (.exit 0) ⟨qs c b h.n,[],.none,g⟩:=a4.run (tW jv c b h.n false g ⟨λh=>(by cases h),λ_=>⟨rfl,rfl⟩⟩)
   have Q9:bS Tryd.prog Tryd.f30 none jv [1,0,1,0,0,1] ⟨[(0,.ptr c 0),(1,.int .u64 (Int.ofNat b)),(8,.ptr h.n 0),(10,.bool false)],[],.none,g⟩ (.exit 0) ⟨[(1,.int .u64 (Int.ofNat b))],[],.none,g⟩:=dT.post rx ⟨rfl,trivial⟩
   exact e4.pre (e4.of_run kT hdr (by kernel_rfl) Q9 (.inr ⟨by simp,rfl,b,g,S,rfl,aj,ae,by omega,IH⟩)) ⟨rfl,rfl,rfl,rfl,trivial⟩ rfl rfl rfl
 · obtain⟨d,d1,d2⟩:=w.fS.dz e he
   obtain⟨b8,cG,dw,gF,gf,m1⟩:=sa d2
   have Dk:=w.IC d d1
   obtain⟨al,dP⟩:∃al,al=g.set h.n (some (.mapIter (some m) clock (S++[e.born]) clock)):=⟨_,rfl⟩
   rw[<-dP]
   have wK:∀b,b<h.n->al.get b=h.get b:=λb ae=>by rw[dP,ab.cD,if_neg (by omega)];exact aj.low b ae
   have II:al.get h.n=some (.mapIter (some m) clock (S++[e.born]) clock):=by rw[dP];exact ft rfl
   have yz:al.get m=some (.map es clock):=(wK m w.mH).trans w.hm
   have dz:qS al (.ptr h.n 0)=some (.aJ [.int .u64 (Int.ofNat d.id),.ptr d.b 0]):=by
    have Bq:=IA he (λx J ae=>Q3 x J e he ae) rfl
    unfold qS
    simp only[II,yz,QW,Bq,b8,cG]
    rw[Nat.beq_refl]
   have aM:al.n=g.n:=by rw[dP];rfl
   have dY:d.born∉S:=by rw[<-m1];exact h5
   have qt:=QU wJ d1 dY
   have tZ:wI h m clock (S++[d.born]) (al.room 32):=⟨by rw[ab.Ho,aM,aj.n,List.length_append];simp;omega,wK,by rw[ab.PK,II,m1]⟩
   have zw:∀a∈l,a.born=d.born->a=d:=λa aw e=>IF a aw d d1 e
   have t_:∀(b off:Nat) (v:I),b<h.n->aB h b off=some v->aB (al.room 32) b off=some v:=λb off v ae aD=>(QX (wK b ae)).trans aD
   have wL:=t_ d.b 7 _ Dk dw
   have zx:=t_ d.b 8 _ Dk gF
   have IJ:=t_ d.b 9 _ Dk gf
   have IK:=t_ c 0 _ w.QY w.af
   have IL:=t_ st 3 _ w.QZ w.bY
   have fin:∀g7,kk l (S++[d.born]) g7->bS Tryd.prog Tryd.f30 none jv [1,0,1,0,0,1] ⟨[(0,.ptr c 0),(1,.int .u64 (Int.ofNat b)),(8,.ptr h.n 0),(10,.bool true)],[],.none,al⟩ .nrm ⟨qs c g7 h.n,[],.none,al.room 32⟩->
     e4 Tryd.prog Tryd.f30 none [1,0,1,0,0,1] ⟨put 10 (.bool true) (qs c b h.n),[],.none,al⟩ (Dg (zv h c m clock l) n (tY h m clock l)):=λg7 lS ai=>
    e4.pre (e4.of_run kT hdr (by kernel_rfl) ai (.inl ⟨rfl,qq l (S++[d.born]),by omega,S++[d.born],g7,al.room 32,rfl,tZ,lS,rfl,by rw[List.length_append];simp;omega⟩)) ⟨rfl,rfl,rfl,rfl,trivial⟩ rfl rfl rfl
   by_cases aL:d.pins=0
   · have Dl:cW (Int.ofNat d.pins) (Int.ofNat 0)=true:=qc aL
     by_cases aE:d.held=0
     · have Dm:cW (Int.ofNat d.held) (Int.ofNat 0)=true:=qc aE
       have ua:d.loose=true:=by unfold dj.loose;rw[aL,aE];rfl
       by_cases h0:b=0
       · have cm:cW (Int.ofNat b) (Int.ofNat 0)=true:=qc h0
         exact fin d.id ((h0▸ae).first (λa aw=>(IE a aw).2) d1 ua zw) (a4.run (tW jv c b h.n true al ⟨λ_=>⟨d.id,d.b,dz,d.pins,wL,λ_=>⟨d.held,zx,λ_=>⟨λ_=>⟨rfl,rfl⟩,λh=>absurd h0 h⟩,λh=>absurd aE h⟩,λh=>absurd aL h⟩,λh=>(by cases h)⟩))
       · have cm:cW (Int.ofNat b) (Int.ofNat 0)=false:=oV h0
         obtain⟨x,bM,cU,gY⟩:=ae.cmp h0
         obtain⟨eO,nZ⟩:=gY d d1 ua zw
         obtain⟨ex,IM,Q_⟩:=w.fS.Iz x bM
         obtain⟨_,_,_,_,Ra,_⟩:=sa Q_
         have IN:=t_ x.b 9 _ (w.IC x bM) Ra
         have look:gv Tryd.prog (al.room 32) 52 (.map m) (.int .u64 (Int.ofNat b)) false=some (.ptr x.b 0):=by
          obtain⟨j,aF⟩:=QV (h0:=al.room 32) (kt:=28) w.fS Q2 bM 0
          have hu:Tryd.prog.underlying 52=some (.map 28 56):=by kernel_rfl
          have an:kz Tryd.prog 28 (.int .u64 (Int.ofNat b))=true:=by
           have nG:Tryd.prog.underlying 28=some (.int .u64):=by kernel_rfl
           simp only[kz,mv,nG]
          have Rb:(al.room 32).get m=some (.map es clock):=yz
          rw[cU] at an⊢
          simp only[gv,hu,an,Rb,aF,nq,Bool.false_eq_true,if_false]
         by_cases bX:d.used<x.used
         · have Rc:=oU bX
           exact fin d.id (eO bX) (a4.run (tW jv c b h.n true al ⟨λ_=>⟨d.id,d.b,dz,d.pins,wL,λ_=>⟨d.held,zx,λ_=>⟨λh=>absurd h h0,λ_=>⟨d.used,IJ,st,IK,_,IL,x.b,look,x.used,IN,rfl,λ_=>⟨rfl,rfl⟩,λh=>absurd bX h⟩⟩,λh=>absurd aE h⟩,λh=>absurd aL h⟩,λh=>(by cases h)⟩))
         · have Rc:=tF bX
           exact fin b (nZ bX) (a4.run (tW jv c b h.n true al ⟨λ_=>⟨d.id,d.b,dz,d.pins,wL,λ_=>⟨d.held,zx,λ_=>⟨λh=>absurd h h0,λ_=>⟨d.used,IJ,st,IK,_,IL,x.b,look,x.used,IN,rfl,λh=>absurd h bX,λ_=>⟨rfl,rfl⟩⟩⟩,λh=>absurd aE h⟩,λh=>absurd aL h⟩,λh=>(by cases h)⟩))
     · have Dm:cW (Int.ofNat d.held) (Int.ofNat 0)=false:=oV aE
       have ua:d.loose=false:=by
        unfold dj.loose
        cases af:Nat.beq d.held 0 with
        |false=>simp
        |true=>exact absurd (Nat.eq_of_beq_eq_true af) aE
       exact fin b (ae.no ua zw) (a4.run (tW jv c b h.n true al ⟨λ_=>⟨d.id,d.b,dz,d.pins,wL,λ_=>⟨d.held,zx,λh=>absurd h aE,λ_=>⟨rfl,rfl⟩⟩,λh=>absurd aL h⟩,λh=>(by cases h)⟩))
   · have Dl:cW (Int.ofNat d.pins) (Int.ofNat 0)=false:=oV aL
     have ua:d.loose=false:=by
      unfold dj.loose
      cases af:Nat.beq d.pins 0 with
      |false=>simp
      |true=>exact absurd (Nat.eq_of_beq_eq_true af) aL
     exact fin b (ae.no ua zw) (a4.run (tW jv c b h.n true al ⟨λ_=>⟨d.id,d.b,dz,d.pins,wL,λh=>absurd h aL,λ_=>⟨rfl,rfl⟩⟩,λh=>(by cases h)⟩))
theorem IP(hf:Fit Tryd.prog):l6 Tryd.prog tX:=by
 intro f args h v aI J μ wd vs ah aj aD
 unfold tX at J
 split at J
 · rename_i c Rd
   obtain rfl:=Nat.eq_of_beq_eq_true Rd
   split at J
   · rename_i st af
     split at J
     · rename_i m bY
       split at J
       · rename_i es clock hm
         split at J
         · rename_i l ar
           split at J
           · rename_i IQ
             cases J
             simp only[Bool.and_eq_true,Nat.blt_eq] at IQ
             obtain⟨cV,pL,Re,IG,q4⟩:=IQ
             have w:IB h c st m clock es l:=⟨af,bY,hm,Iy ar,cV,pL,Re,IG,λd ak=>by
              have:=List.all_eq_true.1 q4 d ak
              simpa using this⟩
             have kT:h6 Tryd.prog (et Tryd.prog (λ_ _ _=>none) 0):=Cd hf (OY _) 0
             have hdr:∀need bx,k_ Tryd.prog need bx (et Tryd.prog (λ_ _ _=>none) 0):=λneed bx=>Ha hf.mixed kT need bx
             obtain⟨jv,Rf⟩:∃jv,jv=et Tryd.prog (λ_ _ _=>none) 0:=⟨_,rfl⟩
             rw[<-Rf] at kT hdr
             have Rg:∀g,wI h m clock [] g->e4 Tryd.prog Tryd.f30 none [1,0,1] ⟨qs c 0 h.n,[],.none,g⟩ (λe s=>e=.nrm/\tY h m clock l (.exit 0) s):=λg aj=>
              e4.block (p:=[1,0,1]) (id:=0) (R1:=tY h m clock l) (by kernel_rfl)
               (e4.loop (p:=[1,0,1,0]) (zv h c m clock l) (by kernel_rfl) (λn s hs=>Q0 kT hdr w n s hs) l.length ⟨[],0,g,rfl,aj,.inl ⟨rfl,λd _ hs=>(by cases hs)⟩,by unfold qq;simp,by simp⟩)
               λe s hs=>by obtain⟨rfl,hs⟩:=hs;exact⟨rfl,rfl,hs⟩
             have Rh:wI h m clock [] (h.push (.mapIter (some m) clock [] clock)):=⟨rfl,λb ae=>lp ae rfl,fI rfl⟩
             have Ri:=a4.run (QR jv c m h ⟨st,af,bY,h.n,(h.push (.mapIter (some m) clock [] clock)),by simp only[yP,hm],rfl,rfl⟩)
             have tf:e4 Tryd.prog Tryd.f30 none [] ⟨l9 0 [.ptr c 0],[],.none,h⟩ (λe s=>e=.ret/\tY h m clock l (.exit 0) s):=
              e4.seq (p:=[]) (R1:=λe s=>e=.nrm/\s=⟨[(0,.ptr c 0),(1,.int .u64 (Int.ofNat 0))],[],.none,h⟩) (by kernel_rfl) (e4.of_run kT hdr (by kernel_rfl) (a4.run (QS jv c h ⟨rfl,rfl⟩)) ⟨rfl,rfl⟩)
               (λs hs=>by
                obtain⟨_,rfl⟩:=hs
                refine e4.seq (p:=[1]) (R1:=λe s=>e=.nrm/\tY h m clock l (.exit 0) s) (by kernel_rfl)
                 (e4.seq (p:=[1,0]) (R1:=λe s=>e=.nrm/\s=⟨qs c 0 h.n,[],.none,h.push (.mapIter (some m) clock [] clock)⟩) (by kernel_rfl) (e4.of_run kT hdr (by kernel_rfl) Ri ⟨rfl,rfl⟩)
                  (λs hs=>by obtain⟨_,rfl⟩:=hs;exact Rg _ Rh) λe s he hs=>absurd hs.1 he)
                 (λs hs=>?_) λe s he hs=>absurd hs.1 he
                obtain⟨_,aa⟩:=hs
                obtain⟨_,b,g,S,rfl,ad⟩:=aa
                exact e4.of_run kT hdr (by kernel_rfl) (a4.run (QT jv b g ⟨rfl,rfl⟩)) ⟨rfl,rfl,b,g,S,rfl,ad⟩)
               λe s he hs=>absurd hs.1 he
             refine QM (args:=[.ptr c 0]) kT hdr hf.code Tryd.func30 (c:=en Tryd.f30) rfl (show 1<=Tryd.f30.ntmps from of_decide_eq_true (by kernel_rfl)) ?_ ah aj aD
             have e9:=tf (lP 0 [.ptr c 0] .leaf) (y3 _)
             refine hI.mono e9 λe r' aW a0 g ⟨b3,aR,he,_,b,fr,S,hs,jH,sd,hlen,hl⟩=>?_
             obtain⟨rfl,rfl,rfl,rfl⟩:b3=[(1,.int .u64 (Int.ofNat b))]/\aW=[]/\a0=.none/\g=fr:=by injection hs with aV ba b1 gy;exact⟨aV,ba,b1,gy⟩
             have we:=sd.fin cV hl
             subst we
             refine⟨.inr he,rfl,rfl,CD aR (by kernel_rfl),by rw[ab.Ho,jH.n,hlen],λb=>?_⟩
             by_cases ae:b<h.n
             · exact .inl (jH.low b ae).symm
             · exact .inr ⟨ah.bound b (by omega),by omega⟩
           · cases J
         · cases J
       · cases J
     · cases J
   · cases J
 · cases J
end Go.Proofs.hJ
namespace Go.Proofs.hK
open Go a8 Go.Proofs
abbrev Rj:Nat->List I->ab->Option (I×ab):=Go.Proofs.hJ.tX
end Go.Proofs.hK
namespace gp
open a8
abbrev a5:=List UInt8
inductive aZ where
 |mk (k:Nat) (nm:a5) (ns:List a5) (xs:List aZ) (rt:Option aZ)
def aZ.k:aZ->Nat|.mk k _ _ _ _=>k
def aZ.xs:aZ->List aZ|.mk _ _ _ xs _=>xs
mutual
def sz:aZ->Nat
 |.mk _ _ _ xs rt=>1+eo xs+ev rt
def eo:List aZ->Nat
 |[]=>0
 |t::cu=>sz t+eo cu
def ev:Option aZ->Nat
 |none=>0
 |some t=>sz t
end
def Rk:List a5->List a5->Bool
 |[],[]=>true
 |x::xs,y::ys=>dv x y&&Rk xs ys
 |_,_=>false
theorem o1(k:Nat)(nm:a5)(ns:List a5)(xs:List aZ)(rt:Option aZ):sz (.mk k nm ns xs rt)=1+eo xs+ev rt:=by rw[sz]
theorem o2(t:aZ):ev (some t)=sz t:=by rw[ev]
theorem ub:∀t:aZ,0<sz t
 |.mk _ _ _ _ _=>by unfold sz;omega
theorem uc{t:aZ}:∀{l:List aZ},t∈l->sz t<=eo l
 |[],h=>by cases h
 |x::l,h=>by
  unfold eo
  rcases List.mem_cons.1 h with rfl|h
  · omega
  · have:=uc h;omega
theorem qu:∀l:List aZ,l.length<=eo l
 |[]=>Nat.le_refl _
 |x::l=>by
  have:=qu l
  have:=ub x
  unfold eo
  simp;omega
mutual
def jT:aZ->Nat
 |.mk _ _ ns xs rt=>ns.length+m2 xs+m3 rt
def m2:List aZ->Nat
 |[]=>0
 |t::cu=>jT t+m2 cu
def m3:Option aZ->Nat
 |none=>0
 |some t=>jT t
end
theorem Dn{t:aZ}:∀{l:List aZ},t∈l->jT t<=m2 l
 |[],h=>by cases h
 |x::l,h=>by
  rw[m2]
  rcases List.mem_cons.1 h with rfl|h
  · omega
  · have:=Dn h;omega
def n3(n:Nat):Bool:=(decide (97<=n)&&decide (n<=122))||((decide (65<=n)&&decide (n<=90))||decide (n=95))
def mi(n:Nat):Bool:=decide (48<=n)&&decide (n<=57)
def qv(n:Nat):Bool:=n3 n||mi n||decide (n=45)||decide (n=47)||decide (n=46)
def IS:a5->Bool
 |[]=>false
 |c::_=>n3 c.toNat
def kU(s:a5):Bool:=decide (1<=s.length)&&decide (s.length<=24)&&IS s&&s.all (λc=>n3 c.toNat||mi c.toNat)
def se(s:a5):Bool:=decide (1<=s.length)&&decide (s.length<=161)&&s.all (λc=>qv c.toNat)
theorem Dp(x y:UInt8)(a b:a5):eR (x::a) (y::b)=if x.toNat=y.toNat then eR a b else decide (x.toNat<y.toNat):=by
 by_cases h:x.toNat=y.toNat
 · rw[if_pos h];simp only[eR,h,Nat.beq_refl]
 · rw[if_neg h]
   have ae:Nat.beq x.toNat y.toNat=false:=by
    cases J:Nat.beq x.toNat y.toNat with
    |false=>rfl
    |true=>exact absurd (Nat.eq_of_beq_eq_true J) h
   simp only[eR,ae]
   exact Bool.eq_iff_iff.2 (by rw[Nat.blt_eq];simp)
def m4:a5:=(List.range 26).map (λi=>UInt8.ofNat (97+i))++(List.range 26).map (λi=>UInt8.ofNat (65+i))++(List.range 10).map (λi=>UInt8.ofNat (48+i))++[95]
def n4(n:Nat):Bool:=n3 n||mi n
def i_(p:Nat->Bool):List I:=(List.range 256).map λn=>.bool (p n)
def e5(sep:a5):List a5->a5
 |[]=>[]
 |x::l=>x++l.flatMap (λy=>sep++y)
theorem Rl(sep:a5):∀(l:List a5) (y:a5),l≠[]->e5 sep (l++[y])=e5 sep l++sep++y
 |[],y,h=>absurd rfl h
 |x::l,y,_=>by
  show x++(l++[y]).flatMap _=x++l.flatMap _++sep++y
  rw[List.flatMap_append]
  simp
theorem Rm(sep y:a5):e5 sep ([]++[y])=y:=by simp[e5]
theorem zy(sep:a5)(l:List a5){i:Nat}(h:i<l.length):e5 sep (l.take (i+1))=if 0<i then e5 sep (l.take i)++sep++l[i] else l[i]:=by
 rw[List.take_succ_eq_append_getElem h]
 by_cases h0:0<i
 · rw[if_pos h0,Rl]
   intro e
   have ar:(l.take i).length=i:=by rw[List.length_take];omega
   rw[e] at ar
   simp at ar
   omega
 · rw[if_neg h0]
   obtain rfl:i=0:=by omega
   exact Rm sep _
theorem IT(sep:a5)(l:List a5):∀(i:Nat),(e5 sep (l.take i)).length<=(e5 sep l).length:=by
 intro i
 cases l with
 |nil=>simp
 |cons x l=>
  cases i with
  |zero=>simp[e5]
  |succ i=>
   show(x++(l.take i).flatMap _).length<=(x++l.flatMap _).length
   have e:l.flatMap (λy=>sep++y)=(l.take i).flatMap (λy=>sep++y)++(l.drop i).flatMap (λy=>sep++y):=by
    rw[<-List.flatMap_append,List.take_append_drop]
   rw[e]
   simp only[List.length_append]
   omega
theorem Rn(sep:a5)(l:List a5){i:Nat}(h:i<l.length):l[i].length<=(e5 sep l).length:=by
 have aa:=IT sep l (i+1)
 rw[zy sep l h] at aa
 split at aa
 · simp at aa;omega
 · exact aa
def word:Nat->a5
 |1=>[97,110,121]
 |2=>[105,110,116]
 |3=>[98,111,111,108]
 |4=>[115,116,114]
 |5=>[110,105,108]
 |_=>[]
def kV(ns ws:List a5):List a5:=List.zipWith (λn w=>n++[58,32]++w) ns ws
def mj(hb:List Nat)(ws:List a5):List a5:=List.zipWith (λk w=>if k=8 then[40]++w++[41] else w) hb ws
def shape(k:Nat)(nm:a5)(ns:List a5)(hb:List Nat)(ws:List a5)(r:a5):a5:=
 if k=6 then nm else if k=7 then[123]++e5 [44,32] (kV ns ws)++[125] else if k=8 then[102,110,40]++e5 [44,32] ws++[41,32,45,62,32]++r
 else if k=9 then e5 [32,124,32] (mj hb ws) else word k
mutual
def wr:aZ->a5
 |.mk k nm ns xs rt=>shape k nm ns (xs.map aZ.k) (c0 xs) (lD rt)
def c0:List aZ->List a5
 |[]=>[]
 |t::cu=>wr t::c0 cu
def lD:Option aZ->a5
 |none=>[]
 |some t=>wr t
end
mutual
def okW:aZ->Bool
 |.mk k nm ns xs rt=>decide (1<=k)&&decide (k<=9)&&(decide (k≠7)||decide (xs.length=ns.length))&&(decide (k≠8)||rt.isSome)&&wM xs&&zz rt
def wM:List aZ->Bool
 |[]=>true
 |t::cu=>okW t&&wM cu
def zz:Option aZ->Bool
 |none=>true
 |some t=>okW t
end
theorem zA:∀l:List aZ,(c0 l).length=l.length
 |[]=>by rw[c0];rfl
 |x::l=>by rw[c0];simp[zA l]
theorem Dq:∀(l:List aZ) (i:Nat) (h:i<l.length) (ao:i<(c0 l).length),(c0 l)[i]=wr l[i]
 |[],i,h,_=>by simp at h
 |x::l,0,_,_=>by simp only[c0];rfl
 |x::l,i+1,h,ao=>by
  have:=Dq l i (by simpa using h) (by rw[zA];simpa using h)
  simpa only[c0,List.getElem_cons_succ] using this
def o3(p:Option a5)(x:a5):Bool:=match p with
 |none=>true
 |some q=>eR q x
def kW(p:Option a5):List a5->Bool
 |[]=>true
 |x::l=>kU x&&(o3 p x&&kW (some x) l)
def sf(p:Option a5):List Nat->List a5->Bool
 |k::hb,w::ws=>(decide (k≠9)&&decide (k≠1))&&(o3 p w&&sf (some w) hb ws)
 |_,_=>true
theorem Ro{s:a5}(h:kU s=true):s.length<=24:=by
 unfold kU at h
 simp only[Bool.and_eq_true,decide_eq_true_eq] at h
 exact h.1.1.2
def o4(k:Nat)(s:a5)(N M:Nat)(o:Bool):Bool:=(!((!dv s []) !=decide (k=6)))&&(!(decide (0<N)&&decide (k≠7)))&&(!(decide (0<M)&&decide (k<7)))&&(!(o !=decide (k=8)))
def gH(k:Nat)(nm:a5)(ns:List a5)(hb:List Nat)(ws:List a5)(n:Nat)(r:Bool):Bool:=
 if k=6 then se nm else if k=7 then decide (ns.length=n)&&kW none ns else if k=8 then r else if k=9 then sf none hb ws&&decide (2<=n) else true
mutual
def fD:aZ->Bool
 |.mk k nm ns xs rt=>(decide (1<=k)&&decide (k<=9))&&(o4 k nm ns.length xs.length rt.isSome&&(ja xs&&gH k nm ns (xs.map aZ.k) (c0 xs) xs.length (km rt)))
def ja:List aZ->Bool
 |[]=>true
 |t::cu=>fD t&&ja cu
def km:Option aZ->Bool
 |none=>false
 |some t=>fD t
end
theorem zB{t:aZ}:∀{l:List aZ},ja l=true->t∈l->fD t=true
 |[],_,h=>by cases h
 |x::l,ar,h=>by
  rw[ja,Bool.and_eq_true] at ar
  rcases List.mem_cons.1 h with rfl|h
  · exact ar.1
  · exact zB ar.2 h
theorem qw(k:Nat)(nm:a5)(ns:List a5)(xs:List aZ)(rt:Option aZ):fD (.mk k nm ns xs rt)=((decide (1<=k)&&decide (k<=9))&&(o4 k nm ns.length xs.length rt.isSome&&(ja xs&&gH k nm ns (xs.map aZ.k) (c0 xs) xs.length (km rt)))):=by rw[fD]
mutual
theorem Dr:∀t:aZ,fD t=true->okW t=true
 |.mk k nm ns xs rt,h=>by
  rw[qw] at h
  simp only[Bool.and_eq_true,decide_eq_true_eq] at h
  obtain⟨⟨bJ,wN⟩,aL,J,an⟩:=h
  have iM:=IU xs J
  have IV:rt.isSome=decide (k=8):=by
   unfold o4 at aL
   simp only[Bool.and_eq_true] at aL
   have:=aL.2
   revert this
   cases rt.isSome<;>cases ak:decide (k=8)<;>simp
  have aQ:zz rt=true:=by
   cases rt with
   |none=>rw[zz]
   |some u=>
    have Ds:k=8:=by simpa using IV.symm
    subst Ds
    have hu:fD u=true:=by simpa[gH,km] using an
    rw[zz]
    exact Dr u hu
  rw[okW]
  simp only[Bool.and_eq_true,Bool.or_eq_true,decide_eq_true_eq]
  refine⟨⟨⟨⟨⟨bJ,wN⟩,?_⟩,?_⟩,iM⟩,aQ⟩
  · by_cases e:k=7
    · subst e
      right
      have:ns.length=xs.length/\kW none ns=true:=by simpa[gH] using an
      exact this.1.symm
    · exact .inl e
  · by_cases e:k=8
    · right;rw[IV];simp[e]
    · exact .inl e
theorem IU:∀l:List aZ,ja l=true->wM l=true
 |[],_=>by rw[wM]
 |t::l,h=>by
  rw[ja,Bool.and_eq_true] at h
  rw[wM,Dr t h.1,IU l h.2];rfl
end
def eP(c:Nat):List a5->Nat
 |[]=>0
 |x::l=>x.length+c+eP c l
theorem IW(sep:a5):∀l:List a5,(l.flatMap (λy=>sep++y)).length=eP sep.length l
 |[]=>rfl
 |x::l=>by
  rw[List.flatMap_cons,List.length_append,IW sep l,List.length_append,eP]
  omega
theorem zC(sep:a5):∀l:List a5,(e5 sep l).length<=eP sep.length l
 |[]=>Nat.le_refl _
 |x::l=>by
  show(x++l.flatMap _).length<=_
  rw[List.length_append,IW,eP]
  omega
theorem Dt:∀(p:Option a5) (ns:List a5),kW p ns=true->∀n∈ns,n.length<=24
 |_,[],_,n,aH=>by cases aH
 |p,x::l,h,n,aH=>by
  rw[kW,Bool.and_eq_true,Bool.and_eq_true] at h
  rcases List.mem_cons.1 aH with rfl|aH
  · exact Ro h.1
  · exact Dt (some x) l h.2.2 n aH
def wO:List aZ->Prop
 |[]=>True
 |t::l=>(wr t).length+30<=300*sz t/\wO l
theorem IX:∀xs:List aZ,wO xs->eP 2 (c0 xs)<=300*eo xs
 |[],_=>by rw[c0,eP];omega
 |t::l,h=>by
  have aa:=h.1
  have:=IX l h.2
  rw[c0,eP,eo];omega
theorem IY:∀(ns:List a5) (xs:List aZ),wO xs->(∀n∈ns,n.length<=24)->eP 2 (kV ns (c0 xs))<=300*eo xs
 |[],xs,_,_=>by simp[kV,eP]
 |n::ns,[],_,_=>by simp[kV,c0,eP]
 |n::ns,t::l,h,aH=>by
  have aa:=h.1
  have ad:=aH n (by simp)
  have:=IY ns l h.2 (λm hm=>aH m (by simp[hm]))
  unfold kV at this⊢
  rw[c0,List.zipWith_cons_cons,eP,eo]
  simp only[List.length_append,List.length_cons,List.length_nil]
  omega
theorem IZ:∀(xs:List aZ),wO xs->eP 3 (mj (xs.map aZ.k) (c0 xs))<=300*eo xs
 |[],_=>by simp[mj,c0,eP]
 |t::l,h=>by
  have aa:=h.1
  have:=IZ l h.2
  unfold mj at this⊢
  rw[List.map_cons,c0,List.zipWith_cons_cons,eP,eo]
  split
  · simp only[List.length_append,List.length_cons,List.length_nil]
    omega
  · omega
mutual
theorem Du:∀t:aZ,fD t=true->(wr t).length+30<=300*sz t
 |.mk k nm ns xs rt,h=>by
  rw[qw] at h
  simp only[Bool.and_eq_true,decide_eq_true_eq] at h
  obtain⟨⟨bJ,wN⟩,aL,J,an⟩:=h
  have hs:=I0 xs J
  rw[wr,o1]
  unfold shape
  split
  · rename_i e
    subst e
    have:se nm=true:=by simpa[gH] using an
    unfold se at this
    simp only[Bool.and_eq_true,decide_eq_true_eq] at this
    omega
  split
  · rename_i e
    subst e
    have hf:ns.length=xs.length/\kW none ns=true:=by simpa[gH] using an
    have bn:=IY ns xs hs (Dt none ns hf.2)
    have cJ:(e5 [44,32] (kV ns (c0 xs))).length<=eP 2 (kV ns (c0 xs)):=zC [44,32] _
    simp only[List.length_append,List.length_cons,List.length_nil]
    omega
  split
  · rename_i e
    subst e
    have bn:=IX xs hs
    have cJ:(e5 [44,32] (c0 xs)).length<=eP 2 (c0 xs):=zC [44,32] _
    have ai:(lD rt).length<=300*ev rt:=by
     cases rt with
     |none=>rw[lD];simp
     |some u=>
      have hu:fD u=true:=by simpa[gH,km] using an
      have:=Du u hu
      rw[lD,o2];omega
    simp only[List.length_append,List.length_cons,List.length_nil]
    omega
  split
  · have bn:=IZ xs hs
    have cJ:(e5 [32,124,32] (mj (xs.map aZ.k) (c0 xs))).length<=eP 3 (mj (xs.map aZ.k) (c0 xs)):=zC [32,124,32] _
    omega
  · have:(word k).length<=4:=by
      unfold word;split<;>simp
    omega
theorem I0:∀l:List aZ,ja l=true->wO l
 |[],_=>trivial
 |t::l,h=>by
  rw[ja,Bool.and_eq_true] at h
  exact⟨Du t h.1,I0 l h.2⟩
end
end gp
namespace Go.Proofs.hK
open Go a8 Go.Proofs gp
def ep(B:Nat)(h:ab)(v:I)(vs:List I):Prop:=(v=.bd/\vs=[])\/∃b off cp,v=.slice b off vs.length cp/\b<B/\(∀i (ag:i<vs.length),aB h b (off+i*1)=some vs[i])/\0<vs.length/\cp≠ .dead
mutual
def fE(B:Nat)(h:ab):aZ->I->Prop
 |.mk k nm ns xs rt,v=>∃r bZ bf dL vs b2 aY up,v=.ptr r 0/\r<B/\h.get r=some (.cells [.int .i64 (Int.ofNat k),.str nm,bZ,bf,dL] 43 b2 aY up)/\ep B h bZ (ns.map .str)/\ep B h bf vs/\fv B h xs vs/\ht B h rt dL
def fv(B:Nat)(h:ab):List aZ->List I->Prop
 |[],vs=>vs=[]
 |t::cu,vs=>∃v ws,vs=v::ws/\fE B h t v/\fv B h cu ws
def ht(B:Nat)(h:ab):Option aZ->I->Prop
 |none,v=>v=.br
 |some t,v=>fE B h t v
end
def hX(B:Nat)(h g:ab):Prop:=∀b,b<B->g.get b=h.get b
theorem hX.ext{B C:Nat}{h g:ab}(e:Ext C h g)(c3:B<=C):hX B h g:=λb ae=>e.get b (by omega)
theorem ep.cL{B:Nat}{h g:ab}{v:I}{vs:List I}(e:hX B h g)(hs:ep B h v vs):ep B g v vs:=by
 rcases hs with hs|⟨b,off,cp,aa,ad,aq,aC⟩
 · exact .inl hs
 · refine .inr ⟨b,off,cp,aa,ad,λi ag=>?_,aC⟩
   rw[<-aq i ag]
   unfold aB
   rw[e b ad]
theorem ep.le{B C:Nat}{h:ab}{v:I}{vs:List I}(e:B<=C)(hs:ep B h v vs):ep C h v vs:=by
 rcases hs with hs|⟨b,off,cp,aa,ad,aq,aC⟩
 · exact .inl hs
 · exact .inr ⟨b,off,cp,aa,by omega,aq,aC⟩
mutual
theorem fE.cL{B:Nat}{h g:ab}(e:hX B h g):∀(t:aZ) (v:I),fE B h t v->fE B g t v
 |.mk k nm ns xs rt,v,J=>by
  obtain⟨r,bZ,bf,dL,vs,b2,aY,up,aa,ad,aq,aC,bC,dd,fm⟩:=J
  exact⟨r,bZ,bf,dL,vs,b2,aY,up,aa,ad,(e r ad).trans aq,aC.cL e,bC.cL e,fv.cL e xs vs dd,ht.cL e rt dL fm⟩
theorem fv.cL{B:Nat}{h g:ab}(e:hX B h g):∀(cu:List aZ) (vs:List I),fv B h cu vs->fv B g cu vs
 |[],vs,J=>J
 |t::cu,vs,J=>by
  obtain⟨v,ws,aa,ad,aq⟩:=J
  exact⟨v,ws,aa,fE.cL e t v ad,fv.cL e cu ws aq⟩
theorem ht.cL{B:Nat}{h g:ab}(e:hX B h g):∀(t:Option aZ) (v:I),ht B h t v->ht B g t v
 |none,v,J=>J
 |some t,v,J=>fE.cL e t v J
end
mutual
theorem fE.le{B C:Nat}{h:ab}(e:B<=C):∀(t:aZ) (v:I),fE B h t v->fE C h t v
 |.mk k nm ns xs rt,v,J=>by
  obtain⟨r,bZ,bf,dL,vs,b2,aY,up,aa,ad,aq,aC,bC,dd,fm⟩:=J
  exact⟨r,bZ,bf,dL,vs,b2,aY,up,aa,by omega,aq,aC.le e,bC.le e,fv.le e xs vs dd,ht.le e rt dL fm⟩
theorem fv.le{B C:Nat}{h:ab}(e:B<=C):∀(cu:List aZ) (vs:List I),fv B h cu vs->fv C h cu vs
 |[],vs,J=>J
 |t::cu,vs,J=>by
  obtain⟨v,ws,aa,ad,aq⟩:=J
  exact⟨v,ws,aa,fE.le e t v ad,fv.le e cu ws aq⟩
theorem ht.le{B C:Nat}{h:ab}(e:B<=C):∀(t:Option aZ) (v:I),ht B h t v->ht C h t v
 |none,v,J=>J
 |some t,v,J=>fE.le e t v J
end
theorem fv.len{B:Nat}{h:ab}:∀{cu:List aZ} {vs:List I},fv B h cu vs->vs.length=cu.length
 |[],vs,J=>by
  have e:vs=[]:=J
  subst e;rfl
 |s::cu,vs,J=>by
  obtain⟨u,ws,rfl,ad,aq⟩:=J
  simp[fv.len aq]
theorem fv.get{B:Nat}{h:ab}:∀{cu:List aZ} {vs:List I},fv B h cu vs->∀i (aa:i<vs.length) (ad:i<cu.length),fE B h cu[i] vs[i]
 |[],vs,J,i,aa,ad=>by simp at ad
 |s::cu,vs,J,i,aa,ad=>by
  obtain⟨u,ws,rfl,aq,aC⟩:=J
  cases i with
  |zero=>exact aq
  |succ i=>exact fv.get aC i (by simpa using aa) (by simpa using ad)
theorem ep.snd{B:Nat}{h:ab}{v:I}{vs:List I}(hs:ep B h v vs):I.sound v=true:=by
 rcases hs with⟨rfl,_⟩|⟨b,off,cp,rfl,_⟩<;>rfl
theorem ep.len{B:Nat}{h g:ab}{v:I}{vs:List I}{t e:TypeId}(hu:Tryd.prog.underlying t=some (.slice e))(hs:ep B h v vs):cr Tryd.prog g t v=some (.int .i64 (Int.ofNat vs.length)):=by
 rcases hs with⟨rfl,rfl⟩|⟨b,off,cp,rfl,_⟩
 · simp only[cr,hu];rfl
 · simp only[cr,hu]
theorem ht.I1{B:Nat}{h:ab}{ot:Option aZ}{v:I}(aD:ht B h ot v):v=.br\/∃R,v=.ptr R 0:=by
 cases ot with
 |none=>exact .inl aD
 |some u=>
  cases u with
  |mk k nm ns ys rt=>obtain⟨r,bZ,bf,_,vs,b2,aY,up,rfl,_⟩:=aD;exact .inr ⟨r,rfl⟩
theorem ht.snd{B:Nat}{h:ab}{ot:Option aZ}{v:I}(aD:ht B h ot v):I.sound v=true:=by
 rcases aD.I1 with rfl|⟨R,rfl⟩<;>rfl
theorem fE.snd{B:Nat}{h:ab}{t:aZ}{v:I}(aD:fE B h t v):I.sound v=true:=ht.snd (ot:=some t) aD
noncomputable def b5:Nat->List I->ab->Option (I×ab):=Dc (oP [⟨5,[],.bool true⟩,⟨73,[.str m4],.aJ [.agg (i_ n4),.bool true]⟩,⟨73,[.str (m4++[45,47,46])],.aJ [.agg (i_ qv),.bool true]⟩]) Rj
noncomputable def Y(n:Nat):bt:=et Tryd.prog b5 n
theorem Rp(call:bt)(v:I)(h:ab):
  bS Tryd.prog Tryd.f22 none call [0] (au.mk [(0,v)] [] .none h) (.nrm)
   (au.mk [(0,v)] [] .none h):=
 dR [0] (hs:=[]) (by kernel_rfl)<| .nil
theorem Rq(call:bt)(v:I)(h g:ab)
  (H1:a8.storeCells (ab.push h (.cells [.int .i64 (.ofNat 0)] 3 .own 0 0)) (ab.n h) 0 [.int .i64 (.ofNat 0)]=some g):
  bS Tryd.prog Tryd.f22 none call [1,0] (au.mk [(0,v)] [] .none h) (.nrm)
   (au.mk [(0,v),(3,.ptr (ab.n h) 0)] [] .none g):=
 dR [0,3] (hs:=[.ll (.aJ []) g]) (by kernel_rfl)<| .cons (⟨by kernel_rfl,H1,rfl⟩:some 1=some 1/\a8.storeCells (ab.push h (cX.cells [I.int IntKind.i64 (Int.ofNat 0)] 3 hz.own 0 0)) (ab.n h) 0 [I.int IntKind.i64 (Int.ofNat 0)]=some g/\I.aJ []=I.aJ [])<| .nil
theorem Rr(call:bt)(v w:I)(a:Nat)(h g:ab)
  (H1:call (.fn 31) [v] h=a7.ret w g):
  bS Tryd.prog Tryd.f22 none call [1,1,0,0] (au.mk [(0,v),(3,.ptr a 0)] [] .none h) (.nrm)
   (au.mk [(3,.ptr a 0),(5,w)] [] .none g):=
 dR [3,5] (hs:=[.c w g]) (by kernel_rfl)<| .cons H1<| .nil
theorem Rs(call:bt)(l a i j:Nat)(h g:ab)
  (H1:aB h a 0=some (.int .i64 (.ofNat i)))
  (bU:arith .add .i64 (.ofNat i) (.ofNat 1)=some (.int .i64 (.ofNat j)))
  (dh:a8.storeCells h a 0 [.int .i64 (.ofNat j)]=some g)
  (fJ:aB g a 0=some (.int .i64 (.ofNat j)))
  (iN:fx (.ofNat 60) (.ofNat j)=true):
  bS Tryd.prog Tryd.f22 (some l) call [1,1,0,1,0,1] (au.mk [(3,.ptr a 0)] [] .none h) (.exit 0)
   (au.mk [(3,.ptr a 0)] [] .none g):=
 dR [3] (hs:=[.v (.int .i64 (.ofNat i)),.v (.int .i64 (.ofNat j)),.ll (.aJ []) g,.v (.int .i64 (.ofNat j)),.b true]) (by kernel_rfl)<| .cons H1<| .cons bU<| .cons (⟨by kernel_rfl,dh,rfl⟩:some 1=some 1/\a8.storeCells h a 0 [I.int IntKind.i64 (Int.ofNat j)]=some g/\I.aJ []=I.aJ [])<| .cons fJ<| .cons iN<| .nil
theorem Rt(call:bt)(l a i j:Nat)(h g:ab)
  (H1:aB h a 0=some (.int .i64 (.ofNat i)))
  (bU:arith .add .i64 (.ofNat i) (.ofNat 1)=some (.int .i64 (.ofNat j)))
  (dh:a8.storeCells h a 0 [.int .i64 (.ofNat j)]=some g)
  (fJ:aB g a 0=some (.int .i64 (.ofNat j)))
  (iN:fx (.ofNat 60) (.ofNat j)=false):
  bS Tryd.prog Tryd.f22 (some l) call [1,1,0,1,0,1] (au.mk [(3,.ptr a 0)] [] .none h) (.nrm)
   (au.mk [(3,.ptr a 0)] [] .none g):=
 dR [3] (hs:=[.v (.int .i64 (.ofNat i)),.v (.int .i64 (.ofNat j)),.ll (.aJ []) g,.v (.int .i64 (.ofNat j)),.b false]) (by kernel_rfl)<| .cons H1<| .cons bU<| .cons (⟨by kernel_rfl,dh,rfl⟩:some 1=some 1/\a8.storeCells h a 0 [I.int IntKind.i64 (Int.ofNat j)]=some g/\I.aJ []=I.aJ [])<| .cons fJ<| .cons iN<| .nil
theorem Ru(call:bt)(a j dM:Nat)(h:ab)
  (H1:aB h a 0=some (.int .i64 (.ofNat j))):
  bS Tryd.prog Tryd.f22 none call [1,1,1] (au.mk [(3,.ptr a 0)] [.collected dM] .none h) (.ret)
   (au.mk [(2,.int .i64 (.ofNat j))] [.collected dM] .none h):=
 dR [2] (hs:=[.v (.int .i64 (.ofNat j))]) (by kernel_rfl)<| .cons H1<| .nil
theorem Rv(call:bt)(r:Nat)(h:ab):
  bS Tryd.prog Tryd.f31 none call [] (au.mk [(0,.ptr r 0)] [] .none h) (.ret)
   (au.mk [(2,.fn 48 [] [.ptr (ab.n h) 0])] [] .none (ab.push h (.cells [.ptr r 0] 33 .own 0 0))):=
 dR [2] (hs:=[]) (by kernel_rfl)<| .nil
theorem Rw(call:bt)(h:ab):
  bS Tryd.prog Tryd.f31 none call [] (au.mk [(0,.br)] [] .none h) (.ret)
   (au.mk [(2,.fn 48 [] [.ptr (ab.n h) 0])] [] .none (ab.push h (.cells [.br] 33 .own 0 0))):=
 dR [2] (hs:=[]) (by kernel_rfl)<| .nil
theorem Rx(call:bt)(l a:Nat)(v w:I)(h aa ad:ab)
  (H1:a8.storeCells (ab.push (ab.push h (.cells [.cS l] 67 .own 0 0)) (.cells [.eY] 67 .own 0 0)) (ab.n (ab.push h (.cells [.cS l] 67 .own 0 0))) 0 [.fn 49 [] [.ptr (ab.n h) 0,.ptr (ab.n (ab.push h (.cells [.cS l] 67 .own 0 0))) 0]]=some aa)
  (bU:aB aa (ab.n (ab.push h (.cells [.cS l] 67 .own 0 0))) 0=some (.fn 49 [] [.ptr (ab.n h) 0,.ptr (ab.n h+1) 0]))
  (dh:aB aa a 0=some v)
  (fJ:call (.fn 49) [v,.ptr (ab.n h) 0,.ptr (ab.n h+1) 0] aa=a7.ret w ad):
  bS Tryd.prog Tryd.f48 none call [] (au.mk [(0,.cS l),(1,.ptr a 0)] [] .none h) (.nrm)
   (au.mk [] [] .none ad):=
 dR [] (hs:=[.ll (.aJ []) aa,.v (.fn 49 [] [.ptr (ab.n h) 0,.ptr (ab.n h+1) 0]),.v v,.c w ad]) (by kernel_rfl)<| .cons (⟨by kernel_rfl,H1,rfl⟩:some 1=some 1/\a8.storeCells (ab.push (ab.push h (cX.cells [I.cS l] 67 hz.own 0 0)) (cX.cells [I.eY] 67 hz.own 0 0)) (ab.n (ab.push h (cX.cells [I.cS l] 67 hz.own 0 0))) 0 [I.fn 49 [] [I.ptr (ab.n h) 0,I.ptr (ab.n (ab.push h (cX.cells [I.cS l] 67 hz.own 0 0))) 0]]=some aa/\I.aJ []=I.aJ [])<| .cons bU<| .cons dh<| .cons fJ<| .nil
theorem Ry(call:bt)(y z:Nat)(h:ab):
  bS Tryd.prog Tryd.f49 none call [] (au.mk [(0,.br),(1,.ptr y 0),(2,.ptr z 0)] [] .none h) (.ret)
   (au.mk [(4,.bool true)] [] .none h):=
 dR [4] (hs:=[.v (.bool true),.b true]) (by kernel_rfl)<| .cons (by kernel_rfl:e1 Tryd.prog h BinOp.eql 33 (Operand.tmp 7) (Operand.const (Value.pointer none)) I.br I.br=some (I.bool true))<| .cons (rfl:true=true)<| .nil
theorem Rz(call:bt)(r y z:Nat)(h:ab):
  bS Tryd.prog Tryd.f49 none call [0] (au.mk [(0,.ptr r 0),(1,.ptr y 0),(2,.ptr z 0)] [] .none h) (.nrm)
   (au.mk [(0,.ptr r 0),(1,.ptr y 0),(2,.ptr z 0)] [] .none h):=
 dR [0,1,2] (hs:=[]) (by kernel_rfl)<| .nil
theorem RA(call:bt)(r y z:Nat)(h:ab):
  bS Tryd.prog Tryd.f49 none call [1,0] (au.mk [(0,.ptr r 0),(1,.ptr y 0),(2,.ptr z 0)] [] .none h) (.nrm)
   (au.mk [(0,.ptr r 0),(1,.ptr y 0),(2,.ptr z 0)] [] .none h):=
 dR [0,1,2] (hs:=[.v (.bool false),.b false]) (by kernel_rfl)<| .cons (by kernel_rfl:e1 Tryd.prog h BinOp.eql 33 (Operand.tmp 7) (Operand.const (Value.pointer none)) (I.ptr r 0) I.br=some (I.bool false))<| .cons (rfl:false=false)<| .nil
theorem RB(call:bt)(r y z l:Nat)(h g:ab)
  (H1:aB h y 0=some (.cS l))
  (bU:call (.cS l) [.ptr r 0] h=a7.ret (.bool true) g):
  bS Tryd.prog Tryd.f49 none call [1,1,0] (au.mk [(0,.ptr r 0),(1,.ptr y 0),(2,.ptr z 0)] [] .none h) (.nrm)
   (au.mk [(0,.ptr r 0),(1,.ptr y 0),(2,.ptr z 0)] [] .none g):=
 dR [0,1,2] (hs:=[.v (.cS l),.c (.bool true) g,.b false]) (by kernel_rfl)<| .cons H1<| .cons bU<| .cons (by kernel_rfl:(!true)=false)<| .nil
theorem RC(call:bt)(r y z l:Nat)(h g:ab)
  (H1:aB h y 0=some (.cS l))
  (bU:call (.cS l) [.ptr r 0] h=a7.ret (.bool false) g):
  bS Tryd.prog Tryd.f49 none call [1,1,0] (au.mk [(0,.ptr r 0),(1,.ptr y 0),(2,.ptr z 0)] [] .none h) (.ret)
   (au.mk [(4,.bool false)] [] .none g):=
 dR [4] (hs:=[.v (.cS l),.c (.bool false) g,.b true]) (by kernel_rfl)<| .cons H1<| .cons bU<| .cons (by kernel_rfl:(!false)=true)<| .nil
theorem RD(call:bt)(r y z b off N:Nat)(cp:c7)(h:ab)
  (H1:aB h r (0+3)=some (.slice b off N cp)):
  bS Tryd.prog Tryd.f49 none call [1,1,1,0,0] (au.mk [(0,.ptr r 0),(1,.ptr y 0),(2,.ptr z 0)] [] .none h) (.nrm)
   (au.mk [(0,.ptr r 0),(1,.ptr y 0),(2,.ptr z 0),(16,.slice b off N cp),(17,.int .i64 (.ofNat N)),(18,.int .i64 (.ofNat 0))] [] .none h):=
 dR [0,1,2,16,17,18] (hs:=[.v (.slice b off N cp)]) (by kernel_rfl)<| .cons H1<| .nil
theorem RE(call:bt)(r y z:Nat)(h:ab)
  (H1:aB h r (0+3)=some .bd):
  bS Tryd.prog Tryd.f49 none call [1,1,1,0,0] (au.mk [(0,.ptr r 0),(1,.ptr y 0),(2,.ptr z 0)] [] .none h) (.nrm)
   (au.mk [(0,.ptr r 0),(1,.ptr y 0),(2,.ptr z 0),(16,.bd),(17,.int .i64 (.ofNat 0)),(18,.int .i64 (.ofNat 0))] [] .none h):=
 dR [0,1,2,16,17,18] (hs:=[.v .bd]) (by kernel_rfl)<| .cons H1<| .nil
theorem I2(call:bt)(r y z N i:Nat)(v:I)(h:ab)
  (H1:fx (.ofNat i) (.ofNat N)=false):
  bS Tryd.prog Tryd.f49 none call [1,1,1,0,1,0,0] (au.mk [(0,.ptr r 0),(1,.ptr y 0),(2,.ptr z 0),(16,v),(17,.int .i64 (.ofNat N)),(18,.int .i64 (.ofNat i))] [] .none h) (.exit 0)
   (au.mk [(0,.ptr r 0),(1,.ptr y 0),(2,.ptr z 0)] [] .none h):=
 dR [0,1,2] (hs:=[.b false]) (by kernel_rfl)<| .cons H1<| .nil
theorem RF(call:bt)(r y z b off N i q j:Nat)(cp:c7)(x:I)(h g:ab)
  (H1:fx (.ofNat i) (.ofNat N)=true)
  (bU:Nat.le (Nat.succ i) N/\I.ptr b q=I.ptr b (off+i*1))
  (dh:aB h b q=some x)
  (fJ:aB h z 0=some (.fn 49 [] [.ptr y 0,.ptr z 0]))
  (iN:call (.fn 49) [x,.ptr y 0,.ptr z 0] h=a7.ret (.bool true) g)
  (wP:arith .add .i64 (.ofNat i) (.ofNat 1)=some (.int .i64 (.ofNat j))):
  bS Tryd.prog Tryd.f49 none call [1,1,1,0,1,0,0] (au.mk [(0,.ptr r 0),(1,.ptr y 0),(2,.ptr z 0),(16,.slice b off N cp),(17,.int .i64 (.ofNat N)),(18,.int .i64 (.ofNat i))] [] .none h) (.nrm)
   (au.mk [(0,.ptr r 0),(1,.ptr y 0),(2,.ptr z 0),(16,.slice b off N cp),(17,.int .i64 (.ofNat N)),(18,.int .i64 (.ofNat j))] [] .none g):=
 dR [0,1,2,16,17,18] (hs:=[.b true,.v (.ptr b q),.v x,.v (.fn 49 [] [.ptr y 0,.ptr z 0]),.c (.bool true) g,.b false,.v (.int .i64 (.ofNat j))]) (by kernel_rfl)<| .cons H1<| .cons bU<| .cons dh<| .cons fJ<| .cons iN<| .cons (by kernel_rfl:(!true)=false)<| .cons wP<| .nil
theorem RG(call:bt)(r y z b off N i q:Nat)(cp:c7)(x:I)(h g:ab)
  (H1:fx (.ofNat i) (.ofNat N)=true)
  (bU:Nat.le (Nat.succ i) N/\I.ptr b q=I.ptr b (off+i*1))
  (dh:aB h b q=some x)
  (fJ:aB h z 0=some (.fn 49 [] [.ptr y 0,.ptr z 0]))
  (iN:call (.fn 49) [x,.ptr y 0,.ptr z 0] h=a7.ret (.bool false) g):
  bS Tryd.prog Tryd.f49 none call [1,1,1,0,1,0,0] (au.mk [(0,.ptr r 0),(1,.ptr y 0),(2,.ptr z 0),(16,.slice b off N cp),(17,.int .i64 (.ofNat N)),(18,.int .i64 (.ofNat i))] [] .none h) (.ret)
   (au.mk [(4,.bool false)] [] .none g):=
 dR [4] (hs:=[.b true,.v (.ptr b q),.v x,.v (.fn 49 [] [.ptr y 0,.ptr z 0]),.c (.bool false) g,.b true]) (by kernel_rfl)<| .cons H1<| .cons bU<| .cons dh<| .cons fJ<| .cons iN<| .cons (by kernel_rfl:(!false)=true)<| .nil
theorem RH(call:bt)(r y z:Nat)(x v:I)(h g:ab)
  (H1:aB (ab.room h 7) z 0=some (.fn 49 [] [.ptr y 0,.ptr z 0]))
  (bU:aB (ab.room h 7) r (0+4)=some x)
  (dh:call (.fn 49) [x,.ptr y 0,.ptr z 0] (ab.room h 7)=a7.ret v g)
  (fJ:I.sound x=true:=by first|with_reducible assumption|rfl|exact ep.snd (by with_reducible assumption)|exact ep.wQ (by with_reducible assumption)|exact ht.snd (by with_reducible assumption)|exact ht.wQ (by with_reducible assumption)|exact fE.snd (by with_reducible assumption)|exact fE.wQ (by with_reducible assumption))
  (iN:I.sound v=true:=by first|with_reducible assumption|rfl|exact ep.snd (by with_reducible assumption)|exact ep.wQ (by with_reducible assumption)|exact ht.snd (by with_reducible assumption)|exact ht.wQ (by with_reducible assumption)|exact fE.snd (by with_reducible assumption)|exact fE.wQ (by with_reducible assumption)):
  bS Tryd.prog Tryd.f49 none call [1,1,1,1] (au.mk [(0,.ptr r 0),(1,.ptr y 0),(2,.ptr z 0)] [] .none h) (.ret)
   (au.mk [(4,v)] [] .none g):=
 dR [4] (hs:=[.v (.fn 49 [] [.ptr y 0,.ptr z 0]),.v x,.c v g]) (by kernel_rfl)<| .cons H1<| .cons bU<| .cons dh<| .cons (by kernel_rfl:I.sound (I.fn 49 [] [I.ptr y 0,I.ptr z 0])=true)<| .cons H1<| .cons (by kernel_rfl:I.sound (I.ptr r 0)=true)<| .cons (by kernel_rfl:I.ptr r 0=I.ptr r 0)<| .cons (by kernel_rfl:I.sound (I.ptr r 0)=true)<| .cons (by kernel_rfl:I.ptr r 0=I.ptr r 0)<| .cons (by kernel_rfl:I.sound (I.ptr r (0+4))=true)<| .cons (by kernel_rfl:I.ptr r (0+4)=I.ptr r (0+4))<| .cons fJ<| .cons bU<| .cons iN<| .cons (by kernel_rfl:v=v)<| .nil
noncomputable def Dv:Code:=sub (en Tryd.f22) [1,1,0,1,0,0]
noncomputable def RI:Code:=sub (en Tryd.f22) [1,1,0,1,0,1]
theorem RJ:Dv=.skip:=by kernel_rfl
noncomputable abbrev ud(s:LoopState)(p:Option Code)(r:aN)(N:Nat):cX:=.loop s p (c8 Tryd.f22) r [6] Dv RI (N+2)
structure o5(N:Nat)(h:ab)(r:aN)(c:Nat)(x:ab):Prop where
 wR:x.get N=some (.cells [.int .i64 (Int.ofNat c)] 3 .own 0 0)
 j0:x.get (N+2)=some (.defrd (some []))
 ue:x.get (N+3)=some (ud .ready none r N)
 cS:x.get (N+4)=some (.cells [.cS (N+3)] 67 .own 0 0)
 uf:x.get (N+5)=some (.cells [.fn 49 [] [.ptr (N+4) 0,.ptr (N+5) 0]] 67 .own 0 0)
 ext:Ext N h x
structure I3(N:Nat)(h:ab)(r:aN)(x:ab):Prop where
 wR:x.get N=some (.cells [.int .i64 (Int.ofNat 61)] 3 .own 0 0)
 j0:x.get (N+2)=some (.defrd (some []))
 ue:x.get (N+3)=some (ud .done (some (.exit 0)) r N)
 ext:Ext N h x
theorem o5.room{N:Nat}{h:ab}{r:aN}{c:Nat}{x:ab}(ag:o5 N h r c x)(k:Nat):o5 N h r c (x.room k):=⟨ag.wR,ag.j0,ag.ue,ag.cS,ag.uf,ag.ext.ma⟩
theorem RK(m:Nat){N:Nat}{h:ab}{r:aN}{c:Nat}{x:ab}(ai:a8.Mod r [(3,.ptr N 0)])(ag:o5 N h r c x)(af:c<=60)(v:I):
  ∃b y,Y (m+1) (.cS (N+3)) [v] x=.ret (.bool b) y/\((b=true/\c+1<=60/\o5 N h r (c+1) y)\/(b=false/\60<c+1/\I3 N h r y)):=by
 have aO:Y (m+1) (.cS (N+3)) [v] x=qV Tryd.prog (Y m) (N+3) [v] x:=rfl
 rw[aO]
 have aw:∀q,dT Tryd.prog (c8 Tryd.f22) (some (N+3)) (Y m) Dv ⟨put 6 v [(3,.ptr N 0)],[],q,x⟩ .nrm ⟨[(3,.ptr N 0)],[],q,x⟩:=λq r' hm=>by
  rw[RJ]
  exact⟨r',rfl,hm.sub ⟨rfl,trivial⟩⟩
 have dP:(x.set (N+3) (some (ud .busy none r N))).get N=some (.cells [.int .i64 (Int.ofNat c)] 3 .own 0 0):=by
  rw[ab.cD,if_neg (by omega)];exact ag.wR
 by_cases zD:c+1<=60
 · have ae:=Rt (Y m) (N+3) N c (c+1) _ _ (l_ dP) (CF (m:=100) (by omega) (by decide)) (y8 (y:=.int .i64 (Int.ofNat (c+1))) rfl dP) (l_ (t:=3) (by rw[ab.cD,if_pos rfl])) (tF (by omega))
   have e:=HL ag.ue ai (aw _) ae (by rw[ab.cD,if_neg (by omega),ab.cD,if_pos rfl])
   rw[e]
   refine⟨true,_,rfl,.inl ⟨rfl,zD,?_,?_,?_,?_,?_,?_⟩⟩
   · simp only[ab.cD];rw[if_neg (by omega),if_pos trivial]
   · simp only[ab.cD];rw[if_neg (by omega),if_neg (by omega),if_neg (by omega)];exact ag.j0
   · simp only[ab.cD];rw[if_pos trivial]
   · simp only[ab.cD];rw[if_neg (by omega),if_neg (by omega),if_neg (by omega)];exact ag.cS
   · simp only[ab.cD];rw[if_neg (by omega),if_neg (by omega),if_neg (by omega)];exact ag.uf
   · exact((ag.ext.hG (by omega)).hG (by omega)).hG (by omega)
 · have ae:=Rs (Y m) (N+3) N c (c+1) _ _ (l_ dP) (CF (m:=100) (by omega) (by decide)) (y8 (y:=.int .i64 (Int.ofNat (c+1))) rfl dP) (l_ (t:=3) (by rw[ab.cD,if_pos rfl])) (oU (by omega))
   have e:=HL ag.ue ai (aw _) ae (by rw[ab.cD,if_neg (by omega),ab.cD,if_pos rfl])
   rw[e]
   have vB:c+1=61:=by omega
   refine⟨false,_,rfl,.inr ⟨rfl,by omega,?_,?_,?_,?_⟩⟩
   · simp only[ab.cD];rw[if_neg (by omega),if_pos trivial,vB]
   · simp only[ab.cD];rw[if_neg (by omega),if_neg (by omega),if_neg (by omega)];exact ag.j0
   · simp only[ab.cD];rw[if_pos trivial]
   · exact((ag.ext.hG (by omega)).hG (by omega)).hG (by omega)
def sg(N:Nat)(h:ab)(r:aN)(c s:Nat)(b:Bool)(y:ab):Prop:=(b=true/\c+s<=60/\o5 N h r (c+s) y)\/(b=false/\60<c+s/\I3 N h r y)
def Dw(m:Nat)(N:Nat)(h:ab)(r:aN)(B:Nat)(ot:Option aZ):Prop:=∀(v:I) (c:Nat) (x:ab),c<=60->ht B h ot v->o5 N h r c x->∃b y,Y m (.fn 49) [v,.ptr (N+4) 0,.ptr (N+5) 0] x=.ret (.bool b) y/\sg N h r c (ev ot) b y
theorem I4{m N B R b off:Nat}{h:ab}{r:aN}{xs:List aZ}{vs:List I}(cp:c7)(c3:B<=N)(ae:b<B)(J:fv B h xs vs)(ar:∀i (ag:i<vs.length),aB h b (off+i*1)=some vs[i])(hlen:vs.length<=1000000)
  (a3:∀i (ad:i<xs.length),Dw m N h r B (some xs[i])):∀(k i c:Nat) (x:ab),vs.length-i=k->i<=vs.length->c<=60->o5 N h r c x->
  ∃e Γ y,iJ Tryd.prog Tryd.f49 none (Y m) [1,1,1,0,1,0] (k+1) ⟨[(0,.ptr R 0),(1,.ptr (N+4) 0),(2,.ptr (N+5) 0),(16,.slice b off vs.length cp),(17,.int .i64 (Int.ofNat vs.length)),(18,.int .i64 (Int.ofNat i))],[],.none,x⟩ e ⟨Γ,[],.none,y⟩/\
   ((e=.exit 0/\Γ=[(0,.ptr R 0),(1,.ptr (N+4) 0),(2,.ptr (N+5) 0)]/\sg N h r c (eo (xs.drop i)) true y)\/(e=.ret/\Γ=[(4,.bool false)]/\sg N h r c (eo (xs.drop i)) false y))
 |0,i,c,x,an,ag,af,ml=>by
  have kG:=fv.len J
  obtain rfl:i=vs.length:=by omega
  rw[List.drop_of_length_le (by omega)]
  exact⟨_,_,_,.exit (I2 (Y m) R (N+4) (N+5) _ _ _ x (tF (by omega))) (by simp),.inl ⟨rfl,rfl,.inl ⟨rfl,af,ml⟩⟩⟩
 |k+1,i,c,x,an,ag,af,ml=>by
  have kG:=fv.len J
  have aa:i<vs.length:=by omega
  have ad:i<xs.length:=by omega
  have ak:eo (xs.drop i)=sz xs[i]+eo (xs.drop (i+1)):=by
   rw[List.drop_eq_getElem_cons ad];rfl
  have ga:aB x b (off+i*1)=some vs[i]:=by
   rw[<-ar i aa]
   unfold aB
   rw[ml.ext.get b (by omega)]
  obtain⟨eC,y,ax,av⟩:=a3 i ad vs[i] c x af (fv.get J i aa ad) ml
  have ez:ev (some xs[i])=sz xs[i]:=by unfold ev;rfl
  rw[ez] at av
  rcases av with⟨rfl,bq,dD⟩|⟨rfl,bq,dD⟩
  · have st:=RF (Y m) R (N+4) (N+5) b off vs.length i (off+i*1) (i+1) cp vs[i] x y (oU aa) ⟨aa,rfl⟩ ga (l_ ml.uf) ax (CF aa (by omega))
    obtain⟨e,Γ,z,bW,cM⟩:=I4 (R:=R) cp c3 ae J ar hlen a3 k (i+1) (c+sz xs[i]) y (by omega) (by omega) bq dD
    refine⟨e,Γ,z,.step st bW,?_⟩
    unfold sg at cM⊢
    rw[ak,<-Nat.add_assoc]
    exact cM
  · have st:=RG (Y m) R (N+4) (N+5) b off vs.length i (off+i*1) cp vs[i] x y (oU aa) ⟨aa,rfl⟩ ga (l_ ml.uf) ax
    exact⟨_,_,_,.exit st (by simp),.inr ⟨rfl,rfl,.inr ⟨rfl,by omega,dD⟩⟩⟩
theorem Dx{N B:Nat}{h:ab}{r:aN}(ai:a8.Mod r [(3,.ptr N 0)])(c3:B<=N):∀(K:Nat) (ot:Option aZ),ev ot<=K->ev ot<=90000->∀m,ev ot+3<=m->Dw m N h r B ot
 |K,none,_,_,m,hm=>λv c x af aD ml=>by
  obtain rfl:v=.br:=aD
  obtain⟨m,rfl⟩:∃j,m=j+1:=⟨m-1,by omega⟩
  exact⟨true,x,fH (intr:=b5) (n:=m) (args:=[.br,.ptr (N+4) 0,.ptr (N+5) 0]) Tryd.func49 (by kernel_rfl) rfl (by kernel_rfl) (Ry (Y m) (N+4) (N+5) x) (.inl rfl) (by kernel_rfl),.inl ⟨rfl,af,ml⟩⟩
 |0,some t,cZ,_,m,hm=>by
  have ez:ev (some t)=sz t:=by unfold ev;rfl
  have:=ub t
  omega
 |K+1,some (.mk k nm ns xs rt),cZ,jC,m,hm=>λv c x af aD ml=>by
  have hs:ev (some (.mk k nm ns xs rt))=1+eo xs+ev rt:=by rw[o2,o1]
  obtain⟨R,bZ,bf,dL,vs,b2,aY,up,rfl,ad,aq,aC,bC,dd,fm⟩:=aD
  rw[hs] at cZ jC hm⊢
  obtain⟨m,rfl⟩:∃j,m=j+1:=⟨m-1,by omega⟩
  obtain⟨m,rfl⟩:∃j,m=j+1:=⟨m-1,by omega⟩
  have kG:=fv.len dd
  have jk:=qu xs
  have rn:=Rz (Y (m+1)) R (N+4) (N+5) x
  have s1:=RA (Y (m+1)) R (N+4) (N+5) x
  obtain⟨eC,y,ax,av⟩:=RK m ai ml af (.ptr R 0)
  rcases av with⟨rfl,bq,dD⟩|⟨rfl,bq,dD⟩
  · have s2:=RB (Y (m+1)) R (N+4) (N+5) (N+3) x y (l_ ml.cS) ax
    have RL:y.get R=some (.cells [.int .i64 (Int.ofNat k),.str nm,bZ,bf,dL] 43 b2 aY up):=by
     rw[dD.ext.get R (by omega)];exact aq
    have ga:aB y R (0+3)=some bf:=a_ RL rfl
    have a3:∀i (ad:i<xs.length),Dw (m+1) N h r B (some xs[i]):=λi ad=>by
     have iC:=uc (List.getElem_mem ad)
     have ez:ev (some xs[i])=sz xs[i]:=by unfold ev;rfl
     exact Dx ai c3 K (some xs[i]) (by omega) (by omega) (m+1) (by omega)
    have loop:∃e Γ z,bS Tryd.prog Tryd.f49 none (Y (m+1)) [1,1,1,0] ⟨[(0,.ptr R 0),(1,.ptr (N+4) 0),(2,.ptr (N+5) 0)],[],.none,y⟩ e ⟨Γ,[],.none,z⟩/\
      ((e=.nrm/\Γ=[(0,.ptr R 0),(1,.ptr (N+4) 0),(2,.ptr (N+5) 0)]/\sg N h r (c+1) (eo xs) true z)\/(e=.ret/\Γ=[(4,.bool false)]/\sg N h r (c+1) (eo xs) false z)):=by
     rcases bC with⟨rfl,rfl⟩|⟨b,off,cp,rfl,ae,ar,_⟩
     · have mI:xs=[]:=List.eq_nil_of_length_eq_zero (by simpa using kG.symm)
       subst mI
       refine⟨_,_,_,bS.seq (p:=[1,1,1,0]) (by kernel_rfl) (RE (Y (m+1)) R (N+4) (N+5) y ga) (bS.block (p:=[1,1,1,0,1]) (id:=0) (by kernel_rfl) (iJ.run (p:=[1,1,1,0,1,0]) (n:=1) (by kernel_rfl) (.exit (I2 (Y (m+1)) R (N+4) (N+5) 0 0 _ y (by kernel_rfl)) (by simp)) (by omega))),.inl ⟨rfl,rfl,.inl ⟨rfl,bq,dD⟩⟩⟩
     · obtain⟨e,Γ,z,bW,cM⟩:=I4 (R:=R) cp c3 ae dd ar (by omega) a3 vs.length 0 (c+1) y (by omega) (by omega) bq dD
       rw[List.drop_zero] at cM
       have eW:=iJ.run (p:=[1,1,1,0,1,0]) (by kernel_rfl) bW (by omega)
       have jb:=RD (Y (m+1)) R (N+4) (N+5) b off vs.length cp y ga
       rcases cM with⟨rfl,sh,Dy⟩|⟨rfl,sh,Dy⟩
       · exact⟨_,_,_,bS.seq (p:=[1,1,1,0]) (by kernel_rfl) jb (bS.block (p:=[1,1,1,0,1]) (id:=0) (by kernel_rfl) eW),.inl ⟨rfl,sh,Dy⟩⟩
       · exact⟨_,_,_,bS.seq (p:=[1,1,1,0]) (by kernel_rfl) jb (bS.CE (p:=[1,1,1,0,1]) (id:=0) (by kernel_rfl) eW (by simp)),.inr ⟨rfl,sh,Dy⟩⟩
    obtain⟨e,Γ,z,bW,cM⟩:=loop
    rcases cM with⟨rfl,rfl,cM⟩|⟨rfl,rfl,cM⟩
    · rcases cM with⟨_,eW,jb⟩|⟨eW,_⟩
      · have sh:=jb.room 7
        have RM:(z.room 7).get R=some (.cells [.int .i64 (Int.ofNat k),.str nm,bZ,bf,dL] 43 b2 aY up):=by
         rw[sh.ext.get R (by omega)];exact aq
        obtain⟨eC,w,cz,cA⟩:=Dx ai c3 K rt (by omega) (by omega) (m+1) (by omega) dL (c+1+eo xs) _ eW fm sh
        have dY:I.sound dL=true:=by
         cases rt with
         |none=>obtain rfl:dL=.br:=fm;rfl
         |some u=>
          cases u with
          |mk k nm ns ys rt=>obtain⟨r,bZ,bf,_,vs,b2,aY,up,rfl,_⟩:=fm;rfl
        have b9:=RH (Y (m+1)) R (N+4) (N+5) dL (.bool eC) z w (l_ sh.uf) (a_ RM rfl) cz dY rfl
        refine⟨eC,w,fH (intr:=b5) (n:=m+1) (args:=[.ptr R 0,.ptr (N+4) 0,.ptr (N+5) 0]) Tryd.func49 (by kernel_rfl) rfl (by kernel_rfl) (bS.seq (p:=[]) (by kernel_rfl) rn (bS.seq (p:=[1]) (by kernel_rfl) s1 (bS.seq (p:=[1,1]) (by kernel_rfl) s2 (bS.seq (p:=[1,1,1]) (by kernel_rfl) bW b9)))) (.inl rfl) rfl,?_⟩
        have gi:c+1+eo xs+ev rt=c+(1+eo xs+ev rt):=by omega
        unfold sg at cA⊢
        rw[gi] at cA
        exact cA
      · simp at eW
    · rcases cM with⟨eW,_⟩|⟨_,eW,jb⟩
      · simp at eW
      · exact⟨false,z,fH (intr:=b5) (n:=m+1) (args:=[.ptr R 0,.ptr (N+4) 0,.ptr (N+5) 0]) Tryd.func49 (by kernel_rfl) rfl (by kernel_rfl) (bS.seq (p:=[]) (by kernel_rfl) rn (bS.seq (p:=[1]) (by kernel_rfl) s1 (bS.seq (p:=[1,1]) (by kernel_rfl) s2 (bS.qa (p:=[1,1,1]) (by kernel_rfl) bW (by simp))))) (.inl rfl) (by kernel_rfl),.inr ⟨rfl,by omega,jb⟩⟩
  · have s2:=RC (Y (m+1)) R (N+4) (N+5) (N+3) x y (l_ ml.cS) ax
    exact⟨false,y,fH (intr:=b5) (n:=m+1) (args:=[.ptr R 0,.ptr (N+4) 0,.ptr (N+5) 0]) Tryd.func49 (by kernel_rfl) rfl (by kernel_rfl) (bS.seq (p:=[]) (by kernel_rfl) rn (bS.seq (p:=[1]) (by kernel_rfl) s1 (bS.qa (p:=[1,1]) (by kernel_rfl) s2 (by simp)))) (.inl rfl) (by kernel_rfl),.inr ⟨rfl,by omega,dD⟩⟩
theorem RN{call:bt}(j N:Nat)(r:aN)(q:bu)(h:ab)(hm:a8.Mod r [(2,.int .i64 (Int.ofNat j))])(ak:h.get (N+2)=some (.defrd (some []))):
  nz Tryd.prog call Tryd.f22 (.ok .ret r [.collected (N+2)] q h)=.ret (.int .i64 (Int.ofNat j)) (h.set (N+2) (some (.defrd none))):=by
 have ai:=CD hm (rfl:p_ Tryd.prog (c8 Tryd.f22) Tryd.f22 [(2,.int .i64 (Int.ofNat j))] (h.set (N+2) (some (.defrd none)))=some (.int .i64 (Int.ofNat j)))
 simp only[nz,h3,ak,List.nil_append,ai]
theorem RO{ot:Option aZ}{B:Nat}{h:ab}{v:I}(m:Nat)(jC:ev ot<=90000)(c3:B<=h.n)(aD:ht B h ot v)(hm:ev ot+3<=m):
  ∃ao,Y (m+2) (.fn 22) [v] h=.ret (.int .i64 (Int.ofNat (min (ev ot) 61))) ao/\Ext h.n h ao:=by
 have RP:=aD.I1
 let aa:=(h.push (.cells [.int .i64 (Int.ofNat 0)] 3 .own 0 0)).set h.n (some (.cells [.int .i64 (Int.ofNat 0)] 3 .own 0 0))
 let ad:=aa.push (.cells [v] 33 .own 0 0)
 have aM:aa.n=h.n+1:=rfl
 have bo:ad.n=h.n+2:=rfl
 have aT:a8.storeCells (h.push (.cells [.int .i64 (Int.ofNat 0)] 3 .own 0 0)) h.n 0 [.int .i64 (Int.ofNat 0)]=some aa:=
  y8 (x:=.int .i64 (Int.ofNat 0)) (t:=3) rfl (by rw[ab.fA,if_pos rfl])
 have RQ:Y (m+1) (.fn 31) [v] aa=.ret (.fn 48 [] [.ptr (h.n+1) 0]) ad:=by
  rcases RP with rfl|⟨R,rfl⟩
  · exact fH (intr:=b5) (n:=m) (args:=[.br]) Tryd.func31 (by kernel_rfl) rfl (by kernel_rfl) (Rw (Y m) aa) (.inl rfl) rfl
  · exact fH (intr:=b5) (n:=m) (args:=[.ptr R 0]) Tryd.func31 (by kernel_rfl) rfl (by kernel_rfl) (Rv (Y m) R aa) (.inl rfl) rfl
 have w:WF Tryd.prog Tryd.f22 none (Y (m+1)) [] (λe r d q ao=>∃ki,nz Tryd.prog (Y (m+1)) Tryd.f22 (.ok e r d q ao)=.ret (.int .i64 (Int.ofNat (min (ev ot) 61))) ki/\Ext h.n h ki) (lP 0 [v] .leaf) [] .none h:=by
  refine WF.seq (p:=[]) (by kernel_rfl) (W.of (Rp (Y (m+1)) v h) (y3 [v]) λr1 aR=>.inl ⟨rfl,?_⟩)
  refine WF.seq (p:=[1]) (by kernel_rfl) (W.of (Rq (Y (m+1)) v h aa aT) aR λr2 bD=>.inl ⟨rfl,?_⟩)
  refine WF.seq (p:=[1,1]) (by kernel_rfl) ?_
  refine WF.seq (p:=[1,1,0]) (by kernel_rfl) (W.of (Rr (Y (m+1)) v _ h.n aa ad RQ) bD λdJ zu=>.inl ⟨rfl,?_⟩)
  refine WF.block (p:=[1,1,0,1]) (id:=0) (by kernel_rfl) ?_
  refine WF.range (p:=[1,1,0,1,0]) (t:=5) (ps:=[6]) (by kernel_rfl) (by kernel_rfl) (hf:=rfl) (hm:=zu) ?_
  let kn:=(ad.push (.defrd (some []))).push (ud .ready none dJ h.n)
  let bM:=((kn.push (.cells [.cS (h.n+3)] 67 .own 0 0)).push (.cells [.eY] 67 .own 0 0)).set (h.n+5) (some (.cells [.fn 49 [] [.ptr (h.n+4) 0,.ptr (h.n+5) 0]] 67 .own 0 0))
  have I5:a8.Mod dJ [(3,.ptr h.n 0)]:=zu.sub ⟨rfl,trivial⟩
  have Yq:kn.n=h.n+4:=rfl
  have gi:Ext h.n h aa:=(Ext.push (Nat.le_refl _) _).hG (Nat.le_refl _)
  have mg:Ext h.n h ad:=gi.lq (by omega)
  have RR:Ext h.n h kn:=(mg.lq (by omega)).lq (by show h.n<=h.n+3;omega)
  have IM:Ext h.n h bM:=((RR.lq (by omega)).lq (by show h.n<=h.n+5;omega)).hG (by omega)
  have i0:o5 h.n h dJ 0 bM:=by
   refine⟨?_,?_,?_,?_,?_,?_⟩
   · simp only[bM,kn,ad,aa,ab.fA,ab.cD,ab.pB,ab.sW];grind
   · simp only[bM,kn,ad,aa,ab.fA,ab.cD,ab.pB,ab.sW];grind
   · simp only[bM,kn,ad,aa,ab.fA,ab.cD,ab.pB,ab.sW];grind
   · simp only[bM,kn,ad,aa,ab.fA,ab.cD,ab.pB,ab.sW];grind
   · simp only[bM,kn,ad,aa,ab.fA,ab.cD,ab.pB,ab.sW];grind
   · exact IM
  obtain⟨eC,y,ax,av⟩:=Dx I5 c3 (ev ot) ot (Nat.le_refl _) jC m hm v 0 bM (by decide) aD i0
  have bY:a8.storeCells ((kn.push (.cells [.cS (h.n+3)] 67 .own 0 0)).push (.cells [.eY] 67 .own 0 0)) (h.n+5) 0 [.fn 49 [] [.ptr (h.n+4) 0,.ptr (h.n+5) 0]]=some bM:=
   y8 (x:=.eY) rfl (by rw[ab.fA];exact if_pos rfl)
  have qt:bM.get (h.n+1)=some (.cells [v] 33 .own 0 0):=by
   simp only[bM,kn,ad,aa,ab.fA,ab.cD,ab.pB,ab.sW];grind
  have RS:=Rx (Y m) (h.n+3) (h.n+1) v (.bool eC) kn bM y bY (l_ i0.uf) (l_ qt) ax
  have kT:Y (m+1) (.fn 48) [.cS (h.n+3),.ptr (h.n+1) 0] kn=.ret (.aJ []) y:=
   fH (intr:=b5) (n:=m) (args:=[.cS (h.n+3),.ptr (h.n+1) 0]) Tryd.func48 (by kernel_rfl) rfl (by kernel_rfl) RS (.inr rfl) (by kernel_rfl)
  have fin:∀(j:Nat) (z:ab),j=min (ev ot) 61->z.get h.n=some (.cells [.int .i64 (Int.ofNat j)] 3 .own 0 0)->z.get (h.n+2)=some (.defrd (some []))->Ext h.n h z->
    WF Tryd.prog Tryd.f22 none (Y (m+1)) [1,1,1] (λe r d q ao=>∃ki,nz Tryd.prog (Y (m+1)) Tryd.f22 (.ok e r d q ao)=.ret (.int .i64 (Int.ofNat (min (ev ot) 61))) ki/\Ext h.n h ki) dJ [.collected (h.n+2)] .none z:=λj z aF aP oy RT=>by
   refine W.of (Ru (Y (m+1)) h.n j (h.n+2) _ (l_ aP)) I5 λgj RU=>?_
   subst aF
   exact⟨_,RN (min (ev ot) 61) h.n gj _ _ RU oy,RT.hG (by omega)⟩
  rcases av with⟨rfl,bq,dD⟩|⟨rfl,bq,dD⟩
  · have r_:lO (h.n+3) dJ [.collected (h.n+2)] .none (.ret (.aJ []) y)=.ok .nrm dJ [.collected (h.n+2)] .none (y.set (h.n+3) (some (ud .exhausted none dJ h.n))):=by
      simp only[lO,dD.ue]
    refine⟨.nrm,_,(congrArg (lO (h.n+3) dJ [.collected (h.n+2)] .none) kT).trans r_,.inr ⟨by simp,.inl ⟨rfl,?_⟩⟩⟩
    exact fin (0+ev ot) _ (by omega) (by rw[ab.cD,if_neg (by omega)];exact dD.wR) (by rw[ab.cD,if_neg (by omega)];exact dD.j0) (dD.ext.hG (by omega))
  · have r_:lO (h.n+3) dJ [.collected (h.n+2)] .none (.ret (.aJ []) y)=.ok (.exit 0) dJ [.collected (h.n+2)] .none (y.set (h.n+3) (some (ud .exhausted (some (.exit 0)) dJ h.n))):=by
      simp only[lO,dD.ue]
    refine⟨.exit 0,_,(congrArg (lO (h.n+3) dJ [.collected (h.n+2)] .none) kT).trans r_,.inl ⟨rfl,.inl ⟨rfl,?_⟩⟩⟩
    exact fin 61 _ (by omega) (by rw[ab.cD,if_neg (by omega)];exact dD.wR) (by rw[ab.cD,if_neg (by omega)];exact dD.j0) (dD.ext.hG (by omega))
 obtain⟨e,r,d,q,ao,cz,ki,cA,jo⟩:=w
 exact⟨ki,P6 (intr:=b5) (n:=m+1) (args:=[v]) Tryd.func22 (by kernel_rfl) rfl (by kernel_rfl) ⟨e,r,d,q,ao,cz,cA⟩,jo⟩
theorem ep.strs{B:Nat}{h:ab}{v:I}{us:List a5}(hs:ep B h v (us.map .str)):(v=.bd/\us=[])\/∃b off cp,v=.slice b off us.length cp/\b<B/\∀i (ag:i<us.length),aB h b (off+i*1)=some (.str us[i]):=by
 rcases hs with⟨aa,ad⟩|⟨b,off,cp,aa,ad,aq,_⟩
 · exact .inl ⟨aa,by simpa using ad⟩
 · refine .inr ⟨b,off,cp,by simpa using aa,ad,λi ag=>?_⟩
   have:=aq i (by simpa using ag)
   simpa using this
end Go.Proofs.hK
