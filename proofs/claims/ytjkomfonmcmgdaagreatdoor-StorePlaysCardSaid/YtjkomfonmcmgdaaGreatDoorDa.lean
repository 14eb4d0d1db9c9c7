/-
  PROVED HERE: contracts of functions (Da). No condition beside each statement's own.
-/
import Derived.Test.YtjkomfonmcmgdaaGreatDoorTx
import Derived.Test.YtjkomfonmcmgdaaGreatDoorAx
import Derived.Test.YtjkomfonmcmgdaaGreatDoorProg
import Derived.Test.YtjkomfonmcmgdaaGreatDoorSxa
set_option linter.unusedVariables false
set_option linter.unusedSimpArgs false
set_option maxRecDepth 100000
set_option maxHeartbeats 1000000
namespace bg
open Go Go.Proofs
noncomputable abbrev an:Program:=Tryz.prog
end bg
namespace Go.Proofs.kU
open Go bg Go.Proofs
variable {Q:bW->bL->Prop} {R:bE->Prop} (call:aW)
theorem Yl(c m:Nat)(h:ab)(H:∃aB,aq h c 0=some (af aB)/\aq h aB 3=some (.map m)/\∃aY ak,D8 h (.map m)=some (af aY,ak)/\Q .nrm (aj [(0,af c),(1,aC 0),(8,af aY)] ak)):
  bp an Tryz.f40 call [1,0,0] (aj [(0,af c),(1,aC 0)] h) Q:=
 c3 [(7,.a1 (.is (.map m))),(8,.a1 .p)] [0,1,8] [] H
theorem Ym(c:Nat)(h:ab)(H:Q .nrm (aj [(0,af c),(1,aC 0)] h)):
  bp an Tryz.f40 call [0] (aj [(0,af c)] h) Q:=
 c3 [] [0,1] [] H
theorem yN(c b it:Nat)(x:Bool)(h:ab)(H:(x=true->∃aB aY,vB h (af it)=some (.aR [aC aB,af aY])/\∃bd,aq (h.room 32) aY 7=some (J bd)/\(bd=0->∃bj,aq (h.room 32) aY 8=some (J bj)/\(bj=0->(b=0->Q .nrm (aj [(0,af c),(1,aC aB),(8,af it)] (h.room 32)))/\(¬b=0->∃bC,aq (h.room 32) aY 9=some (aC bC)/\∃bP,aq (h.room 32) c 0=some (af bP)/\∃v1,aq (h.room 32) bP 3=some v1/\∃cd,ho an (h.room 32) 55 v1 (aC b) false=some (af cd)/\∃cR,aq (h.room 32) cd 9=some (aC cR)/\cr v1/\(bC<cR->Q .nrm (aj [(0,af c),(1,aC aB),(8,af it)] (h.room 32)))/\(¬bC<cR->Q .nrm (aj [(0,af c),(1,aC b),(8,af it)] (h.room 32)))))/\(¬bj=0->Q .nrm (aj [(0,af c),(1,aC b),(8,af it)] (h.room 32))))/\(¬bd=0->Q .nrm (aj [(0,af c),(1,aC b),(8,af it)] (h.room 32))))/\(x=false->Q (.exit 0) (aj [(0,af c),(1,aC b),(8,af it)] h))):
  bp an Tryz.f40 call [1,0,1,0,0,1] (aj [(0,af c),(1,aC b),(8,af it),(10,.bool x)] h) Q:=
 c3 [(11,.a1 (.eQ [.n .u64,.p]))] [0,1,8] [] H
theorem Yn(b:Nat)(h:ab)(H:Q .ret (aj [(1,aC b)] h)):
  bp an Tryz.f40 call [1,1] (aj [(1,aC b)] h) Q:=
 c3 [] [1] [] H
theorem bp.run{P:Program}{fn:Func}{call:aW}{p:List Nat}{st s:bL}{e:bW}(h:bp P fn call p st λdc s'=>dc=e/\s'=s):a5 P fn none call p st e s:=by
 obtain⟨dc,s',r,rfl,rfl⟩:=h;exact r
structure eO where
 id:Nat
 b:Nat
 pins:Nat
 held:Nat
 used:Nat
 born:Nat
def eO.loose(d:eO):Bool:=Nat.beq d.pins 0&&Nat.beq d.held 0
def uT(h:ab)(e:eH):Option eO:=match e.key,e.val with
 |.int .u64 (.ofNat id),.ptr b 0=>match aq h b 7,aq h b 8,aq h b 9 with
  |some (.int .i64 (.ofNat p)),some (.int .i64 (.ofNat q)),some (.int .u64 (.ofNat u))=>some ⟨id,b,p,q,u,e.born⟩
  |_,_,_=>none
 |_,_=>none
theorem wW{h:ab}{e:eH}{d:eO}(ai:uT h e=some d):e.key=aC d.id/\e.val=.ptr d.b 0/\aq h d.b 7=some (J d.pins)/\aq h d.b 8=some (J d.held)/\aq h d.b 9=some (aC d.used)/\e.born=d.born:=by
 unfold uT at ai
 split at ai
 · rename_i id b I ae
   split at ai
   · rename_i p q u ax aN bS
     cases ai
     exact⟨I,ae,ax,aN,bS,rfl⟩
   · cases ai
 · cases ai
def wX(h:ab):List eH->Option (List eO)
 |[]=>some []
 |e::es=>match uT h e with
  |some d=>match wX h es with
   |some l=>some (d::l)
   |none=>none
  |none=>none
inductive rY(h:ab):List eH->List eO->Prop where
 |nil:rY h [] []
 |cons {e es d l}:uT h e=some d->rY h es l->rY h (e::es) (d::l)
theorem Pf{h:ab}:∀{es:List eH} {l:List eO},wX h es=some l->rY h es l
 |[],l,aA=>by cases aA;exact .nil
 |e::es,l,aA=>by
  unfold wX at aA
  split at aA
  · rename_i d ai
    split at aA
    · rename_i nW pG
      cases aA
      exact .cons ai (Pf pG)
    · cases aA
  · cases aA
theorem rY.ev{h:ab}{es:List eH}{l:List eO}(aA:rY h es l):∀e∈es,∃d∈l,uT h e=some d:=by
 induction aA with
 |nil=>intro e he;cases he
 |cons I ae bl=>
  intro e he
  rcases List.mem_cons.1 he with rfl|he
  · exact⟨_,by simp,I⟩
  · obtain⟨d,ax,aN⟩:=bl e he;exact⟨d,by simp[ax],aN⟩
theorem rY.Pg{h:ab}{es:List eH}{l:List eO}(aA:rY h es l):∀d∈l,∃e∈es,uT h e=some d:=by
 induction aA with
 |nil=>intro e he;cases he
 |cons I ae bl=>
  intro e he
  rcases List.mem_cons.1 he with rfl|he
  · exact⟨_,by simp,I⟩
  · obtain⟨d,ax,aN⟩:=bl e he;exact⟨d,by simp[ax],aN⟩
def oe:List Nat->Bool
 |[]=>true
 |a::l=>match l.any λx=>Nat.beq a x with
  |true=>false
  |false=>oe l
theorem Bu{α:Type}(f:α->Nat):∀(l:List α),oe (l.map f)=true->∀a∈l,∀b∈l,f a=f b->a=b
 |[],_,a,aV,_,_,_=>by cases aV
 |x::l,h,a,aV,b,ag,e=>by
  simp only[List.map_cons,oe] at h
  split at h
  · cases h
  · rename_i I
    have aa:∀y∈l,f x≠f y:=λy aZ e=>by
     have:((l.map f).any λz=>Nat.beq (f x) z)=true:=List.any_eq_true.2 ⟨f y,List.mem_map.2 ⟨y,aZ,rfl⟩,by rw[e];exact Nat.beq_refl _⟩
     rw[this] at I;cases I
    rcases List.mem_cons.1 aV with hO|EI<;>rcases List.mem_cons.1 ag with l2|kK
    · rw[hO,l2]
    · rw[hO] at e;exact absurd e (aa b kK)
    · rw[l2] at e;exact absurd e.symm (aa a EI)
    · exact Bu f l h a EI b kK e
def wY(l:List eO)(clock:Nat):Bool:=oe (l.map eO.born)&&(oe (l.map eO.id)&&(oe ((l.filter eO.loose).map eO.used)&&(l.all λd=>Nat.blt d.born clock&&Nat.blt 0 d.id)))
def pX:List eO->Option eO
 |[]=>none
 |d::l=>match d.loose with
  |true=>match pX l with
   |none=>some d
   |some x=>match Nat.blt x.used d.used with
    |true=>some x
    |false=>some d
  |false=>pX l
def IH:Option eO->Nat
 |some d=>d.id
 |none=>0
theorem EN:∀{l:List eO},pX l=none->∀d∈l,d.loose=false
 |[],_,d,ai=>by cases ai
 |x::l,h,d,ai=>by
  unfold pX at h
  split at h
  · split at h
    · cases h
    · split at h<;>cases h
  · rename_i aa
    rcases List.mem_cons.1 ai with rfl|ai
    · exact aa
    · exact EN h d ai
theorem Bv:∀{l:List eO} {m:eO},pX l=some m->m∈l/\m.loose=true/\∀d∈l,d.loose=true->m.used<=d.used
 |[],m,h=>by cases h
 |x::l,m,h=>by
  unfold pX at h
  split at h
  · rename_i aa
    split at h
    · rename_i aH
      cases h
      refine⟨by simp,aa,λd ai aA=>?_⟩
      rcases List.mem_cons.1 ai with rfl|ai
      · exact Nat.le_refl _
      · have:=EN aH d ai;rw[aA] at this;cases this
    · rename_i y aZ
      obtain⟨I,ae,ax⟩:=Bv aZ
      split at h
      · rename_i cB
        cases h
        rw[Nat.blt_eq] at cB
        refine⟨by simp[I],ae,λd ai aA=>?_⟩
        rcases List.mem_cons.1 ai with rfl|ai
        · omega
        · exact ax d ai aA
      · rename_i cB
        cases h
        have cB:¬y.used<x.used:=λe=>by rw[<-Nat.blt_eq] at e;rw[e] at cB;cases cB
        refine⟨by simp,aa,λd ai aA=>?_⟩
        rcases List.mem_cons.1 ai with rfl|ai
        · exact Nat.le_refl _
        · have:=ax d ai aA;omega
  · rename_i aa
    obtain⟨I,ae,ax⟩:=Bv h
    refine⟨by simp[I],ae,λd ai aA=>?_⟩
    rcases List.mem_cons.1 ai with rfl|ai
    · rw[aA] at aa;cases aa
    · exact ax d ai aA
def nv(l:List eO)(S:List Nat)(b:Nat):Prop:=
 (b=0/\∀d∈l,d.born∈S->d.loose=false)\/∃m∈l,m.born∈S/\m.loose=true/\b=m.id/\∀d∈l,d.born∈S->d.loose=true->m.used<=d.used
theorem nv.fin{l:List eO}{clock:Nat}(ay:wY l clock=true){S:List Nat}{b:Nat}(ag:nv l S b)(jK:∀d∈l,d.born∈S):b=IH (pX l):=by
 simp only[wY,Bool.and_eq_true] at ay
 obtain⟨_,_,hu,_⟩:=ay
 cases hm:pX l with
 |none=>
  have:=EN hm
  rcases ag with⟨rfl,_⟩|⟨m,I,_,ae,_⟩
  · rfl
  · rw[this m I] at ae;cases ae
 |some x=>
  obtain⟨I,ae,ax⟩:=Bv hm
  rcases ag with⟨rfl,aN⟩|⟨m,a3,_,b7,rfl,pY⟩
  · rw[aN x I (jK x I)] at ae;cases ae
  · have aG:=ax m a3 b7
    have aE:=pY x I (jK x I) ae
    have:=Bu eO.used (l.filter eO.loose) hu m (List.mem_filter.2 ⟨a3,b7⟩) x (List.mem_filter.2 ⟨I,ae⟩) (by omega)
    rw[this];rfl
def uU(l:List eO)(S:List Nat):Nat:=(l.filter λd=>!S.contains d.born).length
theorem Yo{l:List eO}(ai:oe (l.map eO.born)=true){S:List Nat}{d:eO}(hm:d∈l)(al:d.born∉S):uU l (S++[d.born])+1=uU l S:=by
 unfold uU
 have Ds:∀a∈l,∀b∈l,a.born=b.born->a=b:=Bu eO.born l ai
 have key:∀(l:List eO),oe (l.map eO.born)=true->d∈l->(l.filter λx=>!(S++[d.born]).contains x.born).length+1=(l.filter λx=>!S.contains x.born).length:=by
  intro l
  induction l with
  |nil=>intro _ h;cases h
  |cons x l bl=>
   intro ai hm
   have Pe:=ai
   simp only[List.map_cons,oe] at ai
   split at ai
   · cases ai
   · rename_i I
     by_cases aa:x.born=d.born
     · have pC:∀y∈l,¬y.born=d.born:=λy aZ e=>by
         have:((l.map eO.born).any λz=>Nat.beq x.born z)=true:=List.any_eq_true.2 ⟨y.born,List.mem_map.2 ⟨y,aZ,rfl⟩,by rw[aa,e];exact Nat.beq_refl _⟩
         rw[this] at I;cases I
       have aG:(l.filter λx=>!(S++[d.born]).contains x.born)=l.filter λx=>!S.contains x.born:=by
        apply List.filter_congr
        intro y aZ
        have:=pC y aZ
        simp[this]
       have aE:(!(S++[d.born]).contains x.born)=false:=by simp[aa]
       have bH:(!S.contains x.born)=true:=by rw[aa];simpa using al
       rw[List.filter_cons,aE,List.filter_cons,bH]
       simp only[Bool.false_eq_true,if_false,if_true,List.length_cons]
       rw[aG]
     · have sA:d∈l:=by
         rcases List.mem_cons.1 hm with rfl|h
         · exact absurd rfl aa
         · exact h
       have Hx:=bl ai sA
       have aE:(!(S++[d.born]).contains x.born)=(!S.contains x.born):=by simp[aa]
       rw[List.filter_cons,List.filter_cons,aE]
       cases ah:(!S.contains x.born) with
       |true=>simp only[if_true,List.length_cons];omega
       |false=>simp only[Bool.false_eq_true,if_false];exact Hx
 exact key l ai hm
theorem Yp{h0:ab}{h:ab}{kt:TypeId}{x:eO}:∀{es:List eH} {l:List eO},rY h es l->(∀a∈l,∀b∈l,a.id=b.id->a=b)->x∈l->∀i,∃j,k4 an h0 kt (aC x.id) es i=some (some (j,.ptr x.b 0)):=by
 intro es l aA
 induction aA with
 |nil=>intro _ aa;cases aa
 |@cons e es d l I ae bl=>
  intro jf aa i
  obtain⟨bG,b0,_⟩:=wW I
  simp only[k4,rk,bG,rj,if_true]
  by_cases II:x.id=d.id
  · have:x=d:=jf x aa d (by simp) II
    subst this
    have:fc (Int.ofNat x.id) (Int.ofNat x.id)=true:=o2 rfl
    rw[this]
    exact⟨i,by rw[b0]⟩
  · have:fc (Int.ofNat x.id) (Int.ofNat d.id)=false:=kS II
    rw[this]
    have lE:x∈l:=by
     rcases List.mem_cons.1 aa with rfl|h
     · exact absurd rfl II
     · exact h
    exact bl (λa aV b ag=>jf a (by simp[aV]) b (by simp[ag])) lE (i+1)
theorem Ph{b:Nat}:∀{es:List eH} {e:eH},e∈es->(∀x∈es,x.born=e.born->x=e)->e.born=b->vA b es=some e
 |[],e,he,_,_=>by cases he
 |x::es,e,he,hu,ag=>by
  unfold vA
  by_cases aa:x.born=b
  · have:Nat.beq x.born b=true:=by rw[aa];exact Nat.beq_refl _
    rw[this]
    rw[hu x (by simp) (aa.trans ag.symm)]
  · have:Nat.beq x.born b=false:=by
      cases ah:Nat.beq x.born b with
      |false=>rfl
      |true=>exact absurd (Nat.eq_of_beq_eq_true ah) aa
    rw[this]
    rcases List.mem_cons.1 he with rfl|he
    · exact absurd ag aa
    · exact Ph he (λx aa=>hu x (by simp[aa])) ag
theorem Yq(l:List Nat)(b:Nat):z1 (l++[b])=some b:=by rw[GM];simp
def yO(f:Nat)(args:List ad)(h:ab):Option (ad×ab):=match Nat.beq f 40,args with
 |true,[.ptr c 0]=>match aq h c 0 with
  |some (.ptr st 0)=>match aq h st 3 with
   |some (.map m)=>match h.get m with
    |some (.map es clock)=>match wX h es with
     |some l=>match wY l clock&&(Nat.blt c h.n&&(Nat.blt st h.n&&(Nat.blt m h.n&&(l.all λd=>Nat.blt d.b h.n)))) with
      |true=>some (aC (IH (pX l)),h.room (1+32*l.length))
      |false=>none
     |none=>none
    |_=>none
   |_=>none
  |_=>none
 |_,_=>none
theorem Bw{S:List Nat}{x y:Nat}(h:x∈S++[y]):x∈S\/x=y:=by simpa using h
theorem nv.no{l:List eO}{S:List Nat}{b:Nat}{d:eO}(ag:nv l S b)(ai:d.loose=false)(hu:∀a∈l,a.born=d.born->a=d):nv l (S++[d.born]) b:=by
 rcases ag with⟨rfl,I⟩|⟨m,I,ae,ax,rfl,aN⟩
 · refine .inl ⟨rfl,λa aV al=>?_⟩
   rcases Bw al with h|h
   · exact I a aV h
   · rw[hu a aV h];exact ai
 · refine .inr ⟨m,I,by simp[ae],ax,rfl,λa aV al aA=>?_⟩
   rcases Bw al with h|h
   · exact aN a aV h aA
   · rw[hu a aV h,ai] at aA;cases aA
theorem nv.first{l:List eO}{S:List Nat}{d:eO}(ag:nv l S 0)(jf:∀a∈l,0<a.id)(hm:d∈l)(ai:d.loose=true)(hu:∀a∈l,a.born=d.born->a=d):nv l (S++[d.born]) d.id:=by
 rcases ag with⟨_,I⟩|⟨m,I,ae,ax,h0,aN⟩
 · refine .inr ⟨d,hm,by simp,ai,rfl,λa aV al aA=>?_⟩
   rcases Bw al with h|h
   · rw[I a aV h] at aA;cases aA
   · rw[hu a aV h];exact Nat.le_refl _
 · have:=jf m I;omega
theorem nv.cmp{l:List eO}{S:List Nat}{b:Nat}(ag:nv l S b)(h0:¬b=0):∃m∈l,b=m.id/\∀d∈l,d.loose=true->(∀a∈l,a.born=d.born->a=d)->(d.used<m.used->nv l (S++[d.born]) d.id)/\(¬d.used<m.used->nv l (S++[d.born]) b):=by
 rcases ag with⟨h,_⟩|⟨m,I,ae,ax,rfl,aN⟩
 · exact absurd h h0
 · refine⟨m,I,rfl,λd hm ai hu=>⟨λcB=>?_,λcB=>?_⟩⟩
   · refine .inr ⟨d,hm,by simp,ai,rfl,λa aV al aA=>?_⟩
     rcases Bw al with h|h
     · have:=aN a aV h aA;omega
     · rw[hu a aV h];exact Nat.le_refl _
   · refine .inr ⟨m,I,by simp[ae],ax,rfl,λa aV al aA=>?_⟩
     rcases Bw al with h|h
     · exact aN a aV h aA
     · rw[hu a aV h];omega
abbrev uV(c b it:Nat):Env:=[(0,.ptr c 0),(1,aC b),(8,.ptr it 0)]
structure Bx(h:ab)(m clock:Nat)(S:List Nat)(g:ab):Prop where
 n:g.n=h.n+(1+32*S.length)
 low:∀b,b<h.n->g.get b=h.get b
 it:g.get h.n=some (.mapIter (some m) clock S clock)
theorem Yr{h g:ab}{b off:Nat}(e:g.get b=h.get b):aq g b off=aq h b off:=by unfold aq;rw[e]
structure Pj(h:ab)(c st m clock:Nat)(es:List eH)(l:List eO):Prop where
 ah:aq h c 0=some (.ptr st 0)
 cL:aq h st 3=some (.map m)
 hm:h.get m=some (.map es clock)
 hY:rY h es l
 ok:wY l clock=true
 Ys:c<h.n
 Yt:st<h.n
 nU:m<h.n
 Pk:∀d∈l,d.b<h.n
def EO(h:ab)(c m clock:Nat)(l:List eO)(n:Nat)(s:bL):Prop:=∃S b g,s=⟨uV c b h.n,[],.none,g⟩/\Bx h m clock S g/\nv l S b/\uU l S=n/\S.length+n=l.length
def yP(h:ab)(m clock:Nat)(l:List eO)(e:bW)(s:bL):Prop:=e=.exit 0/\∃b g S,s=⟨[(1,aC b)],[],.none,g⟩/\Bx h m clock S g/\nv l S b/\S.length=l.length/\∀d∈l,d.born∈S
theorem Yu{mn:aW}(og:kM an mn)(hdr:∀need b9,oT an need b9 mn){h:ab}{c st m clock:Nat}{es:List eH}{l:List eO}(w:Pj h c st m clock es l)(n:Nat)(s:bL)(al:EO h c m clock l n s):
  g5 an Tryz.f40 none [1,0,1,0,0] s (IG (EO h c m clock l) n (yP h m clock l)):=by
 obtain⟨S,b,g,rfl,ar,ag,IJ,ajI⟩:=al
 have Pl:=w.ok
 simp only[wY,Bool.and_eq_true] at Pl
 obtain⟨By,Yv,ajJ,eL⟩:=Pl
 have Pm:∀d∈l,d.born<clock/\0<d.id:=λd ai=>by
  have:=List.all_eq_true.1 eL d ai
  simpa using this
 have Yw:=Bu eO.id l Yv
 have Pn:=Bu eO.born l By
 have Yx:∀x∈es,∀e∈es,x.born=e.born->x=e:=by
  intro x aa e he ag
  obtain⟨Yy,Yz,YA⟩:=w.hY.ev x aa
  obtain⟨IK,YB,YC⟩:=w.hY.ev e he
  obtain⟨cu,cU,_,_,_,dm⟩:=wW YA
  obtain⟨bn,bo,_,_,_,c9⟩:=wW YC
  have:=Pn Yy Yz IK YB (by omega)
  subst this
  obtain⟨bG,v1,df⟩:=x
  obtain⟨b0,v2,db⟩:=e
  simp only at cu cU dm bn bo c9
  rw[cu,cU,dm,bn,bo,c9]
 have Po:¬m=h.n:=by have:=w.nU;omega
 have Ay:g.get m=some (.map es clock):=(ar.low m w.nU).trans w.hm
 refine g5.seq (p:=[1,0,1,0,0]) (R1:=λe s=>e=.nrm/\((s=⟨put 10 (.bool false) (uV c b h.n),[],.none,g⟩/\∀e∈es,e.born∈S)\/∃e∈es,e.born∉S/\s=⟨put 10 (.bool true) (uV c b h.n),[],.none,g.set h.n (some (.mapIter (some m) clock (S++[e.born]) clock))⟩)) (by kernel_rfl)
  (g5.next og (p:=[1,0,1,0,0,0]) (it:=8) (a:=9) (t:=10) (by kernel_rfl) (by kernel_rfl) (by kernel_rfl) (by kernel_rfl) (by kernel_rfl) rfl ar.it Ay (λe he=>by
   obtain⟨d,d1,d2⟩:=w.hY.ev e he
   obtain⟨_,_,_,_,_,dm⟩:=wW d2
   have:=(Pm d d1).1;omega) (Nat.le_refl _) (λeL=>⟨rfl,.inl ⟨rfl,eL⟩⟩) λe he ig=>⟨rfl,.inr ⟨e,he,ig,rfl⟩⟩) (λs' I=>?_) λe s' he I=>absurd I.1 he
 obtain⟨_,⟨rfl,jK⟩|⟨e,he,ig,rfl⟩⟩:=I
 · have Pp:∀d∈l,d.born∈S:=λd ai=>by
     obtain⟨e,he,DL⟩:=w.hY.Pg d ai
     obtain⟨_,_,_,_,_,dm⟩:=wW DL
     rw[<-dm];exact jK e he
   have h0:uU l S=0:=by
    unfold uU
    rw[List.length_eq_zero_iff,List.filter_eq_nil_iff]
    intro d ai
    simpa using Pp d ai
   have rx:a5 an Tryz.f40 none mn [1,0,1,0,0,1] ⟨[(0,.ptr c 0),(1,aC b),(8,.ptr h.n 0),(10,.bool false)],[],.none,g⟩ (.exit 0) ⟨uV c b h.n,[],.none,g⟩:=bp.run (yN mn c b h.n false g ⟨λh=>(by cases h),λ_=>⟨rfl,rfl⟩⟩)
   have YD:a5 an Tryz.f40 none mn [1,0,1,0,0,1] ⟨[(0,.ptr c 0),(1,aC b),(8,.ptr h.n 0),(10,.bool false)],[],.none,g⟩ (.exit 0) ⟨[(1,aC b)],[],.none,g⟩:=dA.post rx ⟨rfl,trivial⟩
   exact g5.pre (g5.of_run og hdr (by kernel_rfl) YD (.inr ⟨by simp,rfl,b,g,S,rfl,ar,ag,by omega,Pp⟩)) ⟨rfl,rfl,rfl,rfl,trivial⟩ rfl rfl rfl
 · obtain⟨d,d1,d2⟩:=w.hY.ev e he
   obtain⟨cu,cU,dm,e0,ey,s8⟩:=wW d2
   have yQ:=w.Pk d d1
   obtain⟨ak,eP⟩:∃ak,ak=g.set h.n (some (.mapIter (some m) clock (S++[e.born]) clock)):=⟨_,rfl⟩
   rw[<-eP]
   have pZ:∀b,b<h.n->ak.get b=h.get b:=λb ag=>by rw[eP,ab.dx,if_neg (by omega)];exact ar.low b ag
   have Pq:ak.get h.n=some (.mapIter (some m) clock (S++[e.born]) clock):=by rw[eP];exact eK rfl
   have DU:ak.get m=some (.map es clock):=(pZ m w.nU).trans w.hm
   have ev:vB ak (.ptr h.n 0)=some (.aR [aC d.id,.ptr d.b 0]):=by
    have GN:=Ph he (λx aa ag=>Yx x aa e he ag) rfl
    unfold vB
    simp only[Pq,DU,Yq,GN,cu,cU]
    rw[Nat.beq_refl]
   have aB:ak.n=g.n:=by rw[eP];rfl
   have fv:d.born∉S:=by rw[<-s8];exact ig
   have iq:=Yo By d1 fv
   have rZ:Bx h m clock (S++[d.born]) (ak.room 32):=⟨by rw[ab.N6,aB,ar.n,List.length_append];simp;omega,pZ,by rw[ab.Xc,Pq,s8]⟩
   have EP:∀a∈l,a.born=d.born->a=d:=λa aV e=>Pn a aV d d1 e
   have yR:∀(b off:Nat) (v:ad),b<h.n->aq h b off=some v->aq (ak.room 32) b off=some v:=λb off v ag aI=>(Yr (pZ b ag)).trans aI
   have Bz:=yR d.b 7 _ yQ dm
   have ER:=yR d.b 8 _ yQ e0
   have Pr:=yR d.b 9 _ yQ ey
   have Ps:=yR c 0 _ w.Ys w.ah
   have Pt:=yR st 3 _ w.Yt w.cL
   have fin:∀hP,nv l (S++[d.born]) hP->a5 an Tryz.f40 none mn [1,0,1,0,0,1] ⟨[(0,.ptr c 0),(1,aC b),(8,.ptr h.n 0),(10,.bool true)],[],.none,ak⟩ .nrm ⟨uV c hP h.n,[],.none,ak.room 32⟩->
     g5 an Tryz.f40 none [1,0,1,0,0,1] ⟨put 10 (.bool true) (uV c b h.n),[],.none,ak⟩ (IG (EO h c m clock l) n (yP h m clock l)):=λhP kK ao=>
    g5.pre (g5.of_run og hdr (by kernel_rfl) ao (.inl ⟨rfl,uU l (S++[d.born]),by omega,S++[d.born],hP,ak.room 32,rfl,rZ,kK,rfl,by rw[List.length_append];simp;omega⟩)) ⟨rfl,rfl,rfl,rfl,trivial⟩ rfl rfl rfl
   by_cases a0:d.pins=0
   · have IL:fc (Int.ofNat d.pins) (Int.ofNat 0)=true:=o2 a0
     by_cases aK:d.held=0
     · have qO:fc (Int.ofNat d.held) (Int.ofNat 0)=true:=o2 aK
       have r0:d.loose=true:=by unfold eO.loose;rw[a0,aK];rfl
       by_cases h0:b=0
       · have c2:fc (Int.ofNat b) (Int.ofNat 0)=true:=o2 h0
         exact fin d.id ((h0▸ag).first (λa aV=>(Pm a aV).2) d1 r0 EP) (bp.run (yN mn c b h.n true ak ⟨λ_=>⟨d.id,d.b,ev,d.pins,Bz,λ_=>⟨d.held,ER,λ_=>⟨λ_=>⟨rfl,rfl⟩,λh=>absurd h0 h⟩,λh=>absurd aK h⟩,λh=>absurd a0 h⟩,λh=>(by cases h)⟩))
       · have c2:fc (Int.ofNat b) (Int.ofNat 0)=false:=kS h0
         obtain⟨x,bF,cJ,dh⟩:=ag.cmp h0
         obtain⟨e1,m1⟩:=dh d d1 r0 EP
         obtain⟨ex,wZ,YE⟩:=w.hY.Pg x bF
         obtain⟨_,_,_,_,w0,_⟩:=wW YE
         have Pu:=yR x.b 9 _ (w.Pk x bF) w0
         have look:ho an (ak.room 32) 55 (.map m) (aC b) false=some (.ptr x.b 0):=by
          obtain⟨j,aO⟩:=Yp (h0:=ak.room 32) (kt:=32) w.hY Yw bF 0
          have hu:an.underlying 55=some (.map 32 59):=by kernel_rfl
          have ay:nL an 32 (aC b)=true:=by
           have rF:an.underlying 32=some (.int .u64):=by kernel_rfl
           simp only[nL,qi,rF]
          have YF:(ak.room 32).get m=some (.map es clock):=DU
          rw[cJ] at ay⊢
          simp only[ho,hu,ay,YF,aO,rl,Bool.false_eq_true,if_false]
         by_cases cB:d.used<x.used
         · have YG:=eD cB
           exact fin d.id (e1 cB) (bp.run (yN mn c b h.n true ak ⟨λ_=>⟨d.id,d.b,ev,d.pins,Bz,λ_=>⟨d.held,ER,λ_=>⟨λh=>absurd h h0,λ_=>⟨d.used,Pr,st,Ps,_,Pt,x.b,look,x.used,Pu,rfl,λ_=>⟨rfl,rfl⟩,λh=>absurd cB h⟩⟩,λh=>absurd aK h⟩,λh=>absurd a0 h⟩,λh=>(by cases h)⟩))
         · have YG:=fI cB
           exact fin b (m1 cB) (bp.run (yN mn c b h.n true ak ⟨λ_=>⟨d.id,d.b,ev,d.pins,Bz,λ_=>⟨d.held,ER,λ_=>⟨λh=>absurd h h0,λ_=>⟨d.used,Pr,st,Ps,_,Pt,x.b,look,x.used,Pu,rfl,λh=>absurd h cB,λ_=>⟨rfl,rfl⟩⟩⟩,λh=>absurd aK h⟩,λh=>absurd a0 h⟩,λh=>(by cases h)⟩))
     · have qO:fc (Int.ofNat d.held) (Int.ofNat 0)=false:=kS aK
       have r0:d.loose=false:=by
        unfold eO.loose
        cases ah:Nat.beq d.held 0 with
        |false=>simp
        |true=>exact absurd (Nat.eq_of_beq_eq_true ah) aK
       exact fin b (ag.no r0 EP) (bp.run (yN mn c b h.n true ak ⟨λ_=>⟨d.id,d.b,ev,d.pins,Bz,λ_=>⟨d.held,ER,λh=>absurd h aK,λ_=>⟨rfl,rfl⟩⟩,λh=>absurd a0 h⟩,λh=>(by cases h)⟩))
   · have IL:fc (Int.ofNat d.pins) (Int.ofNat 0)=false:=kS a0
     have r0:d.loose=false:=by
      unfold eO.loose
      cases ah:Nat.beq d.pins 0 with
      |false=>simp
      |true=>exact absurd (Nat.eq_of_beq_eq_true ah) a0
     exact fin b (ag.no r0 EP) (bp.run (yN mn c b h.n true ak ⟨λ_=>⟨d.id,d.b,ev,d.pins,Bz,λh=>absurd h a0,λ_=>⟨rfl,rfl⟩⟩,λh=>(by cases h)⟩))
theorem Pv(hf:Fit an):pN an yO:=by
 intro f args h v a6 aa μ wd vs au ar aI
 unfold yO at aa
 split at aa
 · rename_i c ES
   obtain rfl:=Nat.eq_of_beq_eq_true ES
   split at aa
   · rename_i st ah
     split at aa
     · rename_i m cL
       split at aa
       · rename_i es clock hm
         split at aa
         · rename_i l aA
           split at aa
           · rename_i Pw
             cases aa
             simp only[Bool.and_eq_true,Nat.blt_eq] at Pw
             obtain⟨di,qu,YH,Po,oM⟩:=Pw
             have w:Pj h c st m clock es l:=⟨ah,cL,hm,Pf aA,di,qu,YH,Po,λd ai=>by
              have:=List.all_eq_true.1 oM d ai
              simpa using this⟩
             have og:kM an (fF an (λ_ _ _=>none) 0):=Hz hf (Wq _) 0
             have hdr:∀need b9,oT an need b9 (fF an (λ_ _ _=>none) 0):=λneed b9=>NU hf.mixed og need b9
             obtain⟨mn,YI⟩:∃mn,mn=fF an (λ_ _ _=>none) 0:=⟨_,rfl⟩
             rw[<-YI] at og hdr
             have YJ:∀g,Bx h m clock [] g->g5 an Tryz.f40 none [1,0,1] ⟨uV c 0 h.n,[],.none,g⟩ (λe s=>e=.nrm/\yP h m clock l (.exit 0) s):=λg ar=>
              g5.block (p:=[1,0,1]) (id:=0) (R1:=yP h m clock l) (by kernel_rfl)
               (g5.loop (p:=[1,0,1,0]) (EO h c m clock l) (by kernel_rfl) (λn s al=>Yu og hdr w n s al) l.length ⟨[],0,g,rfl,ar,.inl ⟨rfl,λd _ al=>(by cases al)⟩,by unfold uU;simp,by simp⟩)
               λe s al=>by obtain⟨rfl,al⟩:=al;exact⟨rfl,rfl,al⟩
             have BA:Bx h m clock [] (h.push (.mapIter (some m) clock [] clock)):=⟨rfl,λb ag=>nn ag rfl,e7 rfl⟩
             have YK:=bp.run (Yl mn c m h ⟨st,ah,cL,h.n,(h.push (.mapIter (some m) clock [] clock)),by simp only[D8,hm],rfl,rfl⟩)
             have x7:g5 an Tryz.f40 none [] ⟨n6 0 [.ptr c 0],[],.none,h⟩ (λe s=>e=.ret/\yP h m clock l (.exit 0) s):=
              g5.seq (p:=[]) (R1:=λe s=>e=.nrm/\s=⟨[(0,.ptr c 0),(1,aC 0)],[],.none,h⟩) (by kernel_rfl) (g5.of_run og hdr (by kernel_rfl) (bp.run (Ym mn c h ⟨rfl,rfl⟩)) ⟨rfl,rfl⟩)
               (λs al=>by
                obtain⟨_,rfl⟩:=al
                refine g5.seq (p:=[1]) (R1:=λe s=>e=.nrm/\yP h m clock l (.exit 0) s) (by kernel_rfl)
                 (g5.seq (p:=[1,0]) (R1:=λe s=>e=.nrm/\s=⟨uV c 0 h.n,[],.none,h.push (.mapIter (some m) clock [] clock)⟩) (by kernel_rfl) (g5.of_run og hdr (by kernel_rfl) YK ⟨rfl,rfl⟩)
                  (λs al=>by obtain⟨_,rfl⟩:=al;exact YJ _ BA) λe s he al=>absurd al.1 he)
                 (λs al=>?_) λe s he al=>absurd al.1 he
                obtain⟨_,I⟩:=al
                obtain⟨_,b,g,S,rfl,ae⟩:=I
                exact g5.of_run og hdr (by kernel_rfl) (bp.run (Yn mn b g ⟨rfl,rfl⟩)) ⟨rfl,rfl,b,g,S,rfl,ae⟩)
               λe s he al=>absurd al.1 he
             refine Yg (args:=[.ptr c 0]) og hdr hf.code Tryz.func40 (c:=fD Tryz.f40) rfl (show 1<=Tryz.f40.ntmps from of_decide_eq_true (by kernel_rfl)) ?_ au ar aI
             have fh:=x7 (pz 0 [.ptr c 0] .leaf) (Em _)
             refine kg.mono fh λe r' d' br g ⟨cD,a3,he,_,b,e6,S,al,nX,ta,hlen,jK⟩=>?_
             obtain⟨rfl,rfl,rfl,rfl⟩:cD=[(1,aC b)]/\d'=[]/\br=.none/\g=e6:=by injection al with a8 a2 bX eG;exact⟨a8,a2,bX,eG⟩
             have Bc:=ta.fin di jK
             subst Bc
             refine⟨.inr he,rfl,rfl,H0 a3 (by kernel_rfl),by rw[ab.N6,nX.n,hlen],λb=>?_⟩
             by_cases ag:b<h.n
             · exact .inl (nX.low b ag).symm
             · exact .inr ⟨au.bound b (by omega),by omega⟩
           · cases aa
         · cases aa
       · cases aa
     · cases aa
   · cases aa
 · cases aa
end Go.Proofs.kU
namespace Go.Proofs.kh
open Go bg Go.Proofs
variable {Q:bW->bL->Prop} {R:bE->Prop} (call:aW)
abbrev YL:Nat->List ad->ab->Option (ad×ab):=Go.Proofs.kU.yO
end Go.Proofs.kh
namespace ir
open bg
variable {Q:bW->bL->Prop} {R:bE->Prop} (call:aW)
abbrev bb:=List UInt8
inductive aJ where
 |mk (k:Nat) (nm:bb) (ns:List bb) (xs:List aJ) (rt:Option aJ)
def aJ.k:aJ->Nat|.mk k _ _ _ _=>k
def aJ.nm:aJ->bb|.mk _ nm _ _ _=>nm
def aJ.xs:aJ->List aJ|.mk _ _ _ xs _=>xs
mutual
def sz:aJ->Nat
 |.mk _ _ _ xs rt=>1+dH xs+dk rt
def dH:List aJ->Nat
 |[]=>0
 |t::cF=>sz t+dH cF
def dk:Option aJ->Nat
 |none=>0
 |some t=>sz t
end
def ki:List bb->List bb->Bool
 |[],[]=>true
 |x::xs,y::ys=>c1 x y&&ki xs ys
 |_,_=>false
mutual
def w1:aJ->aJ->Bool
 |.mk k nm ns xs rt,.mk cO nw oh m2 nx=>Nat.beq k cO&&(c1 nm nw&&(ki ns oh&&(kj xs m2&&h6 rt nx)))
def kj:List aJ->List aJ->Bool
 |[],[]=>true
 |x::xs,y::ys=>w1 x y&&kj xs ys
 |_,_=>false
def h6:Option aJ->Option aJ->Bool
 |none,none=>true
 |some x,some y=>w1 x y
 |_,_=>false
end
theorem l3(k:Nat)(nm:bb)(ns:List bb)(xs:List aJ)(rt:Option aJ):sz (.mk k nm ns xs rt)=1+dH xs+dk rt:=by rw[sz]
theorem jk(t:aJ):dk (some t)=sz t:=by rw[dk]
theorem p0:∀t:aJ,0<sz t
 |.mk _ _ _ _ _=>by unfold sz;omega
theorem p1{t:aJ}:∀{l:List aJ},t∈l->sz t<=dH l
 |[],h=>by cases h
 |x::l,h=>by
  unfold dH
  rcases List.mem_cons.1 h with rfl|h
  · omega
  · have:=p1 h;omega
theorem mo:∀l:List aJ,l.length<=dH l
 |[]=>Nat.le_refl _
 |x::l=>by
  have:=mo l
  have:=p0 x
  unfold dH
  simp;omega
mutual
def iE:aJ->Nat
 |.mk _ _ ns xs rt=>ns.length+p2 xs+m3 rt
def p2:List aJ->Nat
 |[]=>0
 |t::cF=>iE t+p2 cF
def m3:Option aJ->Nat
 |none=>0
 |some t=>iE t
end
theorem yS{t:aJ}:∀{l:List aJ},t∈l->iE t<=p2 l
 |[],h=>by cases h
 |x::l,h=>by
  rw[p2]
  rcases List.mem_cons.1 h with rfl|h
  · omega
  · have:=yS h;omega
def iF(n:Nat):Bool:=(decide (97<=n)&&decide (n<=122))||((decide (65<=n)&&decide (n<=90))||decide (n=95))
def kC(n:Nat):Bool:=decide (48<=n)&&decide (n<=57)
def lF(n:Nat):Bool:=iF n||kC n||decide (n=45)||decide (n=47)||decide (n=46)
def IM:bb->Bool
 |[]=>false
 |c::_=>iF c.toNat
def jl(s:bb):Bool:=decide (1<=s.length)&&decide (s.length<=24)&&IM s&&s.all (λc=>iF c.toNat||kC c.toNat)
def ny(s:bb):Bool:=decide (1<=s.length)&&decide (s.length<=161)&&s.all (λc=>lF c.toNat)
theorem BB(x y:UInt8)(a b:bb):eA (x::a) (y::b)=if x.toNat=y.toNat then eA a b else decide (x.toNat<y.toNat):=by
 by_cases h:x.toNat=y.toNat
 · rw[if_pos h];simp only[eA,h,Nat.beq_refl]
 · rw[if_neg h]
   have ag:Nat.beq x.toNat y.toNat=false:=by
    cases aa:Nat.beq x.toNat y.toNat with
    |false=>rfl
    |true=>exact absurd (Nat.eq_of_beq_eq_true aa) h
   simp only[eA,ag]
   exact Bool.eq_iff_iff.2 (by rw[Nat.blt_eq];simp)
def qP:bb:=(List.range 26).map (λi=>UInt8.ofNat (97+i))++(List.range 26).map (λi=>UInt8.ofNat (65+i))++(List.range 10).map (λi=>UInt8.ofNat (48+i))++[95]
def r3(n:Nat):Bool:=iF n||kC n
def l4(p:Nat->Bool):List ad:=(List.range 256).map λn=>.bool (p n)
def eR(sep:bb):List bb->bb
 |[]=>[]
 |x::l=>x++l.flatMap (λy=>sep++y)
theorem YM(sep:bb):∀(l:List bb) (y:bb),l≠[]->eR sep (l++[y])=eR sep l++sep++y
 |[],y,h=>absurd rfl h
 |x::l,y,_=>by
  show x++(l++[y]).flatMap _=x++l.flatMap _++sep++y
  rw[List.flatMap_append]
  simp
theorem YN(sep y:bb):eR sep ([]++[y])=y:=by simp[eR]
theorem w2(sep:bb)(l:List bb){i:Nat}(h:i<l.length):eR sep (l.take (i+1))=if 0<i then eR sep (l.take i)++sep++l[i] else l[i]:=by
 rw[List.take_succ_eq_append_getElem h]
 by_cases h0:0<i
 · rw[if_pos h0,YM]
   intro e
   have aA:(l.take i).length=i:=by rw[List.length_take];omega
   rw[e] at aA
   simp at aA
   omega
 · rw[if_neg h0]
   obtain rfl:i=0:=by omega
   exact YN sep _
theorem BC(sep:bb)(l:List bb):∀(i:Nat),(eR sep (l.take i)).length<=(eR sep l).length:=by
 intro i
 cases l with
 |nil=>simp
 |cons x l=>
  cases i with
  |zero=>simp[eR]
  |succ i=>
   show(x++(l.take i).flatMap _).length<=(x++l.flatMap _).length
   have e:l.flatMap (λy=>sep++y)=(l.take i).flatMap (λy=>sep++y)++(l.drop i).flatMap (λy=>sep++y):=by
    rw[<-List.flatMap_append,List.take_append_drop]
   rw[e]
   simp only[List.length_append]
   omega
theorem w3(sep:bb)(l:List bb){i:Nat}(h:i<l.length):l[i].length<=(eR sep l).length:=by
 have I:=BC sep l (i+1)
 rw[w2 sep l h] at I
 split at I
 · simp at I;omega
 · exact I
def word:Nat->bb
 |1=>[97,110,121]
 |2=>[105,110,116]
 |3=>[98,111,111,108]
 |4=>[115,116,114]
 |5=>[110,105,108]
 |_=>[]
def h7(ns ws:List bb):List bb:=List.zipWith (λn w=>n++[58,32]++w) ns ws
def iU(fr:List Nat)(ws:List bb):List bb:=List.zipWith (λk w=>if k=8 then[40]++w++[41] else w) fr ws
def shape(k:Nat)(nm:bb)(ns:List bb)(fr:List Nat)(ws:List bb)(r:bb):bb:=
 if k=6 then nm else if k=7 then[123]++eR [44,32] (h7 ns ws)++[125] else if k=8 then[102,110,40]++eR [44,32] ws++[41,32,45,62,32]++r
 else if k=9 then eR [32,124,32] (iU fr ws) else word k
mutual
def wr:aJ->bb
 |.mk k nm ns xs rt=>shape k nm ns (xs.map aJ.k) (cM xs) (mq rt)
def cM:List aJ->List bb
 |[]=>[]
 |t::cF=>wr t::cM cF
def mq:Option aJ->bb
 |none=>[]
 |some t=>wr t
end
mutual
def okW:aJ->Bool
 |.mk k nm ns xs rt=>decide (1<=k)&&decide (k<=9)&&(decide (k≠7)||decide (xs.length=ns.length))&&(decide (k≠8)||rt.isSome)&&w4 xs&&BD rt
def w4:List aJ->Bool
 |[]=>true
 |t::cF=>okW t&&w4 cF
def BD:Option aJ->Bool
 |none=>true
 |some t=>okW t
end
theorem yT:∀l:List aJ,(cM l).length=l.length
 |[]=>by rw[cM];rfl
 |x::l=>by rw[cM];simp[yT l]
theorem yU:∀(l:List aJ) (i:Nat) (h:i<l.length) (aw:i<(cM l).length),(cM l)[i]=wr l[i]
 |[],i,h,_=>by simp at h
 |x::l,0,_,_=>by simp only[cM];rfl
 |x::l,i+1,h,aw=>by
  have:=yU l i (by simpa using h) (by rw[yT];simpa using h)
  simpa only[cM,List.getElem_cons_succ] using this
theorem Px{t:aJ}:∀{l:List aJ},w4 l=true->t∈l->okW t=true
 |[],_,h=>by cases h
 |x::l,aA,h=>by
  rw[w4,Bool.and_eq_true] at aA
  rcases List.mem_cons.1 h with rfl|h
  · exact aA.1
  · exact Px aA.2 h
def oi(p:Option bb)(x:bb):Bool:=match p with
 |none=>true
 |some q=>eA q x
def lg(p:Option bb):List bb->Bool
 |[]=>true
 |x::l=>jl x&&(oi p x&&lg (some x) l)
def mr(p:Option bb):List Nat->List bb->Bool
 |k::fr,w::ws=>(decide (k≠9)&&decide (k≠1))&&(oi p w&&mr (some w) fr ws)
 |_,_=>true
def oj(l:List bb):Nat->Option bb
 |0=>none
 |i+1=>l[i]?
theorem Py{s:bb}(h:jl s=true):s.length<=24:=by
 unfold jl at h
 simp only[Bool.and_eq_true,decide_eq_true_eq] at h
 exact h.1.1.2
def jm(k:Nat)(s:bb)(N M:Nat)(o:Bool):Bool:=(!((!c1 s []) !=decide (k=6)))&&(!(decide (0<N)&&decide (k≠7)))&&(!(decide (0<M)&&decide (k<7)))&&(!(o !=decide (k=8)))
def fK(k:Nat)(nm:bb)(ns:List bb)(fr:List Nat)(ws:List bb)(n:Nat)(r:Bool):Bool:=
 if k=6 then ny nm else if k=7 then decide (ns.length=n)&&lg none ns else if k=8 then r else if k=9 then mr none fr ws&&decide (2<=n) else true
mutual
def eW:aJ->Bool
 |.mk k nm ns xs rt=>(decide (1<=k)&&decide (k<=9))&&(jm k nm ns.length xs.length rt.isSome&&(iG xs&&fK k nm ns (xs.map aJ.k) (cM xs) xs.length (jV rt)))
def iG:List aJ->Bool
 |[]=>true
 |t::cF=>eW t&&iG cF
def jV:Option aJ->Bool
 |none=>false
 |some t=>eW t
end
theorem BE{t:aJ}:∀{l:List aJ},iG l=true->t∈l->eW t=true
 |[],_,h=>by cases h
 |x::l,aA,h=>by
  rw[iG,Bool.and_eq_true] at aA
  rcases List.mem_cons.1 h with rfl|h
  · exact aA.1
  · exact BE aA.2 h
theorem o_(k:Nat)(nm:bb)(ns:List bb)(xs:List aJ)(rt:Option aJ):eW (.mk k nm ns xs rt)=((decide (1<=k)&&decide (k<=9))&&(jm k nm ns.length xs.length rt.isSome&&(iG xs&&fK k nm ns (xs.map aJ.k) (cM xs) xs.length (jV rt)))):=by rw[eW]
mutual
theorem BF:∀t:aJ,eW t=true->okW t=true
 |.mk k nm ns xs rt,h=>by
  rw[o_] at h
  simp only[Bool.and_eq_true,decide_eq_true_eq] at h
  obtain⟨⟨bG,kk⟩,a0,aa,ay⟩:=h
  have lE:=Pz xs aa
  have PA:rt.isSome=decide (k=8):=by
   unfold jm at a0
   simp only[Bool.and_eq_true] at a0
   have:=a0.2
   revert this
   cases rt.isSome<;>cases ai:decide (k=8)<;>simp
  have bc:BD rt=true:=by
   cases rt with
   |none=>rw[BD]
   |some u=>
    have IN:k=8:=by simpa using PA.symm
    subst IN
    have hu:eW u=true:=by simpa[fK,jV] using ay
    rw[BD]
    exact BF u hu
  rw[okW]
  simp only[Bool.and_eq_true,Bool.or_eq_true,decide_eq_true_eq]
  refine⟨⟨⟨⟨⟨bG,kk⟩,?_⟩,?_⟩,lE⟩,bc⟩
  · by_cases e:k=7
    · subst e
      right
      have:ns.length=xs.length/\lg none ns=true:=by simpa[fK] using ay
      exact this.1.symm
    · exact .inl e
  · by_cases e:k=8
    · right;rw[PA];simp[e]
    · exact .inl e
theorem Pz:∀l:List aJ,iG l=true->w4 l=true
 |[],_=>by rw[w4]
 |t::l,h=>by
  rw[iG,Bool.and_eq_true] at h
  rw[w4,BF t h.1,Pz l h.2];rfl
end
def gI(c:Nat):List bb->Nat
 |[]=>0
 |x::l=>x.length+c+gI c l
theorem PB(sep:bb):∀l:List bb,(l.flatMap (λy=>sep++y)).length=gI sep.length l
 |[]=>rfl
 |x::l=>by
  rw[List.flatMap_cons,List.length_append,PB sep l,List.length_append,gI]
  omega
theorem ET(sep:bb):∀l:List bb,(eR sep l).length<=gI sep.length l
 |[]=>Nat.le_refl _
 |x::l=>by
  show(x++l.flatMap _).length<=_
  rw[List.length_append,PB,gI]
  omega
theorem IP:∀(p:Option bb) (ns:List bb),lg p ns=true->∀n∈ns,n.length<=24
 |_,[],_,n,aH=>by cases aH
 |p,x::l,h,n,aH=>by
  rw[lg,Bool.and_eq_true,Bool.and_eq_true] at h
  rcases List.mem_cons.1 aH with rfl|aH
  · exact Py h.1
  · exact IP (some x) l h.2.2 n aH
def BG:List aJ->Prop
 |[]=>True
 |t::l=>(wr t).length+30<=300*sz t/\BG l
theorem PC:∀xs:List aJ,BG xs->gI 2 (cM xs)<=300*dH xs
 |[],_=>by rw[cM,gI];omega
 |t::l,h=>by
  have I:=h.1
  have:=PC l h.2
  rw[cM,gI,dH];omega
theorem PD:∀(ns:List bb) (xs:List aJ),BG xs->(∀n∈ns,n.length<=24)->gI 2 (h7 ns (cM xs))<=300*dH xs
 |[],xs,_,_=>by simp[h7,gI]
 |n::ns,[],_,_=>by simp[h7,cM,gI]
 |n::ns,t::l,h,aH=>by
  have I:=h.1
  have ae:=aH n (by simp)
  have:=PD ns l h.2 (λm hm=>aH m (by simp[hm]))
  unfold h7 at this⊢
  rw[cM,List.zipWith_cons_cons,gI,dH]
  simp only[List.length_append,List.length_cons,List.length_nil]
  omega
theorem PE:∀(xs:List aJ),BG xs->gI 3 (iU (xs.map aJ.k) (cM xs))<=300*dH xs
 |[],_=>by simp[iU,cM,gI]
 |t::l,h=>by
  have I:=h.1
  have:=PE l h.2
  unfold iU at this⊢
  rw[List.map_cons,cM,List.zipWith_cons_cons,gI,dH]
  split
  · simp only[List.length_append,List.length_cons,List.length_nil]
    omega
  · omega
mutual
theorem yV:∀t:aJ,eW t=true->(wr t).length+30<=300*sz t
 |.mk k nm ns xs rt,h=>by
  rw[o_] at h
  simp only[Bool.and_eq_true,decide_eq_true_eq] at h
  obtain⟨⟨bG,kk⟩,a0,aa,ay⟩:=h
  have al:=PF xs aa
  rw[wr,l3]
  unfold shape
  split
  · rename_i e
    subst e
    have:ny nm=true:=by simpa[fK] using ay
    unfold ny at this
    simp only[Bool.and_eq_true,decide_eq_true_eq] at this
    omega
  split
  · rename_i e
    subst e
    have hf:ns.length=xs.length/\lg none ns=true:=by simpa[fK] using ay
    have bn:=PD ns xs al (IP none ns hf.2)
    have bo:(eR [44,32] (h7 ns (cM xs))).length<=gI 2 (h7 ns (cM xs)):=ET [44,32] _
    simp only[List.length_append,List.length_cons,List.length_nil]
    omega
  split
  · rename_i e
    subst e
    have bn:=PC xs al
    have bo:(eR [44,32] (cM xs)).length<=gI 2 (cM xs):=ET [44,32] _
    have ao:(mq rt).length<=300*dk rt:=by
     cases rt with
     |none=>rw[mq];simp
     |some u=>
      have hu:eW u=true:=by simpa[fK,jV] using ay
      have:=yV u hu
      rw[mq,jk];omega
    simp only[List.length_append,List.length_cons,List.length_nil]
    omega
  split
  · have bn:=PE xs al
    have bo:(eR [32,124,32] (iU (xs.map aJ.k) (cM xs))).length<=gI 3 (iU (xs.map aJ.k) (cM xs)):=ET [32,124,32] _
    omega
  · have:(word k).length<=4:=by
      unfold word;split<;>simp
    omega
theorem PF:∀l:List aJ,iG l=true->BG l
 |[],_=>trivial
 |t::l,h=>by
  rw[iG,Bool.and_eq_true] at h
  exact⟨yV t h.1,PF l h.2⟩
end
theorem YO(u:aJ)(h:eW u=true):okW u=true/\(wr u).length<=300*sz u:=⟨BF u h,by have:=yV u h;omega⟩
end ir
namespace Go.Proofs.kh
open Go bg Go.Proofs ir
variable {Q:bW->bL->Prop} {R:bE->Prop} (call:aW)
def c5(B:Nat)(h:ab)(v:ad)(vs:List ad):Prop:=(v=.aP/\vs=[])\/∃b off cp,v=.slice b off vs.length cp/\b<B/\(∀i (hi:i<vs.length),aq h b (off+i*1)=some vs[i])/\0<vs.length/\cp≠ .dead
mutual
def dP(B:Nat)(h:ab):aJ->ad->Prop
 |.mk k nm ns xs rt,v=>∃r bA aU cY vs bq lo up,v=.ptr r 0/\r<B/\h.get r=some (.cells [J k,.str nm,bA,aU,cY] 80 bq lo up)/\c5 B h bA (ns.map .str)/\c5 B h aU vs/\dZ B h xs vs/\d_ B h rt cY
def dZ(B:Nat)(h:ab):List aJ->List ad->Prop
 |[],vs=>vs=[]
 |t::cF,vs=>∃v ws,vs=v::ws/\dP B h t v/\dZ B h cF ws
def d_(B:Nat)(h:ab):Option aJ->ad->Prop
 |none,v=>v=.aX
 |some t,v=>dP B h t v
end
def hk(B:Nat)(h g:ab):Prop:=∀b,b<B->g.get b=h.get b
theorem hk.ext{B C:Nat}{h g:ab}(e:Ext C h g)(dd:B<=C):hk B h g:=λb ag=>e.get b (by omega)
theorem c5.bB{B:Nat}{h g:ab}{v:ad}{vs:List ad}(e:hk B h g)(al:c5 B h v vs):c5 B g v vs:=by
 rcases al with al|⟨b,off,cp,I,ae,ax,aN⟩
 · exact .inl al
 · refine .inr ⟨b,off,cp,I,ae,λi hi=>?_,aN⟩
   rw[<-ax i hi]
   unfold aq
   rw[e b ae]
theorem c5.le{B C:Nat}{h:ab}{v:ad}{vs:List ad}(e:B<=C)(al:c5 B h v vs):c5 C h v vs:=by
 rcases al with al|⟨b,off,cp,I,ae,ax,aN⟩
 · exact .inl al
 · exact .inr ⟨b,off,cp,I,by omega,ax,aN⟩
mutual
theorem dP.bB{B:Nat}{h g:ab}(e:hk B h g):∀(t:aJ) (v:ad),dP B h t v->dP B g t v
 |.mk k nm ns xs rt,v,aa=>by
  obtain⟨r,bA,aU,cY,vs,bq,lo,up,I,ae,ax,aN,bS,cz,dw⟩:=aa
  exact⟨r,bA,aU,cY,vs,bq,lo,up,I,ae,(e r ae).trans ax,aN.bB e,bS.bB e,dZ.bB e xs vs cz,d_.bB e rt cY dw⟩
theorem dZ.bB{B:Nat}{h g:ab}(e:hk B h g):∀(cF:List aJ) (vs:List ad),dZ B h cF vs->dZ B g cF vs
 |[],vs,aa=>aa
 |t::cF,vs,aa=>by
  obtain⟨v,ws,I,ae,ax⟩:=aa
  exact⟨v,ws,I,dP.bB e t v ae,dZ.bB e cF ws ax⟩
theorem d_.bB{B:Nat}{h g:ab}(e:hk B h g):∀(t:Option aJ) (v:ad),d_ B h t v->d_ B g t v
 |none,v,aa=>aa
 |some t,v,aa=>dP.bB e t v aa
end
mutual
theorem dP.le{B C:Nat}{h:ab}(e:B<=C):∀(t:aJ) (v:ad),dP B h t v->dP C h t v
 |.mk k nm ns xs rt,v,aa=>by
  obtain⟨r,bA,aU,cY,vs,bq,lo,up,I,ae,ax,aN,bS,cz,dw⟩:=aa
  exact⟨r,bA,aU,cY,vs,bq,lo,up,I,by omega,ax,aN.le e,bS.le e,dZ.le e xs vs cz,d_.le e rt cY dw⟩
theorem dZ.le{B C:Nat}{h:ab}(e:B<=C):∀(cF:List aJ) (vs:List ad),dZ B h cF vs->dZ C h cF vs
 |[],vs,aa=>aa
 |t::cF,vs,aa=>by
  obtain⟨v,ws,I,ae,ax⟩:=aa
  exact⟨v,ws,I,dP.le e t v ae,dZ.le e cF ws ax⟩
theorem d_.le{B C:Nat}{h:ab}(e:B<=C):∀(t:Option aJ) (v:ad),d_ B h t v->d_ C h t v
 |none,v,aa=>aa
 |some t,v,aa=>dP.le e t v aa
end
theorem dZ.len{B:Nat}{h:ab}:∀{cF:List aJ} {vs:List ad},dZ B h cF vs->vs.length=cF.length
 |[],vs,aa=>by
  have e:vs=[]:=aa
  subst e;rfl
 |s::cF,vs,aa=>by
  obtain⟨u,ws,rfl,ae,ax⟩:=aa
  simp[dZ.len ax]
theorem dZ.get{B:Nat}{h:ab}:∀{cF:List aJ} {vs:List ad},dZ B h cF vs->∀i (I:i<vs.length) (ae:i<cF.length),dP B h cF[i] vs[i]
 |[],vs,aa,i,I,ae=>by simp at ae
 |s::cF,vs,aa,i,I,ae=>by
  obtain⟨u,ws,rfl,ax,aN⟩:=aa
  cases i with
  |zero=>exact ax
  |succ i=>exact dZ.get aN i (by simpa using I) (by simpa using ae)
theorem c5.snd{B:Nat}{h:ab}{v:ad}{vs:List ad}(al:c5 B h v vs):ad.sound v=true:=by
 rcases al with⟨rfl,_⟩|⟨b,off,cp,rfl,_⟩<;>rfl
theorem c5.len{B:Nat}{h g:ab}{v:ad}{vs:List ad}{t e:TypeId}(hu:an.underlying t=some (.slice e))(al:c5 B h v vs):bV an g t v=some (J vs.length):=by
 rcases al with⟨rfl,rfl⟩|⟨b,off,cp,rfl,_⟩
 · simp only[bV,hu];rfl
 · simp only[bV,hu]
theorem d_.uW{B:Nat}{h:ab}{ot:Option aJ}{v:ad}(aI:d_ B h ot v):v=.aX\/∃R,v=.ptr R 0:=by
 cases ot with
 |none=>exact .inl aI
 |some u=>
  cases u with
  |mk k nm ns ys rt=>obtain⟨r,bA,aU,_,vs,bq,lo,up,rfl,_⟩:=aI;exact .inr ⟨r,rfl⟩
theorem d_.snd{B:Nat}{h:ab}{ot:Option aJ}{v:ad}(aI:d_ B h ot v):ad.sound v=true:=by
 rcases aI.uW with rfl|⟨R,rfl⟩<;>rfl
theorem dP.snd{B:Nat}{h:ab}{t:aJ}{v:ad}(aI:dP B h t v):ad.sound v=true:=d_.snd (ot:=some t) aI
theorem p3{p:Prop}(h:p:=by first|with_reducible assumption|rfl|exact c5.snd (by with_reducible assumption)|exact c5.fL (by with_reducible assumption)|exact d_.snd (by with_reducible assumption)|exact d_.fL (by with_reducible assumption)|exact dP.snd (by with_reducible assumption)|exact dP.fL (by with_reducible assumption)):p:=h
noncomputable def ea:Nat->List ad->ab->Option (ad×ab):=ID (sV [⟨15,[],.bool true⟩,⟨106,[.str qP],.aR [.agg (l4 r3),.bool true]⟩,⟨106,[.str (qP++[45,47,46])],.aR [.agg (l4 lF),.bool true]⟩]) YL
noncomputable def Y(n:Nat):aW:=fF an ea n
theorem YP(n:Nat)(h:ab):
  a5 an Tryz.f80 none call [] (aj [(0,.aX),(1,J n)] h) (.ret)
   (aj [(4,J n)] h):=
 bN [4] (.v (.bool true)::cv 4 15 []) 16 5 131072 (hR (by kernel_rfl:ec an h BinOp.eql 35 (Operand.tmp 6) (Operand.const (Value.pointer none)) ad.aX ad.aX=some (ad.bool true)) bM)
theorem PG(r n:Nat)(h:ab):
  a5 an Tryz.f80 none call [0] (aj [(0,af r),(1,J n)] h) (.nrm)
   (aj [(0,af r),(1,J n)] h):=
 bN [0,1] [] 16 0 0 bM
theorem YQ(r n:Nat)(h:ab)
  (H1:cE 60 n=true):
  a5 an Tryz.f80 none call [1,0] (aj [(0,af r),(1,J n)] h) (.ret)
   (aj [(0,af r),(1,J n),(4,J n)] h):=
 bN [0,1,4] (.v (.bool false)::cv 4 1 []) 16 5 135443 (ji (by kernel_rfl:ec an h BinOp.eql 35 (Operand.tmp 6) (Operand.const (Value.pointer none)) (ad.ptr r 0) ad.aX=some (ad.bool false)) H1 bM)
theorem YR(r n:Nat)(h:ab)
  (H1:cE 60 n=false):
  a5 an Tryz.f80 none call [1,0] (aj [(0,af r),(1,J n)] h) (.nrm)
   (aj [(0,af r),(1,J n)] h):=
 bN [0,1,4] (.v (.bool false)::cv 4 0 []) 16 5 135443 (ji (by kernel_rfl:ec an h BinOp.eql 35 (Operand.tmp 6) (Operand.const (Value.pointer none)) (ad.ptr r 0) ad.aX=some (ad.bool false)) H1 bM)
theorem YS(r n k:Nat)(h:ab)
  (H1:arith .add .i64 (.ofNat n) (.ofNat 1)=some (J k)):
  a5 an Tryz.f80 none call [1,1,0] (aj [(0,af r),(1,J n)] h) (.nrm)
   (aj [(0,af r),(1,J k)] h):=
 bN [0,1] [.v (J k)] 16 1 2 (hR H1 bM)
theorem YT(r n:Nat)(h:ab):
  a5 an Tryz.f80 none call [1,1,1,0,0] (aj [(0,af r),(1,J n)] h) (.nrm)
   (aj [(0,af r),(1,J n),(5,J 0)] h):=
 bN [0,1,5] [] 16 0 0 bM
theorem YU(r n:Nat)(h:ab)
  (H1:aq h r (0+3)=some .aP):
  a5 an Tryz.f80 none call [1,1,1,0,1,0,0] (aj [(0,af r),(1,J n),(5,J 0)] h) (.exit 0)
   (aj [(0,af r),(1,J n)] h):=
 bN [0,1] (.v .aP::cv 4 0 []) 16 5 144177 (ji H1 (by kernel_rfl:cE 0 0=false) bM)
theorem YV(r n b off N i q k j:Nat)(cp:ct)(x:ad)(h g:ab)
  (H1:aq h r (0+3)=some (.slice b off N cp))
  (bh:cE i N=true)
  (bD:jU n 60=true)
  (cm:Nat.le (Nat.succ i) N/\ad.ptr b q=ad.ptr b (off+i*1))
  (cS:aq h b q=some x)
  (dT:call (.fn 80) [x,J n] h=bE.ret (J k) g)
  (eS:arith .add .i64 (.ofNat i) (.ofNat 1)=some (J j)):
  a5 an Tryz.f80 none call [1,1,1,0,1,0,0] (aj [(0,af r),(1,J n),(5,J i)] h) (.nrm)
   (aj [(0,af r),(1,J k),(5,J j)] g):=
 bN [0,1,5] (.v (.slice b off N cp)::cv 4 15 [.v (.slice b off N cp),.v (.ptr b q),.v x,.c (J k) g,.v (J j)]) 16 10 151183840888 (s5 H1 bh bD cm cS dT eS bM)
theorem YW(r n b off N i q k j:Nat)(cp:ct)(x:ad)(h g:ab)
  (H1:aq h r (0+3)=some (.slice b off N cp))
  (bh:cE i N=true)
  (bD:jU n 60=false):
  a5 an Tryz.f80 none call [1,1,1,0,1,0,0] (aj [(0,af r),(1,J n),(5,J i)] h) (.exit 0)
   (aj [(0,af r),(1,J n),(5,J i)] h):=
 bN [0,1,5] (.v (.slice b off N cp)::cv 4 14 []) 16 5 144180 (kd H1 bh bD bM)
theorem YX(r n b off N i q k j:Nat)(cp:ct)(x:ad)(h g:ab)
  (H1:aq h r (0+3)=some (.slice b off N cp))
  (bh:cE i N=false):
  a5 an Tryz.f80 none call [1,1,1,0,1,0,0] (aj [(0,af r),(1,J n),(5,J i)] h) (.exit 0)
   (aj [(0,af r),(1,J n),(5,J i)] h):=
 bN [0,1,5] (.v (.slice b off N cp)::cv 4 0 []) 16 5 144177 (ji H1 bh bM)
theorem YY(r n k:Nat)(x:ad)(h g:ab)
  (H1:aq h r (0+4)=some x)
  (bh:call (.fn 80) [x,J n] h=bE.ret (J k) g):
  a5 an Tryz.f80 none call [1,1,1,1] (aj [(0,af r),(1,J n)] h) (.ret)
   (aj [(4,J k)] g):=
 bN [4] [.v x,.c (J k) g] 16 2 35 (ji H1 bh bM)
theorem PH(k:Nat)(x:ad)(h g:ab)
  (H1:call (.fn 80) [x,J 0] h=bE.ret (J k) g):
  a5 an Tryz.f52 none call [] (aj [(0,x)] h) (.ret)
   (aj [(2,J k)] g):=
 bN [2] [.c (J k) g] 16 1 2 (hR H1 bM)
theorem PI{B:Nat}{h:ab}{xs:List aJ}{vs:List ad}(call:aW)(r b off:Nat)(cp:ct)(aI:aq h r (0+3)=some (.slice b off vs.length cp))(aa:dZ B h xs vs)(aA:∀i (hi:i<vs.length),aq h b (off+i*1)=some vs[i])(hlen:vs.length<=1000000)
  (bl:∀i (I:i<vs.length) (ae:i<xs.length) n,n<=61->call (.fn 80) [vs[i],J n] h=.ret (J (min (n+sz xs[i]) 61)) h):∀(k i n:Nat),vs.length-i=k->i<=vs.length->n<=61->
  fX an Tryz.f80 none call [1,1,1,0,1,0] (k+1) ⟨[(0,.ptr r 0),(1,J n),(5,J i)],[],.none,h⟩ (.exit 0) ⟨[(0,.ptr r 0),(1,J (min (n+dH (xs.drop i)) 61))],[],.none,h⟩
 |0,i,n,ay,hi,aH=>by
  have fH:=dZ.len aa
  obtain rfl:i=vs.length:=by omega
  rw[List.drop_of_length_le (by omega)]
  have e:min (n+dH []) 61=n:=by show min (n+0) 61=n;omega
  rw[e]
  exact .exit (dA.post (YX call r n b off vs.length _ 0 0 0 cp .aX h h aI (fI (by omega))) ⟨rfl,rfl,trivial⟩) (by simp)
 |k+1,i,n,ay,hi,aH=>by
  have fH:=dZ.len aa
  have I:i<vs.length:=by omega
  have ae:i<xs.length:=by omega
  rw[List.drop_eq_getElem_cons ae]
  by_cases p4:n<=60
  · have st:=YV call r n b off vs.length i (off+i*1) (min (n+sz xs[i]) 61) (i+1) cp vs[i] h h aI (eD I) (n8 (by omega)) ⟨I,rfl⟩ (aA i I) (bl i I ae n aH) (la I (by omega))
    have e:min (n+dH (xs[i]::xs.drop (i+1))) 61=min (min (n+sz xs[i]) 61+dH (xs.drop (i+1))) 61:=by
     show min (n+(sz xs[i]+dH (xs.drop (i+1)))) 61=_
     omega
    rw[e]
    exact .step st (PI call r b off cp aI aa aA hlen bl k (i+1) _ (by omega) (by omega) (by omega))
  · have e:min (n+dH (xs[i]::xs.drop (i+1))) 61=n:=by omega
    rw[e]
    exact .exit (dA.post (YW call r n b off vs.length i 0 0 0 cp .aX h h aI (eD I) (pS (by omega))) ⟨rfl,rfl,trivial⟩) (by simp)
theorem PJ(m n:Nat)(h:ab):Y (m+1) (.fn 80) [.aX,J n] h=.ret (J n) h:=
 gR (intr:=ea) (n:=m) (args:=[.aX,J n]) Tryz.func80 (YP (Y m) n h) (.inl rfl) (by kernel_rfl)
theorem IQ:∀(N:Nat) (t:aJ),sz t<=N->sz t<=90000->∀(B:Nat) (h:ab) (v:ad) (m n:Nat),sz t<m->n<=61->dP B h t v->Y m (.fn 80) [v,J n] h=.ret (J (min (n+sz t) 61)) h
 |0,t,hh,_,_,_,_,_,_,_,_,_=>by have:=p0 t;omega
 |N+1,.mk k nm ns xs rt,hh,A0,B,h,v,m,n,hm,aH,aI=>by
  obtain⟨r,bA,aU,cY,vs,bq,lo,up,rfl,ae,ax,aN,bS,cz,dw⟩:=aI
  have al:sz (.mk k nm ns xs rt)=1+dH xs+dk rt:=by unfold sz;rfl
  rw[al] at hh hm A0⊢
  obtain⟨m,rfl⟩:∃j,m=j+1:=⟨m-1,by omega⟩
  have fH:=dZ.len cz
  have ks:=mo xs
  by_cases p4:n<=60
  · have aj:=PG (Y m) r n h
    have s1:=YR (Y m) r n h (fI (by omega))
    have s2:=YS (Y m) r n (n+1) h (la (m:=100000) (by omega) (by decide))
    have b1:=YT (Y m) r (n+1) h
    have bl:∀i (I:i<vs.length) (ae:i<xs.length) n,n<=61->Y m (.fn 80) [vs[i],J n] h=.ret (J (min (n+sz xs[i]) 61)) h:=λi I ae n aH=>by
     have je:=p1 (List.getElem_mem ae)
     exact IQ N xs[i] (by omega) (by omega) B h vs[i] m n (by omega) aH (dZ.get cz i I ae)
    have gf:aq h r (0+3)=some aU:=aF ax rfl
    have loop:a5 an Tryz.f80 none (Y m) [1,1,1,0,1,0] ⟨[(0,.ptr r 0),(1,J (n+1)),(5,J 0)],[],.none,h⟩ (.exit 0) ⟨[(0,.ptr r 0),(1,J (min (n+1+dH xs) 61))],[],.none,h⟩:=by
     rcases bS with⟨rfl,rfl⟩|⟨b,off,cp,rfl,ag,aA,_⟩
     · have ng:xs=[]:=List.eq_nil_of_length_eq_zero (by simpa using fH.symm)
       subst ng
       have e:min (n+1+dH []) 61=n+1:=by show min (n+1+0) 61=n+1;omega
       rw[e]
       exact fX.run (p:=[1,1,1,0,1,0]) (n:=1) (by kernel_rfl) (.exit (YU (Y m) r (n+1) h gf) (by simp)) (by omega)
     · have:=PI (Y m) r b off cp gf cz aA (by omega) bl vs.length 0 (n+1) (by omega) (by omega) (by omega)
       rw[List.drop_zero] at this
       exact fX.run (p:=[1,1,1,0,1,0]) (by kernel_rfl) this (by omega)
    have YZ:=a5.block (p:=[1,1,1,0,1]) (id:=0) (by kernel_rfl) loop
    have AM:Y m (.fn 80) [cY,J (min (n+1+dH xs) 61)] h=.ret (J (min (n+(1+dH xs+dk rt)) 61)) h:=by
     cases rt with
     |none=>
      have e:cY=.aX:=dw
      subst e
      obtain⟨m,rfl⟩:∃j,m=j+1:=⟨m-1,by omega⟩
      have e:min (n+(1+dH xs+dk none)) 61=min (n+1+dH xs) 61:=by show min (n+(1+dH xs+0)) 61=_;omega
      rw[e]
      exact PJ m _ h
     |some u=>
      have fm:dk (some u)=sz u:=by unfold dk;rfl
      rw[fm] at hh hm A0⊢
      rw[IQ N u (by omega) (by omega) B h cY m _ (by omega) (by omega) dw]
      first|(congr 3;omega)|(congr 2;omega)|(congr 4;omega)
    have b_:=YY (Y m) r (min (n+1+dH xs) 61) (min (n+(1+dH xs+dk rt)) 61) cY h h (aF ax rfl) AM
    exact gR (intr:=ea) (n:=m) (args:=[.ptr r 0,J n]) Tryz.func80 (dG [] aj (dG [1] s1 (dG [1,1] s2 (dG [1,1,1] (dG [1,1,1,0] b1 YZ) b_)))) (.inl rfl) (by kernel_rfl)
  · have aj:=PG (Y m) r n h
    have e:min (n+(1+dH xs+dk rt)) 61=n:=by omega
    rw[e]
    have s1:=YQ (Y m) r n h (eD (by omega))
    exact gR (intr:=ea) (n:=m) (args:=[.ptr r 0,J n]) Tryz.func80 (dG [] aj (jR [1] s1 (by simp))) (.inl rfl) (by kernel_rfl)
theorem PK{t:aJ}{B:Nat}{h:ab}{v:ad}{m:Nat}(ag:sz t<=90000)(hm:sz t<m)(aI:dP B h t v):Y (m+1) (.fn 52) [v] h=.ret (J (min (sz t) 61)) h:=by
 have e:=IQ (sz t) t (Nat.le_refl _) ag B h v m 0 hm (by decide) aI
 rw[Nat.zero_add] at e
 exact gR (intr:=ea) (n:=m) (args:=[v]) Tryz.func52 (PH (Y m) _ v h h e) (.inl rfl) (by kernel_rfl)
theorem Y0(v:ad)(h:ab):
  a5 an Tryz.f16 none call [0] (aj [(0,v)] h) (.nrm)
   (aj [(0,v)] h):=
 bN [0] [] 16 0 0 bM
theorem Y1(v:ad)(h g:ab)
  (H1:bg.storeCells (ab.push h (aQ [J 0] 3)) (ab.n h) 0 [J 0]=some g):
  a5 an Tryz.f16 none call [1,0] (aj [(0,v)] h) (.nrm)
   (aj [(0,v),(3,af (ab.n h))] g):=
 bN [0,3] [.n5 (.aR []) g] 16 1 2 (hR (⟨by kernel_rfl,H1,rfl⟩:some 1=some 1/\bg.storeCells (ab.push h (dQ.cells [J 0] 3 hb.own 0 0)) (ab.n h) 0 [J 0]=some g/\ad.aR []=ad.aR []) bM)
theorem Y2(v w:ad)(a:Nat)(h g:ab)
  (H1:call (.fn 37) [v] h=bE.ret w g):
  a5 an Tryz.f16 none call [1,1,0,0] (aj [(0,v),(3,af a)] h) (.nrm)
   (aj [(3,af a),(5,w)] g):=
 bN [3,5] [.c w g] 16 1 2 (hR H1 bM)
theorem Y3(l a i j:Nat)(h g:ab)
  (H1:aq h a 0=some (J i))
  (bh:arith .add .i64 (.ofNat i) (.ofNat 1)=some (J j))
  (bD:bg.storeCells h a 0 [J j]=some g)
  (cm:aq g a 0=some (J j))
  (cS:cE 60 j=true):
  a5 an Tryz.f16 (some l) call [1,1,0,1,0,1] (aj [(3,af a)] h) (.exit 0)
   (aj [(3,af a)] g):=
 bN [3] [.v (J i),.v (J j),.n5 (.aR []) g,.v (J j),.b true] 16 5 144470 (mX H1 bh (⟨by kernel_rfl,bD,rfl⟩:some 1=some 1/\bg.storeCells h a 0 [J j]=some g/\ad.aR []=ad.aR []) cm cS bM)
theorem Y4(l a i j:Nat)(h g:ab)
  (H1:aq h a 0=some (J i))
  (bh:arith .add .i64 (.ofNat i) (.ofNat 1)=some (J j))
  (bD:bg.storeCells h a 0 [J j]=some g)
  (cm:aq g a 0=some (J j))
  (cS:cE 60 j=false):
  a5 an Tryz.f16 (some l) call [1,1,0,1,0,1] (aj [(3,af a)] h) (.nrm)
   (aj [(3,af a)] g):=
 bN [3] [.v (J i),.v (J j),.n5 (.aR []) g,.v (J j),.b false] 16 5 144470 (mX H1 bh (⟨by kernel_rfl,bD,rfl⟩:some 1=some 1/\bg.storeCells h a 0 [J j]=some g/\ad.aR []=ad.aR []) cm cS bM)
theorem Y5(a j fy:Nat)(h:ab)
  (H1:aq h a 0=some (J j)):
  a5 an Tryz.f16 none call [1,1,1] (bL.mk [(3,af a)] [.collected fy] .none h) (.ret)
   (bL.mk [(2,J j)] [.collected fy] .none h):=
 bN [2] [.v (J j)] 16 1 2 (hR H1 bM)
theorem Y6(r:Nat)(h:ab):
  a5 an Tryz.f37 none call [] (aj [(0,af r)] h) (.ret)
   (aj [(2,.fn 57 [] [af (ab.n h)])] (ab.push h (aQ [af r] 35))):=
 bN [2] [] 16 0 0 bM
theorem Y7(h:ab):
  a5 an Tryz.f37 none call [] (aj [(0,.aX)] h) (.ret)
   (aj [(2,.fn 57 [] [af (ab.n h)])] (ab.push h (aQ [.aX] 35))):=
 bN [2] [] 16 0 0 bM
theorem Y8(l a:Nat)(v w:ad)(h I ae:ab)
  (H1:bg.storeCells (ab.push (ab.push h (aQ [.eb l] 89)) (aQ [.gW] 89)) (ab.n (ab.push h (aQ [.eb l] 89))) 0 [.fn 58 [] [af (ab.n h),.ptr (ab.n (ab.push h (aQ [.eb l] 89))) 0]]=some I)
  (bh:aq I (ab.n (ab.push h (aQ [.eb l] 89))) 0=some (.fn 58 [] [af (ab.n h),af (ab.n h+1)]))
  (bD:aq I a 0=some v)
  (cm:call (.fn 58) [v,af (ab.n h),af (ab.n h+1)] I=bE.ret w ae):
  a5 an Tryz.f57 none call [] (aj [(0,.eb l),(1,af a)] h) (.nrm)
   (aj [] ae):=
 bN [] [.n5 (.aR []) I,.v (.fn 58 [] [af (ab.n h),af (ab.n h+1)]),.v v,.c w ae] 16 4 9029 (mW (⟨by kernel_rfl,H1,rfl⟩:some 1=some 1/\bg.storeCells (ab.push (ab.push h (dQ.cells [ad.eb l] 89 hb.own 0 0)) (dQ.cells [ad.gW] 89 hb.own 0 0)) (ab.n (ab.push h (dQ.cells [ad.eb l] 89 hb.own 0 0))) 0 [ad.fn 58 [] [ad.ptr (ab.n h) 0,ad.ptr (ab.n (ab.push h (dQ.cells [ad.eb l] 89 hb.own 0 0))) 0]]=some I/\ad.aR []=ad.aR []) bh bD cm bM)
theorem Y9(y z:Nat)(h:ab):
  a5 an Tryz.f58 none call [] (aj [(0,.aX),(1,af y),(2,af z)] h) (.ret)
   (aj [(4,.bool true)] h):=
 bN [4] [.v (.bool true),.b true] 16 2 32 (hR (by kernel_rfl:ec an h BinOp.eql 35 (Operand.tmp 7) (Operand.const (Value.pointer none)) ad.aX ad.aX=some (ad.bool true)) bM)
theorem Y_(r y z:Nat)(h:ab):
  a5 an Tryz.f58 none call [0] (aj [(0,af r),(1,af y),(2,af z)] h) (.nrm)
   (aj [(0,af r),(1,af y),(2,af z)] h):=
 bN [0,1,2] [] 16 0 0 bM
theorem Za(r y z:Nat)(h:ab):
  a5 an Tryz.f58 none call [1,0] (aj [(0,af r),(1,af y),(2,af z)] h) (.nrm)
   (aj [(0,af r),(1,af y),(2,af z)] h):=
 bN [0,1,2] [.v (.bool false),.b false] 16 2 33 (hR (by kernel_rfl:ec an h BinOp.eql 35 (Operand.tmp 7) (Operand.const (Value.pointer none)) (ad.ptr r 0) ad.aX=some (ad.bool false)) bM)
theorem Zb(r y z l:Nat)(h g:ab)
  (H1:aq h y 0=some (.eb l))
  (bh:call (.eb l) [af r] h=bE.ret (.bool true) g):
  a5 an Tryz.f58 none call [1,1,0] (aj [(0,af r),(1,af y),(2,af z)] h) (.nrm)
   (aj [(0,af r),(1,af y),(2,af z)] g):=
 bN [0,1,2] [.v (.eb l),.c (.bool true) g,.b false] 16 3 564 (kd H1 bh (by kernel_rfl:(!true)=false) bM)
theorem Zc(r y z l:Nat)(h g:ab)
  (H1:aq h y 0=some (.eb l))
  (bh:call (.eb l) [af r] h=bE.ret (.bool false) g):
  a5 an Tryz.f58 none call [1,1,0] (aj [(0,af r),(1,af y),(2,af z)] h) (.ret)
   (aj [(4,.bool false)] g):=
 bN [4] [.v (.eb l),.c (.bool false) g,.b true] 16 3 564 (kd H1 bh (by kernel_rfl:(!false)=true) bM)
theorem Zd(r y z b off N:Nat)(cp:ct)(h:ab)
  (H1:aq h r (0+3)=some (.slice b off N cp)):
  a5 an Tryz.f58 none call [1,1,1,0,0] (aj [(0,af r),(1,af y),(2,af z)] h) (.nrm)
   (aj [(0,af r),(1,af y),(2,af z),(16,.slice b off N cp),(17,J N),(18,J 0)] h):=
 bN [0,1,2,16,17,18] [.v (.slice b off N cp)] 16 1 2 (hR H1 bM)
theorem Ze(r y z:Nat)(h:ab)
  (H1:aq h r (0+3)=some .aP):
  a5 an Tryz.f58 none call [1,1,1,0,0] (aj [(0,af r),(1,af y),(2,af z)] h) (.nrm)
   (aj [(0,af r),(1,af y),(2,af z),(16,.aP),(17,J 0),(18,J 0)] h):=
 bN [0,1,2,16,17,18] [.v .aP] 16 1 2 (hR H1 bM)
theorem PL(r y z N i:Nat)(v:ad)(h:ab)
  (H1:cE i N=false):
  a5 an Tryz.f58 none call [1,1,1,0,1,0,0] (aj [(0,af r),(1,af y),(2,af z),(16,v),(17,J N),(18,J i)] h) (.exit 0)
   (aj [(0,af r),(1,af y),(2,af z)] h):=
 bN [0,1,2] [.b false] 16 1 2 (hR H1 bM)
theorem Zf(r y z b off N i q j:Nat)(cp:ct)(x:ad)(h g:ab)
  (H1:cE i N=true)
  (bh:Nat.le (Nat.succ i) N/\ad.ptr b q=ad.ptr b (off+i*1))
  (bD:aq h b q=some x)
  (cm:aq h z 0=some (.fn 58 [] [af y,af z]))
  (cS:call (.fn 58) [x,af y,af z] h=bE.ret (.bool true) g)
  (dT:arith .add .i64 (.ofNat i) (.ofNat 1)=some (J j)):
  a5 an Tryz.f58 none call [1,1,1,0,1,0,0] (aj [(0,af r),(1,af y),(2,af z),(16,.slice b off N cp),(17,J N),(18,J i)] h) (.nrm)
   (aj [(0,af r),(1,af y),(2,af z),(16,.slice b off N cp),(17,J N),(18,J j)] g):=
 bN [0,1,2,16,17,18] [.b true,.v (.ptr b q),.v x,.v (.fn 58 [] [af y,af z]),.c (.bool true) g,.b false,.v (J j)] 16 7 36984440 (s5 H1 bh bD cm cS (by kernel_rfl:(!true)=false) dT bM)
theorem Zg(r y z b off N i q:Nat)(cp:ct)(x:ad)(h g:ab)
  (H1:cE i N=true)
  (bh:Nat.le (Nat.succ i) N/\ad.ptr b q=ad.ptr b (off+i*1))
  (bD:aq h b q=some x)
  (cm:aq h z 0=some (.fn 58 [] [af y,af z]))
  (cS:call (.fn 58) [x,af y,af z] h=bE.ret (.bool false) g):
  a5 an Tryz.f58 none call [1,1,1,0,1,0,0] (aj [(0,af r),(1,af y),(2,af z),(16,.slice b off N cp),(17,J N),(18,J i)] h) (.ret)
   (aj [(4,.bool false)] g):=
 bN [4] [.b true,.v (.ptr b q),.v x,.v (.fn 58 [] [af y,af z]),.c (.bool false) g,.b true] 16 6 2311527 (wA H1 bh bD cm cS (by kernel_rfl:(!false)=true) bM)
theorem Zh(r y z:Nat)(x v:ad)(h g:ab)
  (H1:aq (ab.room h 7) z 0=some (.fn 58 [] [af y,af z]))
  (bh:aq (ab.room h 7) r (0+4)=some x)
  (bD:call (.fn 58) [x,af y,af z] (ab.room h 7)=bE.ret v g)
  (cm:ad.sound x=true:=by first|with_reducible assumption|rfl|exact c5.snd (by with_reducible assumption)|exact c5.fL (by with_reducible assumption)|exact d_.snd (by with_reducible assumption)|exact d_.fL (by with_reducible assumption)|exact dP.snd (by with_reducible assumption)|exact dP.fL (by with_reducible assumption))
  (cS:ad.sound v=true:=by first|with_reducible assumption|rfl|exact c5.snd (by with_reducible assumption)|exact c5.fL (by with_reducible assumption)|exact d_.snd (by with_reducible assumption)|exact d_.fL (by with_reducible assumption)|exact dP.snd (by with_reducible assumption)|exact dP.fL (by with_reducible assumption)):
  a5 an Tryz.f58 none call [1,1,1,1] (aj [(0,af r),(1,af y),(2,af z)] h) (.ret)
   (aj [(4,v)] g):=
 bN [4] [.v (.fn 58 [] [af y,af z]),.v x,.c v g] 16 15 0x23452676789a3bc (fJ H1 bh bD (ca (.fn 58 [] [af y,af z])) (ca (af r)) (dN (af r)) (ca (.ptr r (0+4))) (dN (.ptr r (0+4))) cm<|ji cS (dN (v)) bM)
noncomputable def IS:Code:=sub (fD Tryz.f16) [1,1,0,1,0,0]
noncomputable def Zi:Code:=sub (fD Tryz.f16) [1,1,0,1,0,1]
theorem Zj:IS=.skip:=by kernel_rfl
noncomputable abbrev yW(s:LoopState)(p:Option Code)(r:ba)(N:Nat):dQ:=.loop s p (ej Tryz.f16) r [6] IS Zi (N+2)
structure tb(N:Nat)(h:ab)(r:ba)(c:Nat)(x:ab):Prop where
 BH:x.get N=some (aQ [J c] 3)
 m_:x.get (N+2)=some (.defrd (some []))
 yX:x.get (N+3)=some (yW .ready none r N)
 eb:x.get (N+4)=some (aQ [.eb (N+3)] 89)
 yY:x.get (N+5)=some (aQ [.fn 58 [] [.ptr (N+4) 0,.ptr (N+5) 0]] 89)
 ext:Ext N h x
structure PM(N:Nat)(h:ab)(r:ba)(x:ab):Prop where
 BH:x.get N=some (aQ [J 61] 3)
 m_:x.get (N+2)=some (.defrd (some []))
 yX:x.get (N+3)=some (yW .done (some (.exit 0)) r N)
 ext:Ext N h x
theorem tb.room{N:Nat}{h:ab}{r:ba}{c:Nat}{x:ab}(hi:tb N h r c x)(k:Nat):tb N h r c (x.room k):=⟨hi.BH,hi.m_,hi.yX,hi.eb,hi.yY,hi.ext.iT⟩
theorem Zk(m:Nat){N:Nat}{h:ab}{r:ba}{c:Nat}{x:ab}(ao:bg.Mod r [(3,.ptr N 0)])(hi:tb N h r c x)(ah:c<=60)(v:ad):
  ∃b y,Y (m+1) (.eb (N+3)) [v] x=.ret (.bool b) y/\((b=true/\c+1<=60/\tb N h r (c+1) y)\/(b=false/\60<c+1/\PM N h r y)):=by
 have aZ:Y (m+1) (.eb (N+3)) [v] x=vE an (Y m) (N+3) [v] x:=rfl
 rw[aZ]
 have aV:∀q,dA an (ej Tryz.f16) (some (N+3)) (Y m) IS ⟨put 6 v [(3,.ptr N 0)],[],q,x⟩ .nrm ⟨[(3,.ptr N 0)],[],q,x⟩:=λq r' hm=>by
  rw[Zj]
  exact⟨r',rfl,hm.sub ⟨rfl,trivial⟩⟩
 have eP:(x.set (N+3) (some (yW .busy none r N))).get N=some (aQ [J c] 3):=by
  rw[ab.dx,if_neg (by omega)];exact hi.BH
 by_cases p4:c+1<=60
 · have ag:=Y4 (Y m) (N+3) N c (c+1) _ _ (pR eP) (la (m:=100) (by omega) (by decide)) (Er (y:=J (c+1)) rfl eP) (pR (t:=3) (by rw[ab.dx,if_pos rfl])) (fI (by omega))
   have e:=Ow hi.yX ao (aV _) ag (by rw[ab.dx,if_neg (by omega),ab.dx,if_pos rfl])
   rw[e]
   refine⟨true,_,rfl,.inl ⟨rfl,p4,?_,?_,?_,?_,?_,?_⟩⟩
   · simp only[ab.dx];rw[if_neg (by omega),if_pos trivial]
   · simp only[ab.dx];rw[if_neg (by omega),if_neg (by omega),if_neg (by omega)];exact hi.m_
   · simp only[ab.dx];rw[if_pos trivial]
   · simp only[ab.dx];rw[if_neg (by omega),if_neg (by omega),if_neg (by omega)];exact hi.eb
   · simp only[ab.dx];rw[if_neg (by omega),if_neg (by omega),if_neg (by omega)];exact hi.yY
   · exact((hi.ext.hQ (by omega)).hQ (by omega)).hQ (by omega)
 · have ag:=Y3 (Y m) (N+3) N c (c+1) _ _ (pR eP) (la (m:=100) (by omega) (by decide)) (Er (y:=J (c+1)) rfl eP) (pR (t:=3) (by rw[ab.dx,if_pos rfl])) (eD (by omega))
   have e:=Ow hi.yX ao (aV _) ag (by rw[ab.dx,if_neg (by omega),ab.dx,if_pos rfl])
   rw[e]
   have AG:c+1=61:=by omega
   refine⟨false,_,rfl,.inr ⟨rfl,by omega,?_,?_,?_,?_⟩⟩
   · simp only[ab.dx];rw[if_neg (by omega),if_pos trivial,AG]
   · simp only[ab.dx];rw[if_neg (by omega),if_neg (by omega),if_neg (by omega)];exact hi.m_
   · simp only[ab.dx];rw[if_pos trivial]
   · exact((hi.ext.hQ (by omega)).hQ (by omega)).hQ (by omega)
def w5(N:Nat)(h:ab)(r:ba)(c s:Nat)(b:Bool)(y:ab):Prop:=(b=true/\c+s<=60/\tb N h r (c+s) y)\/(b=false/\60<c+s/\PM N h r y)
def IT(m:Nat)(N:Nat)(h:ab)(r:ba)(B:Nat)(ot:Option aJ):Prop:=∀(v:ad) (c:Nat) (x:ab),c<=60->d_ B h ot v->tb N h r c x->∃b y,Y m (.fn 58) [v,.ptr (N+4) 0,.ptr (N+5) 0] x=.ret (.bool b) y/\w5 N h r c (dk ot) b y
theorem PN{m N B R b off:Nat}{h:ab}{r:ba}{xs:List aJ}{vs:List ad}(cp:ct)(dd:B<=N)(ag:b<B)(aa:dZ B h xs vs)(aA:∀i (hi:i<vs.length),aq h b (off+i*1)=some vs[i])(hlen:vs.length<=1000000)
  (bl:∀i (ae:i<xs.length),IT m N h r B (some xs[i])):∀(k i c:Nat) (x:ab),vs.length-i=k->i<=vs.length->c<=60->tb N h r c x->
  ∃e Γ y,fX an Tryz.f58 none (Y m) [1,1,1,0,1,0] (k+1) ⟨[(0,.ptr R 0),(1,.ptr (N+4) 0),(2,.ptr (N+5) 0),(16,.slice b off vs.length cp),(17,J vs.length),(18,J i)],[],.none,x⟩ e (aks Γ y)/\
   ((e=.exit 0/\Γ=[(0,.ptr R 0),(1,.ptr (N+4) 0),(2,.ptr (N+5) 0)]/\w5 N h r c (dH (xs.drop i)) true y)\/(e=.ret/\Γ=[(4,.bool false)]/\w5 N h r c (dH (xs.drop i)) false y))
 |0,i,c,x,ay,hi,ah,om=>by
  have fH:=dZ.len aa
  obtain rfl:i=vs.length:=by omega
  rw[List.drop_of_length_le (by omega)]
  exact⟨_,_,_,.exit (PL (Y m) R (N+4) (N+5) _ _ _ x (fI (by omega))) (by simp),.inl ⟨rfl,rfl,.inl ⟨rfl,ah,om⟩⟩⟩
 |k+1,i,c,x,ay,hi,ah,om=>by
  have fH:=dZ.len aa
  have I:i<vs.length:=by omega
  have ae:i<xs.length:=by omega
  have ai:dH (xs.drop i)=sz xs[i]+dH (xs.drop (i+1)):=by
   rw[List.drop_eq_getElem_cons ae];rfl
  have gf:aq x b (off+i*1)=some vs[i]:=by
   rw[<-aA i I]
   unfold aq
   rw[om.ext.get b (by omega)]
  obtain⟨gz,y,aG,aE⟩:=bl i ae vs[i] c x ah (dZ.get aa i I ae) om
  have fm:dk (some xs[i])=sz xs[i]:=by unfold dk;rfl
  rw[fm] at aE
  rcases aE with⟨rfl,bH,eu⟩|⟨rfl,bH,eu⟩
  · have st:=Zf (Y m) R (N+4) (N+5) b off vs.length i (off+i*1) (i+1) cp vs[i] x y (eD I) ⟨I,rfl⟩ gf (pR om.yY) aG (la I (by omega))
    obtain⟨e,Γ,z,bt,bw⟩:=PN (R:=R) cp dd ag aa aA hlen bl k (i+1) (c+sz xs[i]) y (by omega) (by omega) bH eu
    refine⟨e,Γ,z,.step st bt,?_⟩
    unfold w5 at bw⊢
    rw[ai,<-Nat.add_assoc]
    exact bw
  · have st:=Zg (Y m) R (N+4) (N+5) b off vs.length i (off+i*1) cp vs[i] x y (eD I) ⟨I,rfl⟩ gf (pR om.yY) aG
    exact⟨_,_,_,.exit st (by simp),.inr ⟨rfl,rfl,.inr ⟨rfl,by omega,eu⟩⟩⟩
theorem IU{N B:Nat}{h:ab}{r:ba}(ao:bg.Mod r [(3,.ptr N 0)])(dd:B<=N):∀(K:Nat) (ot:Option aJ),dk ot<=K->dk ot<=90000->∀m,dk ot+3<=m->IT m N h r B ot
 |K,none,_,_,m,hm=>λv c x ah aI om=>by
  obtain rfl:v=.aX:=aI
  obtain⟨m,rfl⟩:∃j,m=j+1:=⟨m-1,by omega⟩
  exact⟨true,x,gR (intr:=ea) (n:=m) (args:=[.aX,.ptr (N+4) 0,.ptr (N+5) 0]) Tryz.func58 (Y9 (Y m) (N+4) (N+5) x) (.inl rfl) (by kernel_rfl),.inl ⟨rfl,ah,om⟩⟩
 |0,some t,dg,_,m,hm=>by
  have fm:dk (some t)=sz t:=by unfold dk;rfl
  have:=p0 t
  omega
 |K+1,some (.mk k nm ns xs rt),dg,hz,m,hm=>λv c x ah aI om=>by
  have al:dk (some (.mk k nm ns xs rt))=1+dH xs+dk rt:=by rw[jk,l3]
  obtain⟨R,bA,aU,cY,vs,bq,lo,up,rfl,ae,ax,aN,bS,cz,dw⟩:=aI
  rw[al] at dg hz hm⊢
  obtain⟨m,rfl⟩:∃j,m=j+1:=⟨m-1,by omega⟩
  obtain⟨m,rfl⟩:∃j,m=j+1:=⟨m-1,by omega⟩
  have fH:=dZ.len cz
  have ks:=mo xs
  have aj:=Y_ (Y (m+1)) R (N+4) (N+5) x
  have s1:=Za (Y (m+1)) R (N+4) (N+5) x
  obtain⟨gz,y,aG,aE⟩:=Zk m ao om ah (.ptr R 0)
  rcases aE with⟨rfl,bH,eu⟩|⟨rfl,bH,eu⟩
  · have s2:=Zb (Y (m+1)) R (N+4) (N+5) (N+3) x y (pR om.eb) aG
    have w6:y.get R=some (.cells [J k,.str nm,bA,aU,cY] 80 bq lo up):=by
     rw[eu.ext.get R (by omega)];exact ax
    have gf:aq y R (0+3)=some aU:=aF w6 rfl
    have bl:∀i (ae:i<xs.length),IT (m+1) N h r B (some xs[i]):=λi ae=>by
     have je:=p1 (List.getElem_mem ae)
     have fm:dk (some xs[i])=sz xs[i]:=by unfold dk;rfl
     exact IU ao dd K (some xs[i]) (by omega) (by omega) (m+1) (by omega)
    have loop:∃e Γ z,a5 an Tryz.f58 none (Y (m+1)) [1,1,1,0] ⟨[(0,.ptr R 0),(1,.ptr (N+4) 0),(2,.ptr (N+5) 0)],[],.none,y⟩ e (aks Γ z)/\
      ((e=.nrm/\Γ=[(0,.ptr R 0),(1,.ptr (N+4) 0),(2,.ptr (N+5) 0)]/\w5 N h r (c+1) (dH xs) true z)\/(e=.ret/\Γ=[(4,.bool false)]/\w5 N h r (c+1) (dH xs) false z)):=by
     rcases bS with⟨rfl,rfl⟩|⟨b,off,cp,rfl,ag,aA,_⟩
     · have ng:xs=[]:=List.eq_nil_of_length_eq_zero (by simpa using fH.symm)
       subst ng
       refine⟨_,_,_,dG [1,1,1,0] (Ze (Y (m+1)) R (N+4) (N+5) y gf) (a5.block (p:=[1,1,1,0,1]) (id:=0) (by kernel_rfl) (fX.run (p:=[1,1,1,0,1,0]) (n:=1) (by kernel_rfl) (.exit (PL (Y (m+1)) R (N+4) (N+5) 0 0 _ y (by kernel_rfl)) (by simp)) (by omega))),.inl ⟨rfl,rfl,.inl ⟨rfl,bH,eu⟩⟩⟩
     · obtain⟨e,Γ,z,bt,bw⟩:=PN (R:=R) cp dd ag cz aA (by omega) bl vs.length 0 (c+1) y (by omega) (by omega) bH eu
       rw[List.drop_zero] at bw
       have dL:=fX.run (p:=[1,1,1,0,1,0]) (by kernel_rfl) bt (by omega)
       have h8:=Zd (Y (m+1)) R (N+4) (N+5) b off vs.length cp y gf
       rcases bw with⟨rfl,jW,w7⟩|⟨rfl,jW,w7⟩
       · exact⟨_,_,_,dG [1,1,1,0] h8 (a5.block (p:=[1,1,1,0,1]) (id:=0) (by kernel_rfl) dL),.inl ⟨rfl,jW,w7⟩⟩
       · exact⟨_,_,_,dG [1,1,1,0] h8 (a5.s0 (p:=[1,1,1,0,1]) (id:=0) (by kernel_rfl) dL (by simp)),.inr ⟨rfl,jW,w7⟩⟩
    obtain⟨e,Γ,z,bt,bw⟩:=loop
    rcases bw with⟨rfl,rfl,bw⟩|⟨rfl,rfl,bw⟩
    · rcases bw with⟨_,dL,h8⟩|⟨dL,_⟩
      · have jW:=h8.room 7
        have Zl:(z.room 7).get R=some (.cells [J k,.str nm,bA,aU,cY] 80 bq lo up):=by
         rw[jW.ext.get R (by omega)];exact ax
        obtain⟨gz,w,df,db⟩:=IU ao dd K rt (by omega) (by omega) (m+1) (by omega) cY (c+1+dH xs) _ dL dw jW
        have fv:ad.sound cY=true:=by
         cases rt with
         |none=>obtain rfl:cY=.aX:=dw;rfl
         |some u=>
          cases u with
          |mk k nm ns ys rt=>obtain⟨r,bA,aU,_,vs,bq,lo,up,rfl,_⟩:=dw;rfl
        have b_:=Zh (Y (m+1)) R (N+4) (N+5) cY (.bool gz) z w (pR jW.yY) (aF Zl rfl) df fv rfl
        refine⟨gz,w,gR (intr:=ea) (n:=m+1) (args:=[.ptr R 0,.ptr (N+4) 0,.ptr (N+5) 0]) Tryz.func58 (dG [] aj (dG [1] s1 (dG [1,1] s2 (dG [1,1,1] bt b_)))) (.inl rfl) rfl,?_⟩
        have hO:c+1+dH xs+dk rt=c+(1+dH xs+dk rt):=by omega
        unfold w5 at db⊢
        rw[hO] at db
        exact db
      · simp at dL
    · rcases bw with⟨dL,_⟩|⟨_,dL,h8⟩
      · simp at dL
      · exact⟨false,z,gR (intr:=ea) (n:=m+1) (args:=[.ptr R 0,.ptr (N+4) 0,.ptr (N+5) 0]) Tryz.func58 (dG [] aj (dG [1] s1 (dG [1,1] s2 (jR [1,1,1] bt (by simp))))) (.inl rfl) (by kernel_rfl),.inr ⟨rfl,by omega,h8⟩⟩
  · have s2:=Zc (Y (m+1)) R (N+4) (N+5) (N+3) x y (pR om.eb) aG
    exact⟨false,y,gR (intr:=ea) (n:=m+1) (args:=[.ptr R 0,.ptr (N+4) 0,.ptr (N+5) 0]) Tryz.func58 (dG [] aj (dG [1] s1 (jR [1,1] s2 (by simp)))) (.inl rfl) (by kernel_rfl),.inr ⟨rfl,by omega,eu⟩⟩
theorem Zm{call:aW}(j N:Nat)(r:ba)(q:bU)(h:ab)(hm:bg.Mod r [(2,J j)])(ai:h.get (N+2)=some (.defrd (some []))):
  ry an call Tryz.f16 (.ok .ret r [.collected (N+2)] q h)=.ret (J j) (h.set (N+2) (some (.defrd none))):=by
 have ao:=H0 hm (rfl:qI an (ej Tryz.f16) Tryz.f16 [(2,J j)] (h.set (N+2) (some (.defrd none)))=some (J j))
 simp only[ry,kJ,ai,List.nil_append,ao]
theorem Zn{ot:Option aJ}{B:Nat}{h:ab}{v:ad}(m:Nat)(hz:dk ot<=90000)(dd:B<=h.n)(aI:d_ B h ot v)(hm:dk ot+3<=m):
  ∃aw,Y (m+2) (.fn 16) [v] h=.ret (J (min (dk ot) 61)) aw/\Ext h.n h aw:=by
 have Zo:=aI.uW
 let I:=(h.push (aQ [J 0] 3)).set h.n (some (aQ [J 0] 3))
 let ae:=I.push (aQ [v] 35)
 have aB:I.n=h.n+1:=rfl
 have aY:ae.n=h.n+2:=rfl
 have aM:bg.storeCells (h.push (aQ [J 0] 3)) h.n 0 [J 0]=some I:=
  Er (x:=J 0) (t:=3) rfl (by rw[ab.hr,if_pos rfl])
 have IV:Y (m+1) (.fn 37) [v] I=.ret (.fn 57 [] [.ptr (h.n+1) 0]) ae:=by
  rcases Zo with rfl|⟨R,rfl⟩
  · exact gR (intr:=ea) (n:=m) (args:=[.aX]) Tryz.func37 (Y7 (Y m) I) (.inl rfl) rfl
  · exact gR (intr:=ea) (n:=m) (args:=[.ptr R 0]) Tryz.func37 (Y6 (Y m) R I) (.inl rfl) rfl
 have w:WF an Tryz.f16 none (Y (m+1)) [] (λe r d q aw=>∃lZ,ry an (Y (m+1)) Tryz.f16 (.ok e r d q aw)=.ret (J (min (dk ot) 61)) lZ/\Ext h.n h lZ) (pz 0 [v] .leaf) [] .none h:=by
  refine WF.seq (p:=[]) (by kernel_rfl) (W.of (Y0 (Y (m+1)) v h) (Em [v]) λr1 a3=>.inl ⟨rfl,?_⟩)
  refine WF.seq (p:=[1]) (by kernel_rfl) (W.of (Y1 (Y (m+1)) v h I aM) a3 λr2 b7=>.inl ⟨rfl,?_⟩)
  refine WF.seq (p:=[1,1]) (by kernel_rfl) ?_
  refine WF.seq (p:=[1,1,0]) (by kernel_rfl) (W.of (Y2 (Y (m+1)) v _ h.n I ae IV) b7 λe5 pY=>.inl ⟨rfl,?_⟩)
  refine WF.block (p:=[1,1,0,1]) (id:=0) (by kernel_rfl) ?_
  refine WF.range (p:=[1,1,0,1,0]) (t:=5) (ps:=[6]) (by kernel_rfl) (by kernel_rfl) (hf:=rfl) (hm:=pY) ?_
  let nz:=(ae.push (.defrd (some []))).push (yW .ready none e5 h.n)
  let bF:=((nz.push (aQ [.eb (h.n+3)] 89)).push (aQ [.gW] 89)).set (h.n+5) (some (aQ [.fn 58 [] [.ptr (h.n+4) 0,.ptr (h.n+5) 0]] 89))
  have PO:bg.Mod e5 [(3,.ptr h.n 0)]:=pY.sub ⟨rfl,trivial⟩
  have ajK:nz.n=h.n+4:=rfl
  have hO:Ext h.n h I:=(Ext.push (Nat.le_refl _) _).hQ (Nat.le_refl _)
  have l2:Ext h.n h ae:=hO.lV (by omega)
  have mu:Ext h.n h nz:=(l2.lV (by omega)).lV (by show h.n<=h.n+3;omega)
  have wZ:Ext h.n h bF:=((mu.lV (by omega)).lV (by show h.n<=h.n+5;omega)).hQ (by omega)
  have i0:tb h.n h e5 0 bF:=by
   refine⟨?_,?_,?_,?_,?_,?_⟩
   · simp only[bF,nz,ae,I,ab.hr,ab.dx,ab.tT,ab.xS];grind
   · simp only[bF,nz,ae,I,ab.hr,ab.dx,ab.tT,ab.xS];grind
   · simp only[bF,nz,ae,I,ab.hr,ab.dx,ab.tT,ab.xS];grind
   · simp only[bF,nz,ae,I,ab.hr,ab.dx,ab.tT,ab.xS];grind
   · simp only[bF,nz,ae,I,ab.hr,ab.dx,ab.tT,ab.xS];grind
   · exact wZ
  obtain⟨gz,y,aG,aE⟩:=IU PO dd (dk ot) ot (Nat.le_refl _) hz m hm v 0 bF (by decide) aI i0
  have cL:bg.storeCells ((nz.push (aQ [.eb (h.n+3)] 89)).push (aQ [.gW] 89)) (h.n+5) 0 [.fn 58 [] [.ptr (h.n+4) 0,.ptr (h.n+5) 0]]=some bF:=
   Er (x:=.gW) rfl (by rw[ab.hr];exact if_pos rfl)
  have iq:bF.get (h.n+1)=some (aQ [v] 35):=by
   simp only[bF,nz,ae,I,ab.hr,ab.dx,ab.tT,ab.xS];grind
  have Zp:=Y8 (Y m) (h.n+3) (h.n+1) v (.bool gz) nz bF y cL (pR i0.yY) (pR iq) aG
  have og:Y (m+1) (.fn 57) [.eb (h.n+3),.ptr (h.n+1) 0] nz=.ret (.aR []) y:=
   gR (intr:=ea) (n:=m) (args:=[.eb (h.n+3),.ptr (h.n+1) 0]) Tryz.func57 Zp (.inr rfl) (by kernel_rfl)
  have fin:∀(j:Nat) (z:ab),j=min (dk ot) 61->z.get h.n=some (aQ [J j] 3)->z.get (h.n+2)=some (.defrd (some []))->Ext h.n h z->
    WF an Tryz.f16 none (Y (m+1)) [1,1,1] (λe r d q aw=>∃lZ,ry an (Y (m+1)) Tryz.f16 (.ok e r d q aw)=.ret (J (min (dk ot) 61)) lZ/\Ext h.n h lZ) e5 [.collected (h.n+2)] .none z:=λj z aO a7 sy Zq=>by
   refine W.of (Y5 (Y (m+1)) h.n j (h.n+2) _ (pR a7)) PO λgh Zr=>?_
   subst aO
   exact⟨_,Zm (min (dk ot) 61) h.n gh _ _ Zr sy,Zq.hQ (by omega)⟩
  rcases aE with⟨rfl,bH,eu⟩|⟨rfl,bH,eu⟩
  · have wV:py (h.n+3) e5 [.collected (h.n+2)] .none (.ret (.aR []) y)=.ok .nrm e5 [.collected (h.n+2)] .none (y.set (h.n+3) (some (yW .exhausted none e5 h.n))):=by
      simp only[py,eu.yX]
    refine⟨.nrm,_,(congrArg (py (h.n+3) e5 [.collected (h.n+2)] .none) og).trans wV,.inr ⟨by simp,.inl ⟨rfl,?_⟩⟩⟩
    exact fin (0+dk ot) _ (by omega) (by rw[ab.dx,if_neg (by omega)];exact eu.BH) (by rw[ab.dx,if_neg (by omega)];exact eu.m_) (eu.ext.hQ (by omega))
  · have wV:py (h.n+3) e5 [.collected (h.n+2)] .none (.ret (.aR []) y)=.ok (.exit 0) e5 [.collected (h.n+2)] .none (y.set (h.n+3) (some (yW .exhausted (some (.exit 0)) e5 h.n))):=by
      simp only[py,eu.yX]
    refine⟨.exit 0,_,(congrArg (py (h.n+3) e5 [.collected (h.n+2)] .none) og).trans wV,.inl ⟨rfl,.inl ⟨rfl,?_⟩⟩⟩
    exact fin 61 _ (by omega) (by rw[ab.dx,if_neg (by omega)];exact eu.BH) (by rw[ab.dx,if_neg (by omega)];exact eu.m_) (eu.ext.hQ (by omega))
 obtain⟨e,r,d,q,aw,df,lZ,db,lr⟩:=w
 exact⟨lZ,Xw (intr:=ea) (n:=m+1) (args:=[v]) Tryz.func16 (by kernel_rfl) rfl (by kernel_rfl) ⟨e,r,d,q,aw,df,db⟩,lr⟩
theorem IW{a b:Nat}(h:a≠b):(!fc (Int.ofNat a) (Int.ofNat b))=true:=by
 rw[kS h];rfl
theorem EU{a b:Nat}(h:a=b):(!fc (Int.ofNat a) (Int.ofNat b))=false:=by
 rw[o2 h];rfl
theorem PQ:∀(us bs:List bb),us.length≠bs.length->ki us bs=false
 |[],[],h=>absurd rfl h
 |[],_::_,_=>by rw[ki];all_goals simp
 |_::_,[],_=>by rw[ki];all_goals simp
 |x::us,y::bs,h=>by
  rw[ki,PQ us bs (by simpa using h),Bool.and_false]
theorem c5.strs{B:Nat}{h:ab}{v:ad}{us:List bb}(al:c5 B h v (us.map .str)):(v=.aP/\us=[])\/∃b off cp,v=.slice b off us.length cp/\b<B/\∀i (hi:i<us.length),aq h b (off+i*1)=some (.str us[i]):=by
 rcases al with⟨I,ae⟩|⟨b,off,cp,I,ae,ax,_⟩
 · exact .inl ⟨I,by simpa using ae⟩
 · refine .inr ⟨b,off,cp,by simpa using I,ae,λi hi=>?_⟩
   have:=ax i (by simpa using hi)
   simpa using this
theorem m4{B b i:Nat}{h x:ab}(e:Ext B h x)(ag:b<B):aq x b i=aq h b i:=by
 unfold aq;rw[e.get b ag]
theorem PR:∀(us bs:List aJ),us.length≠bs.length->kj us bs=false
 |[],[],h=>absurd rfl h
 |[],_::_,_=>by rw[kj];all_goals simp
 |_::_,[],_=>by rw[kj];all_goals simp
 |x::us,y::bs,h=>by
  rw[kj,PR us bs (by simpa using h),Bool.and_false]
theorem BI:h6 none none=true:=by rw[h6]
theorem IX(t:aJ):h6 none (some t)=false:=by rw[h6]<;>simp
theorem IY(t:aJ):h6 (some t) none=false:=by rw[h6]<;>simp
theorem EV(v w:ad)(h:ab):
  a5 an Tryz.f56 none call [0] (aj [(0,v),(1,w)] h) (.nrm)
   (aj [(0,v),(1,w)] h):=
 bN [0,1] [] 16 0 0 bM
theorem Zs(h:ab):
  a5 an Tryz.f56 none call [1,0] (aj [(0,.aX),(1,.aX)] h) (.ret)
   (aj [(4,.bool true)] h):=
 bN [4] (.v (.bool true)::cv 4 15 (.v (.bool true)::cv 2 3 [.v (.bool true),.b true])) 16 10 137439150144 (kd (by kernel_rfl:ec an h BinOp.eql 35 (Operand.tmp 7) (Operand.const (Value.pointer none)) ad.aX ad.aX=some (ad.bool true)) (by kernel_rfl:ec an h BinOp.eql 35 (Operand.tmp 13) (Operand.const (Value.pointer none)) ad.aX ad.aX=some (ad.bool true)) (by kernel_rfl:ec an h BinOp.eql 35 (Operand.tmp 16) (Operand.const (Value.pointer none)) ad.aX ad.aX=some (ad.bool true)) bM)
theorem Zt(h:ab):
  a5 an Tryz.f33 none call [1,0] (aj [(0,.aX),(1,.aX)] h) (.ret)
   (aj [(4,.bool true)] h):=
 bN [4] (.v (.bool true)::cv 4 15 (.v (.bool true)::cv 2 3 [.v (.bool true),.b true])) 16 10 137439150144 (kd (by kernel_rfl:ec an h BinOp.eql 35 (Operand.tmp 5) (Operand.const (Value.pointer none)) ad.aX ad.aX=some (ad.bool true)) (by kernel_rfl:ec an h BinOp.eql 35 (Operand.tmp 11) (Operand.const (Value.pointer none)) ad.aX ad.aX=some (ad.bool true)) (by kernel_rfl:ec an h BinOp.eql 35 (Operand.tmp 14) (Operand.const (Value.pointer none)) ad.aX ad.aX=some (ad.bool true)) bM)
theorem Zu(r:Nat)(h:ab):
  a5 an Tryz.f56 none call [1,0] (aj [(0,.aX),(1,af r)] h) (.ret)
   (aj [(4,.bool false)] h):=
 bN [4] (.v (.bool true)::cv 4 15 (.v (.bool true)::cv 2 3 [.v (.bool false),.b true])) 16 10 137439150144 (kd (by kernel_rfl:ec an h BinOp.eql 35 (Operand.tmp 7) (Operand.const (Value.pointer none)) ad.aX ad.aX=some (ad.bool true)) (by kernel_rfl:ec an h BinOp.eql 35 (Operand.tmp 13) (Operand.const (Value.pointer none)) ad.aX ad.aX=some (ad.bool true)) (by kernel_rfl:ec an h BinOp.eql 35 (Operand.tmp 16) (Operand.const (Value.pointer none)) (ad.ptr r 0) ad.aX=some (ad.bool false)) bM)
theorem Zv(r:Nat)(h:ab):
  a5 an Tryz.f33 none call [1,0] (aj [(0,.aX),(1,af r)] h) (.ret)
   (aj [(4,.bool false)] h):=
 bN [4] (.v (.bool true)::cv 4 15 (.v (.bool true)::cv 2 3 [.v (.bool false),.b true])) 16 10 137439150144 (kd (by kernel_rfl:ec an h BinOp.eql 35 (Operand.tmp 5) (Operand.const (Value.pointer none)) ad.aX ad.aX=some (ad.bool true)) (by kernel_rfl:ec an h BinOp.eql 35 (Operand.tmp 11) (Operand.const (Value.pointer none)) ad.aX ad.aX=some (ad.bool true)) (by kernel_rfl:ec an h BinOp.eql 35 (Operand.tmp 14) (Operand.const (Value.pointer none)) (ad.ptr r 0) ad.aX=some (ad.bool false)) bM)
theorem Zw(r:Nat)(h:ab):
  a5 an Tryz.f56 none call [1,0] (aj [(0,af r),(1,.aX)] h) (.ret)
   (aj [(4,.bool false)] h):=
 bN [4] (.v (.bool false)::cv 2 0 (.v (.bool true)::cv 2 1 (.v (.bool false)::cv 3 0 []))) 16 10 142053753105 (kd (by kernel_rfl:ec an h BinOp.eql 35 (Operand.tmp 7) (Operand.const (Value.pointer none)) (ad.ptr r 0) ad.aX=some (ad.bool false)) (by kernel_rfl:ec an h BinOp.eql 35 (Operand.tmp 10) (Operand.const (Value.pointer none)) ad.aX ad.aX=some (ad.bool true)) (by kernel_rfl:ec an h BinOp.eql 35 (Operand.tmp 13) (Operand.const (Value.pointer none)) (ad.ptr r 0) ad.aX=some (ad.bool false)) bM)
theorem Zx(r:Nat)(h:ab):
  a5 an Tryz.f33 none call [1,0] (aj [(0,af r),(1,.aX)] h) (.ret)
   (aj [(4,.bool false)] h):=
 bN [4] (.v (.bool false)::cv 2 0 (.v (.bool true)::cv 2 1 (.v (.bool false)::cv 3 0 []))) 16 10 142053753105 (kd (by kernel_rfl:ec an h BinOp.eql 35 (Operand.tmp 5) (Operand.const (Value.pointer none)) (ad.ptr r 0) ad.aX=some (ad.bool false)) (by kernel_rfl:ec an h BinOp.eql 35 (Operand.tmp 8) (Operand.const (Value.pointer none)) ad.aX ad.aX=some (ad.bool true)) (by kernel_rfl:ec an h BinOp.eql 35 (Operand.tmp 11) (Operand.const (Value.pointer none)) (ad.ptr r 0) ad.aX=some (ad.bool false)) bM)
theorem Zy(r r2:Nat)(h:ab):
  a5 an Tryz.f56 none call [1,0] (aj [(0,af r),(1,af r2)] h) (.nrm)
   (aj [(0,af r),(1,af r2)] h):=
 bN [0,1] (.v (.bool false)::cv 2 0 (.v (.bool false)::cv 2 0 [])) 16 6 2167569 (ji (by kernel_rfl:ec an h BinOp.eql 35 (Operand.tmp 7) (Operand.const (Value.pointer none)) (ad.ptr r 0) ad.aX=some (ad.bool false)) (by kernel_rfl:ec an h BinOp.eql 35 (Operand.tmp 10) (Operand.const (Value.pointer none)) (ad.ptr r2 0) ad.aX=some (ad.bool false)) bM)
theorem Zz(r r2:Nat)(h:ab):
  a5 an Tryz.f33 none call [1,0] (aj [(0,af r),(1,af r2)] h) (.nrm)
   (aj [(0,af r),(1,af r2)] h):=
 bN [0,1] (.v (.bool false)::cv 2 0 (.v (.bool false)::cv 2 0 [])) 16 6 2167569 (ji (by kernel_rfl:ec an h BinOp.eql 35 (Operand.tmp 5) (Operand.const (Value.pointer none)) (ad.ptr r 0) ad.aX=some (ad.bool false)) (by kernel_rfl:ec an h BinOp.eql 35 (Operand.tmp 8) (Operand.const (Value.pointer none)) (ad.ptr r2 0) ad.aX=some (ad.bool false)) bM)
theorem PS(r r2:Nat)(h:ab):
  a5 an Tryz.f56 none call [1,1,1,0,0] (aj [(0,af r),(1,af r2)] h) (.nrm)
   (aj [(0,af r),(1,af r2),(5,J 0)] h):=
 bN [0,1,5] [] 16 0 0 bM
theorem ZA(r r2 i N:Nat)(v:ad)(h:ab)
  (H1:aq h r (0+2)=some v)
  (bh:bV an h 63 v=some (J N))
  (bD:cE i N=false):
  a5 an Tryz.f56 none call [1,1,1,0,1,0,0] (aj [(0,af r),(1,af r2),(5,J i)] h) (.exit 0)
   (aj [(0,af r),(1,af r2)] h):=
 bN [0,1] [.v v,.o (J N),.b false] 16 3 564 (kd H1 bh bD bM)
theorem ZB(r r2 b off N bo c_ M i q a2 j:Nat)(s t:List UInt8)(cp eh:ct)(h:ab)
  (H1:aq h r (0+2)=some (.slice b off N cp))
  (bh:cE i N=true)
  (bD:aq (ab.room h 15) r (0+2)=some (.slice b off N cp))
  (cm:Nat.le (Nat.succ i) N/\ad.ptr b q=ad.ptr b (off+i*1))
  (cS:aq (ab.room h 15) b q=some (.str s))
  (dT:aq (ab.room h 15) r2 (0+2)=some (.slice bo c_ M eh))
  (eS:Nat.le (Nat.succ i) M/\ad.ptr bo a2=ad.ptr bo (c_+i*1))
  (g6:aq (ab.room h 15) bo a2=some (.str t))
  (jB:(!c1 s t)=true):
  a5 an Tryz.f56 none call [1,1,1,0,1,0,0] (aj [(0,af r),(1,af r2),(5,J i)] h) (.ret)
   (aj [(0,af r),(1,af r2),(4,.bool false),(5,J i)] (ab.room h 15)):=
 bN [0,1,4,5] [.v (.slice b off N cp),.b true,.v (.slice b off N cp),.v (.ptr b q),.v (.str s),.v (.slice bo c_ M eh),.v (.ptr bo a2),.v (.str t),.b true] 256 39 0x2030405060708090a0b0a0b0c0d0e040f101105120613141314151617070f10180819091a1b1c (fJ H1 bh bD cm cS dT eS g6 (ca (af r))<|fJ (dN (af r)) (ca (.ptr r (0+2))) (dN (.ptr r (0+2))) (ca (.slice b off N cp)) (ca (J i)) (dN (J i)) (ca (.ptr b q)) (ca (.str s)) (ca (af r2))<|fJ (dN (af r2)) (ca (.ptr r2 (0+2))) (dN (.ptr r2 (0+2))) (ca (.slice bo c_ M eh)) (ca (.ptr bo a2)) (ca (.str t)) (ca (.bool !c1 s t)) (by kernel_rfl:(ad.bool !c1 s t)=ad.bool !c1 s t) jB bM)
theorem ZC(r r2 b off N bo c_ M i q a2 j:Nat)(s t:List UInt8)(cp eh:ct)(h:ab)
  (H1:aq h r (0+2)=some (.slice b off N cp))
  (bh:cE i N=true)
  (bD:aq (ab.room h 15) r (0+2)=some (.slice b off N cp))
  (cm:Nat.le (Nat.succ i) N/\ad.ptr b q=ad.ptr b (off+i*1))
  (cS:aq (ab.room h 15) b q=some (.str s))
  (dT:aq (ab.room h 15) r2 (0+2)=some (.slice bo c_ M eh))
  (eS:Nat.le (Nat.succ i) M/\ad.ptr bo a2=ad.ptr bo (c_+i*1))
  (g6:aq (ab.room h 15) bo a2=some (.str t))
  (jB:(!c1 s t)=false)
  (mv:arith .add .i64 (.ofNat i) (.ofNat 1)=some (J j)):
  a5 an Tryz.f56 none call [1,1,1,0,1,0,0] (aj [(0,af r),(1,af r2),(5,J i)] h) (.nrm)
   (aj [(0,af r),(1,af r2),(5,J j)] (ab.room h 15)):=
 bN [0,1,4,5] [.v (.slice b off N cp),.b true,.v (.slice b off N cp),.v (.ptr b q),.v (.str s),.v (.slice bo c_ M eh),.v (.ptr bo a2),.v (.str t),.b false,.v (J j)] 256 40 0x2030405060708090a0b0a0b0c0d0e040f101105120613141314151617070f10180819091a1b1c1d (fJ H1 bh bD cm cS dT eS g6 (ca (af r))<|fJ (dN (af r)) (ca (.ptr r (0+2))) (dN (.ptr r (0+2))) (ca (.slice b off N cp)) (ca (J i)) (dN (J i)) (ca (.ptr b q)) (ca (.str s)) (ca (af r2))<|fJ (dN (af r2)) (ca (.ptr r2 (0+2))) (dN (.ptr r2 (0+2))) (ca (.slice bo c_ M eh)) (ca (.ptr bo a2)) (ca (.str t)) (ca (.bool !c1 s t)) (by kernel_rfl:(ad.bool !c1 s t)=ad.bool !c1 s t) jB<|hR mv bM)
theorem PT(r r2:Nat)(h:ab):
  a5 an Tryz.f56 none call [1,1,1,1,0,0] (aj [(0,af r),(1,af r2)] h) (.nrm)
   (aj [(0,af r),(1,af r2),(6,J 0)] h):=
 bN [0,1,6] [] 16 0 0 bM
theorem ZD(r r2 i N:Nat)(v:ad)(h:ab)
  (H1:aq h r (0+3)=some v)
  (bh:bV an h 50 v=some (J N))
  (bD:cE i N=false):
  a5 an Tryz.f56 none call [1,1,1,1,0,1,0,0] (aj [(0,af r),(1,af r2),(6,J i)] h) (.exit 2)
   (aj [(0,af r),(1,af r2)] h):=
 bN [0,1] [.v v,.o (J N),.b false] 16 3 564 (kd H1 bh bD bM)
theorem ZE(r r2 b off N bo c_ M i q a2 j:Nat)(x y:ad)(c9:Bool)(cp eh:ct)(h g:ab)
  (H1:aq h r (0+3)=some (.slice b off N cp))
  (bh:cE i N=true)
  (bD:aq (ab.room h 16) r (0+3)=some (.slice b off N cp))
  (cm:Nat.le (Nat.succ i) N/\ad.ptr b q=ad.ptr b (off+i*1))
  (cS:aq (ab.room h 16) b q=some x)
  (dT:aq (ab.room h 16) r2 (0+3)=some (.slice bo c_ M eh))
  (eS:Nat.le (Nat.succ i) M/\ad.ptr bo a2=ad.ptr bo (c_+i*1))
  (g6:aq (ab.room h 16) bo a2=some y)
  (jB:call (.fn 56) [x,y] (ab.room h 16)=bE.ret (.bool c9) g)
  (mv:ad.sound x=true:=by first|with_reducible assumption|rfl|exact c5.snd (by with_reducible assumption)|exact c5.fL (by with_reducible assumption)|exact d_.snd (by with_reducible assumption)|exact d_.fL (by with_reducible assumption)|exact dP.snd (by with_reducible assumption)|exact dP.fL (by with_reducible assumption))
  (pa:ad.sound y=true:=by first|with_reducible assumption|rfl|exact c5.snd (by with_reducible assumption)|exact c5.fL (by with_reducible assumption)|exact d_.snd (by with_reducible assumption)|exact d_.fL (by with_reducible assumption)|exact dP.snd (by with_reducible assumption)|exact dP.fL (by with_reducible assumption))
  (qQ:(!c9)=true):
  a5 an Tryz.f56 none call [1,1,1,1,0,1,0,0] (aj [(0,af r),(1,af r2),(6,J i)] h) (.ret)
   (aj [(0,af r),(1,af r2),(4,.bool false),(6,J i)] g):=
 bN [0,1,4,6] [.v (.slice b off N cp),.b true,.v (.slice b off N cp),.v (.ptr b q),.v x,.v (.slice bo c_ M eh),.v (.ptr bo a2),.v y,.c (.bool c9) g,.b true] 256 40 0x2030405060708090a0b0c0b0c0d0e0f041011120513061415141516171807101119081a091b1c1d (fJ H1 bh bD cm cS dT eS g6 jB<|fJ (ca (af r)) (dN (af r)) (ca (.ptr r (0+3))) (dN (.ptr r (0+3))) (ca (.slice b off N cp)) (ca (J i)) (dN (J i)) (ca (.ptr b q)) mv<|fJ (ca (af r2)) (dN (af r2)) (ca (.ptr r2 (0+3))) (dN (.ptr r2 (0+3))) (ca (.slice bo c_ M eh)) (ca (.ptr bo a2)) pa (ca (.bool !c9)) (by kernel_rfl:(ad.bool !c9)=ad.bool !c9)<|hR qQ bM)
theorem ZF(r r2 b off N bo c_ M i q a2 j:Nat)(x y:ad)(c9:Bool)(cp eh:ct)(h g:ab)
  (H1:aq h r (0+3)=some (.slice b off N cp))
  (bh:cE i N=true)
  (bD:aq (ab.room h 16) r (0+3)=some (.slice b off N cp))
  (cm:Nat.le (Nat.succ i) N/\ad.ptr b q=ad.ptr b (off+i*1))
  (cS:aq (ab.room h 16) b q=some x)
  (dT:aq (ab.room h 16) r2 (0+3)=some (.slice bo c_ M eh))
  (eS:Nat.le (Nat.succ i) M/\ad.ptr bo a2=ad.ptr bo (c_+i*1))
  (g6:aq (ab.room h 16) bo a2=some y)
  (jB:call (.fn 56) [x,y] (ab.room h 16)=bE.ret (.bool c9) g)
  (mv:ad.sound x=true:=by first|with_reducible assumption|rfl|exact c5.snd (by with_reducible assumption)|exact c5.fL (by with_reducible assumption)|exact d_.snd (by with_reducible assumption)|exact d_.fL (by with_reducible assumption)|exact dP.snd (by with_reducible assumption)|exact dP.fL (by with_reducible assumption))
  (pa:ad.sound y=true:=by first|with_reducible assumption|rfl|exact c5.snd (by with_reducible assumption)|exact c5.fL (by with_reducible assumption)|exact d_.snd (by with_reducible assumption)|exact d_.fL (by with_reducible assumption)|exact dP.snd (by with_reducible assumption)|exact dP.fL (by with_reducible assumption))
  (qQ:(!c9)=false)
  (w8:arith .add .i64 (.ofNat i) (.ofNat 1)=some (J j)):
  a5 an Tryz.f56 none call [1,1,1,1,0,1,0,0] (aj [(0,af r),(1,af r2),(6,J i)] h) (.nrm)
   (aj [(0,af r),(1,af r2),(6,J j)] g):=
 bN [0,1,4,6] [.v (.slice b off N cp),.b true,.v (.slice b off N cp),.v (.ptr b q),.v x,.v (.slice bo c_ M eh),.v (.ptr bo a2),.v y,.c (.bool c9) g,.b false,.v (J j)] 256 41 0x2030405060708090a0b0c0b0c0d0e0f041011120513061415141516171807101119081a091b1c1d1e (fJ H1 bh bD cm cS dT eS g6 jB<|fJ (ca (af r)) (dN (af r)) (ca (.ptr r (0+3))) (dN (.ptr r (0+3))) (ca (.slice b off N cp)) (ca (J i)) (dN (J i)) (ca (.ptr b q)) mv<|fJ (ca (af r2)) (dN (af r2)) (ca (.ptr r2 (0+3))) (dN (.ptr r2 (0+3))) (ca (.slice bo c_ M eh)) (ca (.ptr bo a2)) pa (ca (.bool !c9)) (by kernel_rfl:(ad.bool !c9)=ad.bool !c9)<|ji qQ w8 bM)
theorem ZG(h:ab):
  a5 an Tryz.f56 none call [1,1,1,1,1] (aj [] h) (.ret)
   (aj [(4,.bool true)] h):=
 bN [4] [] 16 0 0 bM
theorem PU(v w:ad)(h:ab):
  a5 an Tryz.f33 none call [0] (aj [(0,v),(1,w)] h) (.nrm)
   (aj [(0,v),(1,w)] h):=
 bN [0,1] [] 16 0 0 bM
theorem ZH(v w:ad)(k b0:Nat)(c9:Bool)(h ak av aD:ab)
  (H1:call (.fn 52) [v] h=bE.ret (J k) ak)
  (bh:jU k 60=true)
  (bD:call (.fn 52) [w] ak=bE.ret (J b0) av)
  (cm:jU b0 60=true)
  (cS:call (.fn 56) [v,w] av=bE.ret (.bool c9) aD):
  a5 an Tryz.f33 none call [1,1] (aj [(0,v),(1,w)] h) (.ret)
   (aj [(4,.bool c9)] aD):=
 bN [4] (.c (J k) ak::cv 2 3 (.c (J b0) av::cv 5 31 [.c (.bool c9) aD,.b true])) 16 11 2419194156389 (mX H1 bh bD cm cS bM)
theorem ZI(v w:ad)(k b0:Nat)(c9:Bool)(h ak av aD:ab)
  (H1:call (.fn 52) [v] h=bE.ret (J k) ak)
  (bh:jU k 60=true)
  (bD:call (.fn 52) [w] ak=bE.ret (J b0) av)
  (cm:jU b0 60=false):
  a5 an Tryz.f33 none call [1,1] (aj [(0,v),(1,w)] h) (.ret)
   (aj [(4,.bool false)] av):=
 bN [4] (.c (J k) ak::cv 2 3 (.c (J b0) av::cv 6 48 [])) 16 10 151199634773 (mW H1 bh bD cm bM)
theorem ZJ(v w:ad)(k b0:Nat)(c9:Bool)(h ak av aD:ab)
  (H1:call (.fn 52) [v] h=bE.ret (J k) ak)
  (bh:jU k 60=false):
  a5 an Tryz.f33 none call [1,1] (aj [(0,v),(1,w)] h) (.ret)
   (aj [(4,.bool false)] ak):=
 bN [4] (.c (J k) ak::cv 8 0 []) 16 9 9448919313 (ji H1 bh bM)
theorem c5.td{B:Nat}{h g:ab}{v:ad}{us:List bb}(al:c5 B h v (us.map .str)):bV an g 63 v=some (J us.length):=by
 have:=c5.len (g:=g) (t:=63) (e:=9) (by kernel_rfl) al
 rwa [List.length_map] at this
theorem c5.oo{B:Nat}{h g:ab}{v:ad}{vs:List ad}(al:c5 B h v vs):bV an g 50 v=some (J vs.length):=c5.len (e:=35) (by kernel_rfl) al
theorem PV{B R cC:Nat}{h:ab}{us bs:List bb}{bA aU cY uX jn uY jy aj IZ I0:ad}{bq yZ:hb}{lo up oL y0:Nat}(call:aW)(dV:R<B)(w9:cC<B)(ar:h.get R=some (.cells [jy,aj,bA,aU,cY] 80 bq lo up))(m5:h.get cC=some (.cells [IZ,I0,uX,jn,uY] 80 yZ oL y0))(aV:c5 B h bA (us.map .str))(ag:c5 B h uX (bs.map .str))(aA:us.length=bs.length)(hlen:us.length<=90000):∀(k i:Nat) (x:ab),us.length-i=k->i<=us.length->Ext B h x->
  ∃e Γ y,fX an Tryz.f56 none call [1,1,1,0,1,0] (k+1) ⟨[(0,.ptr R 0),(1,.ptr cC 0),(5,J i)],[],.none,x⟩ e (aks Γ y)/\
   ((e=.exit 0/\Γ=[(0,.ptr R 0),(1,.ptr cC 0)]/\ki (us.drop i) (bs.drop i)=true)\/(e=.ret/\Γ=[(4,.bool false)]/\ki (us.drop i) (bs.drop i)=false))/\Ext B h y
 |0,i,x,ay,hi,aa=>by
  obtain rfl:i=us.length:=by omega
  rw[List.drop_of_length_le (Nat.le_refl _),aA,List.drop_of_length_le (Nat.le_refl _)]
  have eU:=(aa.get R dV).trans ar
  exact⟨_,_,_,.exit (ZA call R cC _ us.length bA x (aF eU rfl) aV.td (fI (by omega))) (by simp),.inl ⟨rfl,rfl,by rw[ki]⟩,aa⟩
 |k+1,i,x,ay,hi,aa=>by
  have I:i<us.length:=by omega
  have ae:i<bs.length:=by omega
  have eU:=(aa.get R dV).trans ar
  have ZK:=(aa.get cC w9).trans m5
  have ao:=aa.iT (k:=15)
  have hT:=(ao.get R dV).trans ar
  have BJ:=(ao.get cC w9).trans m5
  rcases aV.strs with⟨_,rfl⟩|⟨b,off,cp,rfl,g2,iq⟩
  · simp at I
  rcases ag.strs with⟨_,rfl⟩|⟨bo,c_,eh,rfl,fh,hD⟩
  · simp at ae
  have aG:aq (x.room 15) b (off+i*1)=some (.str us[i]):=(m4 ao g2).trans (iq i I)
  have aE:aq (x.room 15) bo (c_+i*1)=some (.str bs[i]):=(m4 ao fh).trans (hD i ae)
  rw[List.drop_eq_getElem_cons I,List.drop_eq_getElem_cons ae,ki]
  cases ah:c1 us[i] bs[i] with
  |true=>
   obtain⟨e,Γ,y,bt,bw,dL⟩:=PV call dV w9 ar m5 aV ag aA hlen k (i+1) (x.room 15) (by omega) (by omega) ao
   refine⟨e,Γ,y,.step (ZC call R cC b off us.length bo c_ bs.length i (off+i*1) (c_+i*1) (i+1) us[i] bs[i] cp eh x (aF eU rfl) (eD I) (aF hT rfl) ⟨I,rfl⟩ aG (aF BJ rfl) ⟨ae,rfl⟩ aE (by rw[ah];rfl) (la I (by omega))) bt,?_,dL⟩
   rw[Bool.true_and];exact bw
  |false=>
   exact⟨_,[(4,.bool false)],_,.exit (dA.post (ZB call R cC b off us.length bo c_ bs.length i (off+i*1) (c_+i*1) 0 us[i] bs[i] cp eh x (aF eU rfl) (eD I) (aF hT rfl) ⟨I,rfl⟩ aG (aF BJ rfl) ⟨ae,rfl⟩ aE (by rw[ah];rfl)) ⟨rfl,trivial⟩) (by simp),.inr ⟨rfl,rfl,by rw[Bool.false_and]⟩,ao⟩
abbrev ZL(m B:Nat)(h:ab)(xs ys:List aJ)(vs ws:List ad):Prop:=∀i (I:i<vs.length) (ae:i<ws.length) (ax:i<xs.length) (aN:i<ys.length) x,Ext B h x->∃aw,Y m (.fn 56) [vs[i],ws[i]] x=.ret (.bool (w1 xs[i] ys[i])) aw/\Ext B x aw
theorem PW{B R cC:Nat}{h:ab}{bA aU cY uX jn uY jy aj IZ I0:ad}{bq yZ:hb}{lo up oL y0:Nat}{m:Nat}{xs ys:List aJ}{vs ws:List ad}(dV:R<B)(w9:cC<B)(ar:h.get R=some (.cells [jy,aj,bA,aU,cY] 80 bq lo up))(m5:h.get cC=some (.cells [IZ,I0,uX,jn,uY] 80 yZ oL y0))(aV:c5 B h aU vs)(ag:c5 B h jn ws)(lf:dZ B h xs vs)(EW:dZ B h ys ws)(aA:vs.length=ws.length)(hlen:vs.length<=90000)(bl:ZL m B h xs ys vs ws):∀(k i:Nat) (x:ab),vs.length-i=k->i<=vs.length->Ext B h x->
  ∃e Γ y,fX an Tryz.f56 none (Y m) [1,1,1,1,0,1,0] (k+1) ⟨[(0,.ptr R 0),(1,.ptr cC 0),(6,J i)],[],.none,x⟩ e (aks Γ y)/\
   ((e=.exit 2/\Γ=[(0,.ptr R 0),(1,.ptr cC 0)]/\kj (xs.drop i) (ys.drop i)=true)\/(e=.ret/\Γ=[(4,.bool false)]/\kj (xs.drop i) (ys.drop i)=false))/\Ext B h y
 |0,i,x,ay,hi,aa=>by
  have fH:=dZ.len lf
  have x0:=dZ.len EW
  obtain rfl:i=vs.length:=by omega
  rw[List.drop_of_length_le (by omega),List.drop_of_length_le (by omega)]
  have eU:=(aa.get R dV).trans ar
  exact⟨_,_,_,.exit (ZD (Y m) R cC _ vs.length aU x (aF eU rfl) aV.oo (fI (by omega))) (by simp),.inl ⟨rfl,rfl,by rw[kj]⟩,aa⟩
 |k+1,i,x,ay,hi,aa=>by
  have fH:=dZ.len lf
  have x0:=dZ.len EW
  have I:i<vs.length:=by omega
  have ae:i<ws.length:=by omega
  have ax:i<xs.length:=by omega
  have aN:i<ys.length:=by omega
  have eU:=(aa.get R dV).trans ar
  have ZK:=(aa.get cC w9).trans m5
  have ao:=aa.iT (k:=16)
  have hT:=(ao.get R dV).trans ar
  have BJ:=(ao.get cC w9).trans m5
  have t1:=dZ.get lf i I ax
  have t2:=dZ.get EW i ae aN
  rcases aV with⟨_,rfl⟩|⟨b,off,cp,rfl,g2,iq,pb⟩
  · simp at I
  rcases ag with⟨_,rfl⟩|⟨bo,c_,eh,rfl,fh,hD,oq⟩
  · simp at ae
  have aG:aq (x.room 16) b (off+i*1)=some vs[i]:=(m4 ao g2).trans (iq i I)
  have aE:aq (x.room 16) bo (c_+i*1)=some ws[i]:=(m4 ao fh).trans (hD i ae)
  rw[List.drop_eq_getElem_cons ax,List.drop_eq_getElem_cons aN,kj]
  obtain⟨g,aM,bf⟩:=bl i I ae ax aN (x.room 16) ao
  have qR:Ext B h g:=ao.trans (Nat.le_refl _) bf
  cases ah:w1 xs[i] ys[i] with
  |true=>
   rw[ah] at aM
   obtain⟨e,Γ,y,bt,bw,dL⟩:=PW dV w9 ar m5 (.inr ⟨b,off,cp,rfl,g2,iq,pb⟩) (.inr ⟨bo,c_,eh,rfl,fh,hD,oq⟩) lf EW aA hlen bl k (i+1) g (by omega) (by omega) qR
   refine⟨e,Γ,y,.step (ZF (Y m) R cC b off vs.length bo c_ ws.length i (off+i*1) (c_+i*1) (i+1) vs[i] ws[i] true cp eh x g (aF eU rfl) (eD I) (aF hT rfl) ⟨I,rfl⟩ aG (aF BJ rfl) ⟨ae,rfl⟩ aE aM t1.snd t2.snd rfl (la I (by omega))) bt,?_,dL⟩
   rw[Bool.true_and];exact bw
  |false=>
   rw[ah] at aM
   exact⟨_,[(4,.bool false)],_,.exit (dA.post (ZE (Y m) R cC b off vs.length bo c_ ws.length i (off+i*1) (c_+i*1) 0 vs[i] ws[i] false cp eh x g (aF eU rfl) (eD I) (aF hT rfl) ⟨I,rfl⟩ aG (aF BJ rfl) ⟨ae,rfl⟩ aE aM t1.snd t2.snd rfl) ⟨rfl,trivial⟩) (by simp),.inr ⟨rfl,rfl,by rw[Bool.false_and]⟩,qR⟩
theorem ZM(m:Nat)(h:ab):Y (m+1) (.fn 56) [.aX,.aX] h=.ret (.bool true) h:=
 gR (intr:=ea) (n:=m) (args:=[.aX,.aX]) Tryz.func56 (dG [] (EV (Y m) _ _ h) (jR [1] (Zs (Y m) h) (by simp))) (.inl rfl) (by kernel_rfl)
theorem ZN(m R:Nat)(h:ab):Y (m+1) (.fn 56) [.aX,.ptr R 0] h=.ret (.bool false) h:=
 gR (intr:=ea) (n:=m) (args:=[.aX,.ptr R 0]) Tryz.func56 (dG [] (EV (Y m) _ _ h) (jR [1] (Zu (Y m) R h) (by simp))) (.inl rfl) (by kernel_rfl)
theorem ZO(m R:Nat)(h:ab):Y (m+1) (.fn 56) [.ptr R 0,.aX] h=.ret (.bool false) h:=
 gR (intr:=ea) (n:=m) (args:=[.ptr R 0,.aX]) Tryz.func56 (dG [] (EV (Y m) _ _ h) (jR [1] (Zw (Y m) R h) (by simp))) (.inl rfl) (by kernel_rfl)
theorem ZP(r r2:Nat)(h:ab)(H:∃aB,aq (h.room 58) r 0=some (J aB)/\∃aY,aq (h.room 58) r2 0=some (J aY)/\(aB=aY->∃s1,aq (h.room 58) r 1=some (.str s1)/\∃s2,aq (h.room 58) r2 1=some (.str s2)/\((!c1 s1 s2)=true->Q .ret (aj [(0,af r),(1,af r2),(4,.bool false)] (h.room 58)))/\((!c1 s1 s2)=false->∃v1,aq (h.room 58) r 2=some v1/\∃bd,bV an (h.room 58) 63 v1=some (J bd)/\∃v2,aq (h.room 58) r2 2=some v2/\∃bj,bV an (h.room 58) 63 v2=some (J bj)/\(bd=bj->∃b8,aq (h.room 58) r 3=some b8/\∃bC,bV an (h.room 58) 50 b8=some (J bC)/\∃v4,aq (h.room 58) r2 3=some v4/\∃bP,bV an (h.room 58) 50 v4=some (J bP)/\(bC=bP->∃eC,aq (h.room 58) r 4=some eC/\∃v6,aq (h.room 58) r2 4=some v6/\∃bn ak,call (.fn 56) [eC,v6] (h.room 58)=.ret (.bool bn) ak/\cr v1/\cr v2/\cr b8/\cr v4/\cr eC/\cr v6/\(bn=true->Q .nrm (aj [(0,af r),(1,af r2)] ak))/\(bn=false->Q .ret (aj [(0,af r),(1,af r2),(4,.bool false)] ak)))/\(¬bC=bP->cr v1/\cr v2/\cr b8/\cr v4/\Q .ret (aj [(0,af r),(1,af r2),(4,.bool false)] (h.room 58))))/\(¬bd=bj->cr v1/\cr v2/\Q .ret (aj [(0,af r),(1,af r2),(4,.bool false)] (h.room 58)))))/\(¬aB=aY->Q .ret (aj [(0,af r),(1,af r2),(4,.bool false)] (h.room 58)))):
  bp an Tryz.f56 call [1,1,0] (aj [(0,af r),(1,af r2)] h) Q:=
 c3 [(69,.a1 .o),(73,.a1 .o)] [0,1,2,4] [] H
theorem PX:∀(K:Nat) (oa ob:Option aJ),dk oa<=K->dk oa<=90000->(∀t,oa=some t->iE t<=90000)->∀(m B:Nat) (h:ab) (v w:ad),dk oa+1<=m->d_ B h oa v->d_ B h ob w->∃aw,Y m (.fn 56) [v,w] h=.ret (.bool (h6 oa ob)) aw/\Ext B h aw
 |K,none,none,_,_,_,m,B,h,v,w,hm,aI,hw=>by
  obtain rfl:v=.aX:=aI
  obtain rfl:w=.aX:=hw
  obtain⟨m,rfl⟩:∃j,m=j+1:=⟨m-1,by omega⟩
  rw[BI]
  exact⟨h,ZM m h,Ext.refl _ _⟩
 |K,none,some (.mk bG b0 dF gA hg),_,_,_,m,B,h,v,w,hm,aI,hw=>by
  obtain rfl:v=.aX:=aI
  obtain⟨R,bA,aU,cY,vs,bq,lo,up,rfl,ae,ax,aN,bS,cz,dw⟩:=hw
  obtain⟨m,rfl⟩:∃j,m=j+1:=⟨m-1,by omega⟩
  rw[IX]
  exact⟨h,ZN m R h,Ext.refl _ _⟩
 |K,some (.mk bG b0 dF gA hg),none,_,_,_,m,B,h,v,w,hm,aI,hw=>by
  obtain rfl:w=.aX:=hw
  obtain⟨R,bA,aU,cY,vs,bq,lo,up,rfl,ae,ax,aN,bS,cz,dw⟩:=aI
  obtain⟨m,rfl⟩:∃j,m=j+1:=⟨m-1,by omega⟩
  rw[IY]
  exact⟨h,ZO m R h,Ext.refl _ _⟩
 |0,some t,some u,dg,_,_,m,B,h,v,w,hm,aI,hw=>by
  rw[jk] at dg
  have:=p0 t
  omega
 |K+1,some (.mk k nm ns xs rt),some (.mk cO nw oh m2 nx),dg,hz,ig,m,B,h,v,w,hm,aI,hw=>by
  rw[jk,l3] at dg hz hm
  obtain⟨R,bA,aU,cY,vs,bq,lo,up,rfl,ae,ax,aN,bS,cz,dw⟩:=aI
  obtain⟨cC,uX,jn,uY,sN,yZ,oL,y0,rfl,rK,te,x3,PY,I1,ZQ⟩:=hw
  obtain⟨m,rfl⟩:∃j,m=j+1:=⟨m-1,by omega⟩
  have aH:=ig _ rfl
  rw[iE] at aH
  have fH:=dZ.len cz
  have x0:=dZ.len I1
  have ks:=mo xs
  have mu:Ext B h (h.room 58):=Ext.room B h 58
  have w6:=(mu.get R ae).trans ax
  have BK:=(mu.get cC rK).trans te
  have bl:∀(oa ob:Option aJ),dk oa<=K->dk oa<=90000->(∀t,oa=some t->iE t<=90000)->∀(m B:Nat) (h:ab) (v w:ad),dk oa+1<=m->d_ B h oa v->d_ B h ob w->∃aw,Y m (.fn 56) [v,w] h=.ret (.bool (h6 oa ob)) aw/\Ext B h aw:=PX K
  have g1:h6 (some (.mk k nm ns xs rt)) (some (.mk cO nw oh m2 nx))=(Nat.beq k cO&&(c1 nm nw&&(ki ns oh&&(kj xs m2&&h6 rt nx)))):=by rw[h6,w1]
  rw[g1]
  have fin:∀b y,a5 an Tryz.f56 none (Y m) [1,1] ⟨[(0,.ptr R 0),(1,.ptr cC 0)],[],.none,h⟩ .ret ⟨[(4,.bool b)],[],.none,y⟩->b=(Nat.beq k cO&&(c1 nm nw&&(ki ns oh&&(kj xs m2&&h6 rt nx))))->Ext B h y->∃aw,Y (m+1) (.fn 56) [.ptr R 0,.ptr cC 0] h=.ret (.bool (Nat.beq k cO&&(c1 nm nw&&(ki ns oh&&(kj xs m2&&h6 rt nx))))) aw/\Ext B h aw:=λb y ao ag aa=>by
   rw[<-ag]
   exact⟨y,gR (intr:=ea) (n:=m) (args:=[.ptr R 0,.ptr cC 0]) Tryz.func56 (dG [] (EV (Y m) _ _ h) (dG [1] (Zy (Y m) R cC h) ao)) (.inl rfl) (by kernel_rfl),aa⟩
  have ZR:∀y,a5 an Tryz.f56 none (Y m) [1,1,0] ⟨[(0,.ptr R 0),(1,.ptr cC 0)],[],.none,h⟩ .ret ⟨[(0,.ptr R 0),(1,.ptr cC 0),(4,.bool false)],[],.none,y⟩->(Nat.beq k cO&&(c1 nm nw&&(ki ns oh&&(kj xs m2&&h6 rt nx))))=false->Ext B h y->∃aw,Y (m+1) (.fn 56) [.ptr R 0,.ptr cC 0] h=.ret (.bool (Nat.beq k cO&&(c1 nm nw&&(ki ns oh&&(kj xs m2&&h6 rt nx))))) aw/\Ext B h aw:=λy ao ag aa=>
   fin false y (jR [1,1] (dA.post ao ⟨rfl,trivial⟩) (by simp)) ag.symm aa
  have gv:=hk.ext mu (Nat.le_refl _)
  obtain⟨aD,ee,dh⟩:=bl rt nx (by omega) (by omega) (λt bm=>by subst bm;rw[m3] at aH;omega) m B (h.room 58) cY uY (by omega) (d_.bB gv _ _ dw) (d_.bB gv _ _ ZQ)
  have PZ:Ext B h aD:=mu.trans (Nat.le_refl _) dh
  have no:∀(y:ab),(Nat.beq k cO&&(c1 nm nw&&(ki ns oh&&(kj xs m2&&h6 rt nx))))=false->Ext B h y->∃Dj,(bW.ret=.ret/\(⟨[(0,.ptr R 0),(1,.ptr cC 0),(4,.bool false)],[],.none,y⟩:bL)=⟨[(0,.ptr R 0),(1,.ptr cC 0),(4,.bool false)],[],.none,Dj⟩/\(Nat.beq k cO&&(c1 nm nw&&(ki ns oh&&(kj xs m2&&h6 rt nx))))=false/\Ext B h Dj):=λy I ae=>⟨y,rfl,rfl,I,ae⟩
  have uB:=ZP (Y m) R cC h (Q:=λe s=>(∃y,e=.ret/\s=⟨[(0,.ptr R 0),(1,.ptr cC 0),(4,.bool false)],[],.none,y⟩/\(Nat.beq k cO&&(c1 nm nw&&(ki ns oh&&(kj xs m2&&h6 rt nx))))=false/\Ext B h y)\/(e=.nrm/\s=⟨[(0,.ptr R 0),(1,.ptr cC 0)],[],.none,aD⟩/\k=cO/\c1 nm nw=true/\ns.length=oh.length/\vs.length=sN.length/\h6 rt nx=true)) (by
   refine⟨k,aF w6 rfl,cO,aF BK rfl,λay=>⟨nm,aF w6 rfl,nw,aF BK rfl,λal=>.inl (no _ (by rw[show c1 nm nw=false by simpa using al];simp) mu),λal=>?_⟩,λay=>.inl (no _ ?_ mu)⟩
   · refine⟨bA,aF w6 rfl,_,aN.td,uX,aF BK rfl,_,x3.td,λsB=>⟨aU,aF w6 rfl,_,bS.oo,jn,aF BK rfl,_,PY.oo,λlf=>⟨cY,aF w6 rfl,uY,aF BK rfl,_,aD,ee,p3,p3,p3,p3,p3,p3,λag=>.inr ⟨rfl,rfl,ay,by simpa using al,sB,lf,ag⟩,λag=>.inl (no _ (by rw[ag];simp) PZ)⟩,λlf=>⟨p3,p3,p3,p3,.inl (no _ (by rw[PR xs m2 (by omega)];simp) mu)⟩⟩,λsB=>⟨p3,p3,.inl (no _ (by rw[PQ ns oh sB];simp) mu)⟩⟩
   · have l2:Nat.beq k cO=false:=by
       cases aa:Nat.beq k cO with
       |false=>rfl
       |true=>exact absurd (Nat.eq_of_beq_eq_true aa) ay
     rw[l2];rfl)
  obtain⟨e,st,s1,⟨y,rfl,rfl,a8,a2⟩|⟨rfl,rfl,ay,g2,sB,lf,ZS⟩⟩:=uB
  · exact ZR _ s1 a8 a2
  · rw[g2,ZS] at fin⊢
    obtain⟨e,Γ,y,bt,bw,dL⟩:=PV (Y m) ae rK ax te aN x3 sB (by omega) ns.length 0 aD (by omega) (by omega) PZ
    have h8:=fX.run (p:=[1,1,1,0,1,0]) (by kernel_rfl) bt (by omega)
    rw[List.drop_zero,List.drop_zero] at bw
    have tf:Nat.beq k cO=true:=by subst ay;exact Nat.beq_refl k
    rcases bw with⟨rfl,rfl,w7⟩|⟨rfl,rfl,w7⟩
    · have cT:=dG [1,1,1,0] (PS (Y m) R cC aD) (a5.block (p:=[1,1,1,0,1]) (id:=0) (by kernel_rfl) h8)
      obtain⟨e,Γ,z,aB,aY,bd⟩:=PW (m:=m) (xs:=xs) (ys:=m2) ae rK ax te bS PY cz I1 lf (by omega) (λi i1 i2 i3 i4 x aa=>by
       have je:=p1 (List.getElem_mem i3)
       have iN:=yS (List.getElem_mem i3)
       have:=bl (some xs[i]) (some m2[i]) (by rw[jk];omega) (by rw[jk];omega) (λt bm=>by obtain rfl:=Option.some.inj bm;omega) m B x vs[i] sN[i] (by rw[jk];omega) (dP.bB (hk.ext aa (Nat.le_refl _)) _ _ (dZ.get cz i i1 i3)) (dP.bB (hk.ext aa (Nat.le_refl _)) _ _ (dZ.get I1 i i2 i4))
       simpa only[h6] using this) vs.length 0 y (by omega) (by omega) dL
      have bj:=fX.run (p:=[1,1,1,1,0,1,0]) (by kernel_rfl) aB (by omega)
      rw[List.drop_zero,List.drop_zero] at aY
      rcases aY with⟨rfl,rfl,bP⟩|⟨rfl,rfl,bP⟩
      · have dv:=dG [1,1,1,1,0] (PT (Y m) R cC y) (a5.block (p:=[1,1,1,1,0,1]) (id:=2) (by kernel_rfl) bj)
        exact fin true z (dG [1,1] s1 (dG [1,1,1] cT (dG [1,1,1,1] (dA.post (Γ2:=[]) dv trivial) (ZG (Y m) z)))) (by rw[tf,w7,bP];rfl) bd
      · have dv:=dG [1,1,1,1,0] (PT (Y m) R cC y) (a5.s0 (p:=[1,1,1,1,0,1]) (id:=2) (by kernel_rfl) bj (by simp))
        exact fin false z (dG [1,1] s1 (dG [1,1,1] cT (jR [1,1,1,1] dv (by simp)))) (by rw[bP];simp) bd
    · have cT:=dG [1,1,1,0] (PS (Y m) R cC aD) (a5.s0 (p:=[1,1,1,0,1]) (id:=0) (by kernel_rfl) h8 (by simp))
      exact fin false y (dG [1,1] s1 (jR [1,1,1] cT (by simp))) (by rw[w7];simp) dL
def qS(oa ob:Option aJ):Bool:=decide (dk oa<=60)&&(decide (dk ob<=60)&&h6 oa ob)
theorem I2{n:Nat}(h:n<=60):j5 (Int.ofNat (min n 61)) (Int.ofNat 60)=true:=n8 (by omega)
theorem P0{n:Nat}(h:¬n<=60):j5 (Int.ofNat (min n 61)) (Int.ofNat 60)=false:=pS (by omega)
theorem I3{ot:Option aJ}{B:Nat}{h:ab}{v:ad}{m:Nat}(ag:dk ot<=90000)(hm:dk ot<m)(aI:d_ B h ot v):Y (m+1) (.fn 52) [v] h=.ret (J (min (dk ot) 61)) h:=by
 cases ot with
 |none=>
  obtain rfl:v=.aX:=aI
  obtain⟨m,rfl⟩:∃j,m=j+1:=⟨m-1,by omega⟩
  exact gR (intr:=ea) (n:=m+1) (args:=[.aX]) Tryz.func52 (PH (Y (m+1)) _ .aX h h (PJ m 0 h)) (.inl rfl) (by kernel_rfl)
 |some t=>
  rw[jk] at ag hm⊢
  exact PK ag hm aI
theorem I4{oa ob:Option aJ}(h:oa=none\/ob=none):qS oa ob=h6 oa ob:=by
 unfold qS
 have aj:dk none<=60:=by rw[dk];omega
 rcases h with rfl|rfl
 · cases ob with
   |none=>rw[BI];simp[aj]
   |some u=>rw[IX];simp
 · cases oa with
   |none=>rw[BI];simp[aj]
   |some u=>rw[IY];simp
theorem P1{oa ob:Option aJ}{B:Nat}{h:ab}{v w:ad}(m:Nat)(aV:dk oa<=90000)(ag:dk ob<=90000)(aH:∀t,oa=some t->iE t<=90000)(hm:dk oa+dk ob+2<=m)(aI:d_ B h oa v)(hw:d_ B h ob w):
  ∃aw,Y (m+1) (.fn 33) [v,w] h=.ret (.bool (qS oa ob)) aw/\Ext B h aw:=by
 obtain⟨m,rfl⟩:∃j,m=j+1:=⟨m-1,by omega⟩
 have base:∀b,a5 an Tryz.f33 none (Y (m+1)) [1,0] ⟨[(0,v),(1,w)],[],.none,h⟩ .ret ⟨[(4,.bool b)],[],.none,h⟩->qS oa ob=b->∃aw,Y (m+1+1) (.fn 33) [v,w] h=.ret (.bool (qS oa ob)) aw/\Ext B h aw:=λb ao ag=>by
  rw[ag]
  exact⟨h,gR (intr:=ea) (n:=m+1) (args:=[v,w]) Tryz.func33 (dG [] (PU (Y (m+1)) v w h) (jR [1] ao (by simp))) (.inl rfl) (by kernel_rfl),Ext.refl _ _⟩
 cases oa with
 |none=>
  obtain rfl:v=.aX:=aI
  cases ob with
  |none=>
   obtain rfl:w=.aX:=hw
   exact base true (Zt (Y (m+1)) h) (by rw[I4 (.inl rfl),BI])
  |some u=>
   rcases hw.uW with rfl|⟨R,rfl⟩
   · cases u with
     |mk bG b0 dF gA hg=>obtain⟨R,bA,aU,cY,vs,bq,lo,up,aa,_⟩:=hw;cases aa
   · exact base false (Zv (Y (m+1)) R h) (by rw[I4 (.inl rfl),IX])
 |some t=>
  cases ob with
  |none=>
   obtain rfl:w=.aX:=hw
   rcases aI.uW with rfl|⟨R,rfl⟩
   · cases t with
     |mk bG b0 dF gA hg=>obtain⟨R,bA,aU,cY,vs,bq,lo,up,aa,_⟩:=aI;cases aa
   · exact base false (Zx (Y (m+1)) R h) (by rw[I4 (.inr rfl),IY])
  |some u=>
   rcases aI.uW with rfl|⟨R,rfl⟩
   · cases t with
     |mk bG b0 dF gA hg=>obtain⟨R,bA,aU,cY,vs,bq,lo,up,aa,_⟩:=aI;cases aa
   rcases hw.uW with rfl|⟨cC,rfl⟩
   · cases u with
     |mk bG b0 dF gA hg=>obtain⟨R,bA,aU,cY,vs,bq,lo,up,aa,_⟩:=hw;cases aa
   have fin:∀b y,a5 an Tryz.f33 none (Y (m+1)) [1,1] ⟨[(0,.ptr R 0),(1,.ptr cC 0)],[],.none,h⟩ .ret ⟨[(4,.bool b)],[],.none,y⟩->b=qS (some t) (some u)->Ext B h y->∃aw,Y (m+1+1) (.fn 33) [.ptr R 0,.ptr cC 0] h=.ret (.bool (qS (some t) (some u))) aw/\Ext B h aw:=λb y ao ag aa=>by
    rw[<-ag]
    exact⟨y,gR (intr:=ea) (n:=m+1) (args:=[.ptr R 0,.ptr cC 0]) Tryz.func33 (dG [] (PU (Y (m+1)) _ _ h) (dG [1] (Zz (Y (m+1)) R cC h) ao)) (.inl rfl) (by kernel_rfl),aa⟩
   have aM:=I3 (m:=m) aV (by omega) aI
   unfold qS at fin⊢
   by_cases I:dk (some t)<=60
   · have bf:=I3 (m:=m) ag (by omega) hw
     by_cases ae:dk (some u)<=60
     · obtain⟨aD,ee,dh⟩:=PX (dk (some t)) (some t) (some u) (Nat.le_refl _) aV aH (m+1) B h (.ptr R 0) (.ptr cC 0) (by omega) aI hw
       exact fin (h6 (some t) (some u)) aD (ZH (Y (m+1)) (.ptr R 0) (.ptr cC 0) _ _ _ h h h aD aM (I2 I) bf (I2 ae) ee) (by simp[I,ae]) dh
     · exact fin false h (ZI (Y (m+1)) (.ptr R 0) (.ptr cC 0) _ _ false h h h h aM (I2 I) bf (P0 ae)) (by simp[ae]) (Ext.refl _ _)
   · exact fin false h (ZJ (Y (m+1)) (.ptr R 0) (.ptr cC 0) _ 0 false h h h h aM (P0 I)) (by simp[I]) (Ext.refl _ _)
end Go.Proofs.kh
