/-
  PROVED HERE: contracts of functions (Ax). No condition beside each statement's own.
-/
import Derived.Test.YtfooahfebojldaaGreatDoorAed
import Derived.OpenShut
import Derived.ChangeSame
import Derived.Lay
set_option linter.unusedVariables false
set_option linter.unusedSimpArgs false
namespace aw
open Go Go.RowKit
structure iD where
 g:Nat
 xs:List Nat
def qG:List Nat->List I
 |[]=>[]
 |x::l=>.int .u8 (Int.ofNat x)::qG l
def iD.obj(er:Nat->Nat)(t:iD):ca:=.cells (qG t.xs) (er t.g) .ro 0 0
def zn:List I->List Nat->Bool
 |[],[]=>true
 |.int .u8 (.ofNat n)::l,x::xs=>match Nat.beq n x with
  |true=>zn l xs
  |false=>false
 |_,_=>false
theorem H3:∀(l:List I) (xs:List Nat),zn l xs=true->l=qG xs
 |[],[],_=>rfl
 |.int .u8 (.ofNat n)::l,x::xs,h=>by
  simp only[zn] at h
  split at h
  · rename_i aG
    rw[H3 l xs h,Nat.eq_of_beq_eq_true aG];rfl
  · cases h
def zo(h:J)(t:iD):Bool:=match h.get t.g with
 |some (.cells cs _ .ro 0 0)=>zn cs t.xs
 |_=>false
def pb(h:J):List iD->Bool
 |[]=>true
 |t::ts=>match zo h t with
  |true=>pb h ts
  |false=>false
theorem PZ{h:J}{t:iD}(ae:zo h t=true):∃el,h.get t.g=some (.cells (qG t.xs) el .ro 0 0):=by
 unfold zo at ae
 split at ae
 · rename_i cs el aj
   exact⟨el,by rw[aj,H3 _ _ ae]⟩
 · cases ae
theorem H4:∀{ts:List iD} {h:J},pb h ts=true->∀t∈ts,zo h t=true
 |[],h,_,t,aQ=>by cases aQ
 |x::ts,h,ae,t,aQ=>by
  simp only[pb] at ae
  split at ae
  · rename_i aa
    rcases List.mem_cons.1 aQ with rfl|aQ
    · exact aa
    · exact H4 ae t aQ
  · cases ae
def pc(er:Nat->Nat)(h:J)(t:iD):J:=h.set t.g (some (t.obj er))
def sB(G:Nat)(er:Nat->Nat)(ts:List iD)(rows:List (List I×Nat)):J:=rows.foldl r0 (ts.foldl (pc er) (h1 G))
def qH(G:Nat)(sz:Nat->Nat)(is:List dL):a8:=λb=>if b<G then some ⟨b,0,sz b⟩ else is[b-G]?
theorem CV(er:Nat->Nat):∀(ts:List iD) (h:J),(ts.foldl (pc er) h).n=h.n/\∀b,(ts.foldl (pc er) h).get b=h.get b\/∃t∈ts,t.g=b/\(ts.foldl (pc er) h).get b=some (t.obj er)
 |[],h=>⟨rfl,λb=>.inl rfl⟩
 |t::ts,h=>by
  obtain⟨aR,a3⟩:=CV er ts (pc er h t)
  have aj:∀b,(pc er h t).get b=if b=t.g then some (t.obj er) else h.get b:=λb=>J.bL _ _ _ _
  refine⟨aR,λb=>?_⟩
  rw[List.foldl_cons]
  rcases a3 b with q|⟨uj,aa,ad,ar⟩
  · rw[q,aj]
    by_cases e:b=t.g
    · rw[if_pos e];exact .inr ⟨t,by simp,e.symm,rfl⟩
    · rw[if_neg e];exact .inl rfl
  · exact .inr ⟨uj,by simp[aa],ad,ar⟩
theorem H5(G:Nat)(er:Nat->Nat)(ts:List iD)(rows:List (List I×Nat))(n_:∀t∈ts,t.g<G):(sB G er ts rows).n=G+rows.length/\∀b,(sB G er ts rows).get b=if b<G then(ts.foldl (pc er) (h1 G)).get b else(rows[b-G]?).map λr=>.cells r.1 r.2 .ro 0 0:=by
 obtain⟨aR,a3⟩:=CV er ts (h1 G)
 have aG:(ts.foldl (pc er) (h1 G)).n=G:=aR
 obtain⟨r1,r2⟩:=yL rows (ts.foldl (pc er) (h1 G)) λb af=>by
  rw[aG] at af
  rcases a3 b with q|⟨t,aa,ad,_⟩
  · rw[q];rfl
  · have:=n_ t aa;omega
 rw[aG] at r1 r2
 exact⟨r1,r2⟩
def H6(W:World)(er:Nat->Nat)(t:iD):Prop:=∃c fz,W.heap[t.g]? =some (.cells c (er t.g) fz)/\∀(j:Nat) (x:Nat),t.xs[j]? =some x->c[j]? =some (.int .u8 (Int.ofNat x))
theorem CW:∀(xs:List Nat) (j:Nat),(qG xs)[j]? =(xs[j]?).map λx=>.int .u8 (Int.ofNat x)
 |[],j=>by simp[qG]
 |x::xs,0=>by simp[qG]
 |x::xs,j+1=>by simp[qG,CW xs j]
def uk(W:World)(g:Nat):Nat:=match W.heap[g]? with
 |some (.cells c _ _)=>c.size
 |_=>0
theorem P0{P:Program}{W:World}(ix:P.globals.size<=W.heap.size)(er:Nat->Nat)(ts:List iD)(n_:∀t∈ts,t.g<P.globals.size/\H6 W er t)(l:List (dL×List I×Nat))(an:∀x∈l,tJ W x.1 x.2.1 x.2.2):
  bc (qH P.globals.size (uk W) (l.map (·.1))) (sB P.globals.size er ts (l.map (·.2))) W/\gp P (qH P.globals.size (uk W) (l.map (·.1)))/\rV (sB P.globals.size er ts (l.map (·.2))):=by
 obtain⟨aG,aj⟩:=H5 P.globals.size er ts (l.map (·.2)) λt aQ=>(n_ t aQ).1
 have ro:∀b o,(sB P.globals.size er ts (l.map (·.2))).get b=some o->(∃x,l[b-P.globals.size]? =some x/\¬b<P.globals.size/\o=.cells x.2.1 x.2.2 .ro 0 0)\/(b<P.globals.size/\∃t∈ts,t.g=b/\o=t.obj er):=by
  intro b o h
  rw[aj] at h
  split at h
  · rename_i af
    rcases(CV er ts (h1 P.globals.size)).2 b with q|⟨t,aa,ad,ar⟩
    · rw[q] at h;cases h
    · rw[ar] at h;cases h;exact .inr ⟨af,t,aa,ad,rfl⟩
  · rename_i af
    rw[List.getElem?_map] at h
    cases ab:l[b-P.globals.size]? with
    |none=>rw[ab] at h;cases h
    |some x=>rw[ab] at h;cases h;exact .inl ⟨x,rfl,af,rfl⟩
 refine⟨⟨λb o j h aD=>?_,λb c' j k aa ad=>?_,λb j h=>?_,λb h=>?_⟩,λg aj=>⟨⟨g,0,uk W g⟩,by simp[qH,aj],rfl,rfl⟩,λb o h=>?_⟩
 · rcases ro b o h with⟨x,ab,af,rfl⟩|⟨af,t,aQ,rfl,rfl⟩
   · unfold qH at aD
     rw[if_neg af,List.getElem?_map,ab] at aD
     cases aD
     obtain⟨c,fz,aR,a3,ck⟩:=an x (List.mem_of_getElem? ab)
     exact⟨c,fz.1,fz.2,aR,a3 _,ck,trivial⟩
   · unfold qH at aD
     rw[if_pos af] at aD
     cases aD
     obtain⟨_,c,fz,aR,a3⟩:=n_ t aQ
     refine⟨c,fz.1,fz.2,aR,λj v aB=>?_,by show 0+uk W t.g=c.size;unfold uk;rw[aR];simp,trivial⟩
     rw[CW] at aB
     cases ab:t.xs[j]? with
     |none=>rw[ab] at aB;cases aB
     |some x=>
      rw[ab] at aB;cases aB
      exact⟨_,by rw[Nat.zero_add];exact a3 j x ab,rfl⟩
 · obtain⟨o,ad,ar⟩:=ad
   rcases ro _ o ad with⟨x,_,_,rfl⟩|⟨_,t,_,_,rfl⟩<;>cases ar
 · rw[aG,List.length_map]
   unfold qH at h
   split at h
   · rename_i af;cases h;exact⟨by omega,Nat.lt_of_lt_of_le af ix⟩
   · rw[List.getElem?_map] at h
     cases ab:l[b-P.globals.size]? with
     |none=>rw[ab] at h;cases h
     |some x=>
      rw[ab] at h;cases h
      obtain⟨c,fz,aR,_⟩:=an x (List.mem_of_getElem? ab)
      have:=(List.getElem?_eq_some_iff.1 ab).1
      exact⟨by omega,(Array.getElem?_eq_some_iff.1 aR).1⟩
 · rw[aG,List.length_map] at h
   rw[aj,if_neg (by omega),List.getElem?_map,List.getElem?_eq_none (by omega)];rfl
 · rcases ro b o h with⟨x,_,_,rfl⟩|⟨_,t,_,_,rfl⟩<;>rfl
section
variable {P:Program}
end
end aw
namespace aw
open Go Go.ChangeShapes Go.WideShapes Go.ChangeAt Go.RowKit
end aw
namespace aw
open Go Go.RowKit
mutual
def fx(G n:Nat):I->I
 |.bad=>.bad
 |.bool b=>.bool b
 |.int k x=>.int k x
 |.str s=>.str s
 |.bd=>.bd
 |.ptr b o=>match Nat.blt b G with
  |true=>.bad
  |false=>.ptr (b-G+n) o
 |.a0=>.a0
 |.slice b o l c=>match Nat.blt b G with
  |true=>.bad
  |false=>.slice (b-G+n) o l c
 |.gm=>.gm
 |.map r=>match Nat.blt r G with
  |true=>.bad
  |false=>.map (r-G+n)
 |.eN=>.eN
 |.fn f a b=>.fn f (ic G n a) (ic G n b)
 |.bQ l=>.bad
 |.dW=>.dW
 |.iface t v=>.iface t (fx G n v)
 |.agg cs=>.agg (ic G n cs)
 |.aK vs=>.aK (ic G n vs)
def ic(G n:Nat):List I->List I
 |[]=>[]
 |v::vs=>fx G n v::ic G n vs
end
theorem sC(G n:Nat):∀l,(ic G n l).length=l.length
 |[]=>rfl
 |v::l=>by simp[ic,sC G n l]
theorem CX(G n:Nat):∀(l:List I) (j:Nat),(ic G n l)[j]? =(l[j]?).map (fx G n)
 |[],j=>by simp[ic]
 |v::l,0=>by simp[ic]
 |v::l,j+1=>by simp[ic,CX G n l j]
theorem CY(G n:Nat):∀l,ic G n l=l.map (fx G n)
 |[]=>rfl
 |v::l=>by simp[ic,CY G n l]
mutual
theorem um{μ aH:a8}{G n:Nat}(h:∀b i,¬b<G->μ b=some i->aH (b-G+n)=some i):∀(a:I) (v:Value),a1 μ a v->a1 aH (fx G n a) v
 |.bad,_,_=>trivial
 |.bool _,_,h=>h
 |.int _ _,_,h=>h
 |.str _,_,h=>h
 |.bd,_,h=>h
 |.ptr b off,_,⟨i,ae,e⟩=>by
  simp only[fx]
  split
  · trivial
  · rename_i af
    have hK:¬b<G:=by
     intro ab;rw[<-Nat.blt_eq] at ab;rw[ab] at af;cases af
    exact⟨i,h _ _ hK ae,e⟩
 |.a0,_,h=>h
 |.slice b off len cap,_,⟨i,ae,e⟩=>by
  simp only[fx]
  split
  · trivial
  · rename_i af
    have hK:¬b<G:=by
     intro ab;rw[<-Nat.blt_eq] at ab;rw[ab] at af;cases af
    exact⟨i,h _ _ hK ae,e⟩
 |.gm,_,h=>h
 |.map r,_,⟨i,ae,e⟩=>by
  simp only[fx]
  split
  · trivial
  · rename_i af
    have hK:¬r<G:=by
     intro ab;rw[<-Nat.blt_eq] at ab;rw[ab] at af;cases af
    exact⟨i,h _ _ hK ae,e⟩
 |.eN,_,h=>h
 |.fn f first aF,_,⟨b2,cs,e,aa,ad⟩=>⟨b2,cs,e,wI h _ _ aa,wI h _ _ ad⟩
 |.bQ l,_,_=>trivial
 |.dW,_,h=>h
 |.iface t x,_,⟨y,e,ab⟩=>⟨y,e,um h _ _ ab⟩
 |.agg cs,_,⟨l,e,ab⟩=>⟨l,e,wI h _ _ ab⟩
 |.aK cs,_,⟨l,e,ab⟩=>⟨l,e,wI h _ _ ab⟩
theorem wI{μ aH:a8}{G n:Nat}(h:∀b i,¬b<G->μ b=some i->aH (b-G+n)=some i):∀(as:List I) (vs:List Value),bN μ as vs->bN aH (ic G n as) vs
 |[],_,h=>h
 |a::as,_,⟨v,vs,e,aa,ad⟩=>⟨v,vs,e,um h _ _ aa,wI h _ _ ad⟩
end
def H7(G n:Nat)(e:e1):e1:=⟨fx G n e.key,fx G n e.val,e.born⟩
def ju(G n:Nat):ca->Option ca
 |.cells cs el k a9 ae=>some (.cells (ic G n cs) el k a9 ae)
 |.map es c=>some (.map (es.map (H7 G n)) c)
 |_=>none
theorem H8{μ aH:a8}{G n:Nat}(h:∀b i,¬b<G->μ b=some i->aH (b-G+n)=some i):∀(es:List e1) (ms:List MapEntry),fb μ es ms->fb aH (es.map (H7 G n)) ms
 |[],_,h=>h
 |e::es,_,⟨m,ms,q,⟨aa,ad,ar⟩,aM⟩=>⟨m,ms,q,⟨um h _ _ aa,um h _ _ ad,ar⟩,H8 h es ms aM⟩
theorem P1{μ aH:a8}{G n:Nat}(h:∀b i,¬b<G->μ b=some i->aH (b-G+n)=some i){o o':ca}(he:ju G n o=some o'){i:dL}{w:World}(ai:lU μ o i w):lU aH o' i w:=by
 cases o with
 |cells cs el k a9 ae=>
  simp only[ju,Option.some.injEq] at he
  subst he
  obtain⟨c,eS,eT,aa,ad,ar,aM⟩:=ai
  refine⟨c,eS,eT,aa,λj v aD=>?_,ar,?_⟩
  · rw[CX] at aD
    cases ab:cs[j]? with
    |none=>rw[ab] at aD;cases aD
    |some v'=>
     rw[ab] at aD;cases aD
     obtain⟨u,aR,a3⟩:=ad j v' ab
     exact⟨u,aR,um h _ _ a3⟩
  · cases k<;>simp only[Aw,sC] at aM⊢ <;>exact aM
 |map es c=>
  simp only[ju,Option.some.injEq] at he
  subst he
  obtain⟨ents,aa,ad⟩:=ai
  exact⟨ents,aa,H8 h _ _ ad⟩
 |nw _ _=>cases he
 |mapIter _ _ _ _=>cases he
 |loop _ _ _ _ _ _ _ _=>cases he
 |defrd _=>cases he
 |raw _=>cases he
theorem P2{G n:Nat}{o o':ca}(he:ju G n o=some o'):o'.lV=o.lV:=by
 cases o with
 |cells cs el k a9 ae=>simp only[ju,Option.some.injEq] at he;subst he;cases k<;>rfl
 |map es c=>simp only[ju,Option.some.injEq] at he;subst he;rfl
 |nw _ _=>cases he
 |mapIter _ _ _ _=>cases he
 |loop _ _ _ _ _ _ _ _=>cases he
 |defrd _=>cases he
 |raw _=>cases he
def CZ(h:J)(o:Option ca):J:=⟨eb.jy (h.n+1) h.t h.n o,h.n+1⟩
theorem P3(h:J)(o:Option ca)(c:Nat):(CZ h o).get c=if c=h.n then o else h.get c:=eb.bL _ _ _ _ _ (Nat.lt_succ_self _)
def kT(G n:Nat)(H1:J)(h:J):Nat->J
 |0=>h
 |k+1=>CZ (kT G n H1 h k) ((H1.get (G+k)).bind (ju G n))
theorem sD(G n:Nat)(H1 h:J):∀k,(kT G n H1 h k).n=h.n+k
 |0=>rfl
 |k+1=>by show(kT G n H1 h k).n+1=_;rw[sD G n H1 h k];omega
theorem C0(G n:Nat)(H1 h:J):∀(k b:Nat),(kT G n H1 h k).get b=if b<h.n then h.get b else if b<h.n+k then(H1.get (G+(b-h.n))).bind (ju G n) else h.get b
 |0,b=>by
  show h.get b=_
  by_cases aa:b<h.n
  · rw[if_pos aa]
  · rw[if_neg aa,if_neg (by omega)]
 |k+1,b=>by
  show(CZ (kT G n H1 h k) _).get b=_
  rw[P3,sD,C0 G n H1 h k b]
  by_cases aa:b<h.n
  · rw[if_neg (by omega),if_pos aa,if_pos aa]
  · rw[if_neg aa,if_neg aa]
    by_cases ad:b=h.n+k
    · subst ad
      rw[if_pos rfl,if_pos (by omega),Nat.add_sub_cancel_left]
    · rw[if_neg ad]
      by_cases ar:b<h.n+k
      · rw[if_pos ar,if_pos (by omega)]
      · rw[if_neg ar,if_neg (by omega)]
def zp:List e1->List e1->Bool
 |[],[]=>true
 |a::l,b::m=>I.beq a.key b.key&&I.beq a.val b.val&&Nat.beq a.born b.born&&zp l m
 |_,_=>false
theorem H9:∀(l m:List e1),zp l m=true->l=m
 |[],[],_=>rfl
 |⟨k,v,n⟩::l,⟨dH,v',gR⟩::m,h=>by
  simp only[zp,Bool.and_eq_true] at h
  obtain⟨⟨⟨aa,ad⟩,ar⟩,aM⟩:=h
  have aC:k=dH:=beq_eq _ _ aa
  have ax:v=v':=beq_eq _ _ ad
  have bp:n=gR:=Nat.eq_of_beq_eq_true ar
  rw[H9 l m aM,aC,ax,bp]
def fB.code:fB->Nat
 |.own=>0|.aN=>1|.ro=>2|.fz=>3
theorem fB.P4{a b:fB}(h:a.code=b.code):a=b:=by cases a<;>cases b<;>first|rfl|(simp[fB.code] at h)
def oc:Option ca->Option ca->Bool
 |some (.cells a el k a9 ae),some (.cells b p5 dH oM dY)=>I.iM a b&&Nat.beq el p5&&Nat.beq k.code dH.code&&Nat.beq a9 oM&&Nat.beq ae dY
 |some (.map a c),some (.map b c')=>zp a b&&Nat.beq c c'
 |some (.cells ..),_=>false
 |some (.map ..),_=>false
 |_,some (.cells ..)=>false
 |_,some (.map ..)=>false
 |_,_=>true
theorem P5(G n:Nat){a b:Option ca}(h:oc a b=true):a.bind (ju G n)=b.bind (ju G n):=by
 cases a with
 |none=>cases b with
  |none=>rfl
  |some y=>cases y<;>first|rfl|(simp[oc] at h)
 |some x=>cases b with
  |none=>cases x<;>first|rfl|(simp[oc] at h)
  |some y=>
   cases x<;>cases y<;>first
    |rfl
    |(simp[oc] at h;done)
    |(simp only[oc,Bool.and_eq_true] at h
      obtain⟨⟨⟨⟨aa,ad⟩,ar⟩,aM⟩,bS⟩:=h
      rw[oV _ _ aa,Nat.eq_of_beq_eq_true ad,fB.P4 (Nat.eq_of_beq_eq_true ar),Nat.eq_of_beq_eq_true aM,Nat.eq_of_beq_eq_true bS])
    |(simp only[oc,Bool.and_eq_true] at h
      rw[H9 _ _ h.1,Nat.eq_of_beq_eq_true h.2])
def H_(G:Nat)(H aO:J):Nat->Bool
 |0=>true
 |k+1=>match oc (H.get (G+k)) (aO.get (G+k)) with
  |true=>H_ G H aO k
  |false=>false
def XJ(G:Nat):av->av->Bool
 |.ret v H,.ret v' aO=>I.beq v v'&&Nat.beq H.n aO.n&&H_ G H aO (H.n-G)
 |_,_=>false
structure wJ where
 f:Nat
 args:List I
 r:av
def pd(G:Nat)(ts:List iD):List wJ->Nat->List I->J->Option (I×J)
 |[],_,_,_=>none
 |e::T,f,args,h=>match Nat.beq f e.f with
  |true=>match I.iM args e.args with
   |true=>match pb h ts with
    |true=>match e.r with
     |.ret v H=>some (fx G h.n v,kT G h.n H h (H.n-G))
     |_=>none
    |false=>none
   |false=>pd G ts T f args h
  |false=>pd G ts T f args h
theorem Ia{G:Nat}{ts:List iD}:∀{T:List wJ} {f:Nat} {args:List I} {h:J} {v:I} {ak:J},pd G ts T f args h=some (v,ak)->pb h ts=true/\∃e∈T,e.f=f/\e.args=args/\∃v0 jL,e.r=.ret v0 jL/\v=fx G h.n v0/\ak=kT G h.n jL h (jL.n-G)
 |[],_,_,_,_,_,ab=>by cases ab
 |e::T,f,args,h,v,ak,ab=>by
  simp only[pd] at ab
  have rest:pd G ts T f args h=some (v,ak)->pb h ts=true/\∃cx∈e::T,cx.f=f/\cx.args=args/\∃v0 jL,cx.r=.ret v0 jL/\v=fx G h.n v0/\ak=kT G h.n jL h (jL.n-G):=λab=>by
   obtain⟨h0,cx,aa,ad⟩:=Ia ab
   exact⟨h0,cx,List.mem_cons_of_mem _ aa,ad⟩
  split at ab
  · rename_i hf
    split at ab
    · rename_i aX
      split at ab
      · rename_i aQ
        split at ab
        · rename_i v0 jL ai
          cases ab
          exact⟨aQ,e,by simp,(Nat.eq_of_beq_eq_true hf).symm,(oV _ _ aX).symm,v0,jL,ai,rfl,rfl⟩
        · cases ab
      · cases ab
    · exact rest ab
  · exact rest ab
section
variable {P:Program}
def C1(i1 i2:Nat->List I->J->Option (I×J))(f:Nat)(args:List I)(h:J):Option (I×J):=match i1 f args h with
 |some r=>some r
 |none=>i2 f args h
theorem P6{i1 i2:Nat->List I->J->Option (I×J)}(aa:kI P i1)(ad:kI P i2):kI P (C1 i1 i2):=by
 intro f args H v aO ab
 unfold C1 at ab
 split at ab
 · rename_i r ai
   cases ab
   exact aa f args H v aO ai
 · exact ad f args H v aO ab
end
end aw
namespace aw
open Go Go.ChangeShapes Go.WideShapes Go.ChangeAt Go.RowKit
end aw
namespace aw
open Go
end aw
namespace aw
open Go
end aw
namespace aw
open Go Go.RowKit
def wK(G:Nat)(H aO:J):Nat->Bool
 |0=>true
 |k+1=>match aO.get (G+k) with
  |none=>wK G H aO k
  |some o=>match oc (some o) (H.get (G+k)) with
   |true=>wK G H aO k
   |false=>false
theorem C2{G:Nat}{H aO:J}:∀{k:Nat},wK G H aO k=true->∀j,j<k->∀o,aO.get (G+j)=some o->oc (some o) (H.get (G+j))=true
 |0,_,j,aD,_,_=>by omega
 |k+1,h,j,aD,o,a2=>by
  simp only[wK] at h
  rcases Nat.lt_or_ge j k with ad|ad
  · split at h
    · exact C2 h j ad o a2
    · split at h
      · exact C2 h j ad o a2
      · cases h
  · obtain rfl:j=k:=by omega
    rw[a2] at h
    simp only at h
    split at h
    · rename_i aa;exact aa
    · cases h
def Ib(G:Nat):av->av->Bool
 |.ret v H,.ret v' aO=>I.beq v v'&&Nat.beq H.n aO.n&&wK G H aO (H.n-G)
 |_,_=>false
def iV(n:Nat):List (Nat×ca)->J
 |[]=>h1 n
 |(b,o)::l=>(iV n l).set b (some o)
section
variable {P:Program}
def C3(P:Program)(ts:List iD)(e:wJ):Prop:=∃(intr:Nat->List I->J->Option (I×J)) (n:Nat),kI P intr/\oZ e.args=true/\∀er,Ib P.globals.size (e4 P intr n (.fn e.f) e.args (sB P.globals.size er ts [])) e.r=true
theorem P7(hf:Fit P){ts:List iD}(n_:∀t∈ts,t.g<P.globals.size){T:List wJ}(j9:∀e∈T,C3 P ts e):kI P (pd P.globals.size ts T):=by
 intro f args H v aO ab μ w vs ah aj aB
 obtain⟨cJ,e,he,rfl,rfl,v0,jL,ai,rfl,rfl⟩:=Ia ab
 obtain⟨intr,n,ae,rZ,Ic⟩:=j9 e he
 obtain⟨er,P8⟩:∃er:Nat->Nat,∀g,er g=match w.heap[g]? with|some (.cells _ el _)=>el|_=>0:=⟨_,λ_=>rfl⟩
 have af:=Ic er
 rw[ai] at af
 unfold Ib at af
 split at af
 · rename_i v1 H1 v2 bl eo ad
   cases ad
   simp only[Bool.and_eq_true] at af
   obtain⟨⟨jq,dw⟩,P9⟩:=af
   have BS:=beq_eq _ _ jq
   subst BS
   have x8:H1.n=jL.n:=Nat.eq_of_beq_eq_true dw
   rw[<-x8]
   have BT:P.globals.size<=w.heap.size:=by
    cases br:P.globals.size with
    |zero=>exact Nat.zero_le _
    |succ g=>
     obtain⟨i,aa,ad,ar⟩:=aj g (by omega)
     have:=(ah.lt _ i aa).2
     omega
   have P_:∀t∈ts,t.g<P.globals.size/\H6 w er t:=λt aQ=>by
    refine⟨n_ t aQ,?_⟩
    obtain⟨el,eV⟩:=PZ (H4 cJ t aQ)
    obtain⟨i,aa,ad,ar⟩:=aj t.g (n_ t aQ)
    obtain⟨c,eS,eT,bG,bF,eH,_⟩:=ah.rel _ _ i eV aa
    rw[ad] at bG
    rw[ar] at bF
    refine⟨c,(eS,eT),by rw[P8,bG],λj x aD=>?_⟩
    obtain⟨u,tq,nH⟩:=bF j _ (by rw[CW,aD];rfl)
    rw[Nat.zero_add] at tq
    rw[tq,nH]
   obtain⟨s1,s2,bI⟩:=P0 (P:=P) BT er ts P_ [] (by simp)
   have gi:=(BM hf ae n).fn e.f e.args (sB P.globals.size er ts []) (by rw[eo];rfl) _ w vs s1 s2 (rW _ _ rZ aB)
   rw[eo] at gi
   refine gi.mono λkE w' oQ=>?_
   obtain⟨fD,u,rfl,aR,a3,ck⟩:=oQ
   have hold:∀r,r<w.heap.size->w'.heap[r]? =w.heap[r]? :=(ck.below bI s1).block
   obtain⟨aH,pe⟩:∃aH:a8,∀b,aH b=if b<H.n then μ b else fD (b-H.n+P.globals.size):=⟨_,λ_=>rfl⟩
   have XK:P.globals.size<=H1.n:=by
    have:=ck.n
    rw[(H5 P.globals.size er ts [] λt aQ=>n_ t aQ).1] at this
    simpa using this
   have hle:en μ aH:=λb i af=>by rw[pe,if_pos (ah.lt b i af).1];exact af
   have Ie:∀b i,¬b<P.globals.size->fD b=some i->aH (b-P.globals.size+H.n)=some i:=λb i af aa=>by
    rw[pe,if_neg (by omega)]
    have aC:b-P.globals.size+H.n-H.n+P.globals.size=b:=by omega
    rw[aC];exact aa
   have jY:∀b i,¬b<H.n->aH b=some i->fD (b-H.n+P.globals.size)=some i/\b<H.n+(H1.n-P.globals.size)/\w.heap.size<=i.a5:=λb i af aa=>by
    rw[pe,if_neg af] at aa
    have ad:=a3.lt _ i aa
    refine⟨aa,by omega,?_⟩
    have hm:qH P.globals.size (uk w) (([]:List (dL×List I×Nat)).map (·.1)) (b-H.n+P.globals.size)=none:=by
     unfold qH;rw[if_neg (by omega)];rfl
    rcases(ck.new _ i hm aa).2 with ar|⟨c,o,j,ar,aM,_⟩
    · exact ar
    · have:=bI c o ar;rw[aM] at this;cases this
   have eV:∀b,(kT P.globals.size H.n jL H (H1.n-P.globals.size)).get b=if b<H.n then H.get b else if b<H.n+(H1.n-P.globals.size) then(jL.get (P.globals.size+(b-H.n))).bind (ju P.globals.size H.n) else H.get b:=C0 _ _ _ _ _
   have sE:∀b o,¬b<H.n->(kT P.globals.size H.n jL H (H1.n-P.globals.size)).get b=some o->∃c0,H1.get (b-H.n+P.globals.size)=some c0/\ju P.globals.size H.n c0=some o:=λb o af aa=>by
    rw[eV,if_neg af] at aa
    split at aa
    · rename_i cj
      have aD:b-H.n<H1.n-P.globals.size:=by omega
      cases j4:jL.get (P.globals.size+(b-H.n)) with
      |none=>rw[j4] at aa;cases aa
      |some mJ=>
       have bh:=P5 P.globals.size H.n (C2 P9 _ aD mJ j4)
       rw[j4,bh] at aa
       rw[Nat.add_comm] at aa
       cases ab:H1.get (b-H.n+P.globals.size) with
       |none=>rw[ab] at aa;cases aa
       |some c0=>rw[ab] at aa;exact⟨c0,rfl,aa⟩
    · rw[ah.bound b (by omega)] at aa;cases aa
   refine⟨aH,u,rfl,um Ie _ _ aR,⟨λb o i af ae=>?_,λb c i j af ag ae aD qo=>?_,λb i ae=>?_,λb af=>?_⟩,?_⟩
   · by_cases aa:b<H.n
     · rw[eV,if_pos aa] at af
       rw[pe,if_pos aa] at ae
       exact(ah.rel b o i af ae).mono hle (hold _ (ah.lt b i ae).2)
     · obtain⟨c0,ad,ar⟩:=sE b o aa af
       exact P1 Ie ar (a3.rel _ c0 i ad (jY b i aa ae).1)
   · obtain⟨mL,ag,gn⟩:=ag
     by_cases aa:b<H.n
     · rw[eV,if_pos aa] at af
       rw[pe,if_pos aa] at ae
       by_cases ad:c<H.n
       · rw[eV,if_pos ad] at ag
         rw[pe,if_pos ad] at aD
         exact ah.inj b c i j af ⟨mL,ag,gn⟩ ae aD qo
       · have q:=(jY c j ad aD).2.2
         have:=(ah.lt b i ae).2
         omega
     · have q:=(jY b i aa ae)
       by_cases ad:c<H.n
       · rw[pe,if_pos ad] at aD
         have:=(ah.lt c j aD).2
         have:=q.2.2
         omega
       · obtain⟨c0,bG,bF⟩:=sE c mL ad ag
         have hK:H1.get (b-H.n+P.globals.size)≠none:=λab=>by
          cases aU:(kT P.globals.size H.n jL H (H1.n-P.globals.size)).get b with
          |none=>exact af aU
          |some ob=>obtain⟨e6,eH,_⟩:=sE b ob aa aU;rw[ab] at eH;cases eH
         have:=a3.inj _ _ i j hK ⟨c0,bG,by rw[<-P2 bF];exact gn⟩ q.1 (jY c j ad aD).1 qo
         omega
   · by_cases aa:b<H.n
     · rw[pe,if_pos aa] at ae
       exact⟨by rw[sD];omega,Nat.lt_of_lt_of_le (ah.lt b i ae).2 ck.size⟩
     · have q:=jY b i aa ae
       exact⟨by rw[sD];exact q.2.1,(a3.lt _ i q.1).2⟩
   · rw[sD] at af
     rw[eV,if_neg (by omega),if_neg (by omega)]
     exact ah.bound b (by omega)
   · refine⟨hle,ck.size,by rw[sD];omega,λb af an=>?_,λb af _=>?_,λr ai _=>hold r ai,λb i aa ad=>?_,λb o i af _ ae=>?_,ck.os,ck.out,ck.tape,ck.drawn⟩
     · rw[eV,if_pos af] at an;exact an
     · rw[eV,if_pos af]
     · have af:¬b<H.n:=λaf=>by rw[pe,if_pos af,aa] at ad;cases ad
       exact⟨by omega,.inl (jY b i af ad).2.2⟩
     · refine⟨?_,hold _ (ah.lt b i ae).2⟩
       rw[eV,if_pos (ah.lt b i ae).1];exact af
 · cases af
end
end aw
namespace aw
open Go Go.RowKit
section
variable {P:Program}
end
end aw
namespace aw
open Go Go.RowKit
def Qa:ca->Bool
 |.cells .. =>true
 |.map .. =>true
 |_=>false
def Qb(h:J):List (Nat×ca)->Bool
 |[]=>true
 |(b,o)::l=>match Qa o with
  |true=>match oc (some o) (h.get b) with
   |true=>Qb h l
   |false=>false
  |false=>false
def qI(h:J):List (Nat×ca)->J
 |[]=>h
 |(b,o)::l=>(qI h l).set b (some o)
theorem Ig(h:J):∀l,(qI h l).n=h.n
 |[]=>rfl
 |(b,o)::l=>Ig h l
theorem C4(h:J):∀(l:List (Nat×ca)) (b:Nat),(∃o,(b,o)∈l/\(qI h l).get b=some o)\/((∀o,(b,o)∉l)/\(qI h l).get b=h.get b)
 |[],b=>.inr ⟨λo hm=>(by cases hm),rfl⟩
 |(c,o)::l,b=>by
  show(∃o',(b,o')∈(c,o)::l/\((qI h l).set c (some o)).get b=some o')\/((∀o',(b,o')∉(c,o)::l)/\((qI h l).set c (some o)).get b=h.get b)
  rw[J.bL]
  by_cases e:b=c
  · subst e;exact .inl ⟨o,by simp,by rw[if_pos rfl]⟩
  · rw[if_neg e]
    rcases C4 h l b with⟨o',aa,ad⟩|⟨aa,ad⟩
    · exact .inl ⟨o',List.mem_cons_of_mem _ aa,ad⟩
    · refine .inr ⟨λo' hm=>?_,ad⟩
      rcases List.mem_cons.1 hm with q|hm
      · cases q;exact e rfl
      · exact aa o' hm
def qJ(n:Nat):List (Nat×ca)->Bool
 |[]=>true
 |(b,_)::m=>match Nat.blt b n with
  |true=>qJ n m
  |false=>false
theorem C5{n:Nat}:∀{m:List (Nat×ca)},qJ n m=true->∀b o,(b,o)∈m->b<n
 |[],_,_,_,hm=>by cases hm
 |(c,o)::m,h,b,x,hm=>by
  unfold qJ at h
  split at h
  · rename_i aa
    rcases List.mem_cons.1 hm with e|hm
    · cases e;rw[Nat.blt_eq] at aa;exact aa
    · exact C5 h b x hm
  · cases h
section
variable {P:Program}
theorem zq(n:Nat):∀l,iV n l=qI (h1 n) l
 |[]=>rfl
 |(b,o)::l=>by show(iV n l).set b (some o)=(qI (h1 n) l).set b (some o);rw[zq n l]
theorem C6(n b:Nat):(h1 n).get b=none:=by cases b<;>rfl
end
end aw
namespace aw
open Go Go.RowKit
section
variable {P:Program}
end
end aw
namespace aw
open Go Go.RowKit
structure uo where
 f:Nat
 args:List I
 v:I
 n:Nat
 l:List (Nat×ca)
def uo.sF(e:uo):wJ:=⟨e.f,e.args,.ret e.v (iV e.n e.l)⟩
def m6(G n:Nat)(h:J):List (Nat×ca)->J
 |[]=>h
 |(b,o)::l=>(m6 G n h l).set (b-G+n) (ju G n o)
theorem C7(G n qK:Nat)(h:J):∀(l:List (Nat×ca)),(∀b o,(b,o)∈l->G<=b)->∀c,(m6 G n h l).get c=if c<n then h.get c else match(iV qK l).get (G+(c-n)) with
  |some o=>ju G n o
  |none=>h.get c
 |[],_,c=>by
  show h.get c=_
  by_cases ag:c<n
  · rw[if_pos ag]
  · rw[if_neg ag]
    have:(iV qK []).get (G+(c-n))=none:=C6 qK _
    rw[this]
 |(b,o)::l,an,c=>by
  have af:=an b o (by simp)
  have bg:=C7 G n qK h l (λb o hm=>an b o (by simp[hm])) c
  show((m6 G n h l).set (b-G+n) (ju G n o)).get c=_
  have ax:(iV qK ((b,o)::l)).get (G+(c-n))=if G+(c-n)=b then some o else(iV qK l).get (G+(c-n)):=J.bL _ _ _ _
  rw[J.bL,ax,bg]
  by_cases ag:c<n
  · rw[if_neg (by omega),if_pos ag,if_pos ag]
  · by_cases bh:c=b-G+n
    · rw[if_pos bh,if_neg ag,if_pos (by omega)]
    · have ab:¬G+(c-n)=b:=by omega
      rw[if_neg bh,if_neg ab]
def qL(G:Nat):List (Nat×ca)->Bool
 |[]=>true
 |(b,_)::m=>match Nat.ble G b with
  |true=>qL G m
  |false=>false
theorem C8{G:Nat}:∀{m:List (Nat×ca)},qL G m=true->∀b o,(b,o)∈m->G<=b
 |[],_,_,_,hm=>by cases hm
 |(c,o)::m,h,b,x,hm=>by
  unfold qL at h
  split at h
  · rename_i aa
    rcases List.mem_cons.1 hm with e|hm
    · cases e;exact Nat.le_of_ble_eq_true aa
    · exact C8 h b x hm
  · cases h
def sG(G:Nat)(ts:List iD):List uo->Nat->List I->J->Option (I×J)
 |[],_,_,_=>none
 |e::T,f,args,h=>match Nat.beq f e.f with
  |true=>match I.iM args e.args with
   |true=>match pb h ts with
    |true=>match qL G e.l&&qJ e.n e.l with
     |true=>some (fx G h.n e.v,⟨(m6 G h.n h e.l).t,h.n+(e.n-G)⟩)
     |false=>none
    |false=>none
   |false=>sG G ts T f args h
  |false=>sG G ts T f args h
theorem Ih{G:Nat}{ts:List iD}:∀{T:List uo} {f:Nat} {args:List I} {h:J} {v:I} {ak:J},sG G ts T f args h=some (v,ak)->pb h ts=true/\∃e∈T,e.f=f/\e.args=args/\I.iM args e.args=true/\(qL G e.l&&qJ e.n e.l)=true/\v=fx G h.n e.v/\ak=⟨(m6 G h.n h e.l).t,h.n+(e.n-G)⟩
 |[],_,_,_,_,_,ab=>by cases ab
 |e::T,f,args,h,v,ak,ab=>by
  simp only[sG] at ab
  have rest:sG G ts T f args h=some (v,ak)->pb h ts=true/\∃cx∈e::T,cx.f=f/\cx.args=args/\I.iM args cx.args=true/\(qL G cx.l&&qJ cx.n cx.l)=true/\v=fx G h.n cx.v/\ak=⟨(m6 G h.n h cx.l).t,h.n+(cx.n-G)⟩:=λab=>by
   obtain⟨h0,cx,aa,ad⟩:=Ih ab
   exact⟨h0,cx,List.mem_cons_of_mem _ aa,ad⟩
  split at ab
  · rename_i hf
    split at ab
    · rename_i aX
      split at ab
      · rename_i aQ
        split at ab
        · rename_i an
          cases ab
          exact⟨aQ,e,by simp,(Nat.eq_of_beq_eq_true hf).symm,(oV _ _ aX).symm,aX,an,rfl,rfl⟩
        · cases ab
      · cases ab
    · exact rest ab
  · exact rest ab
theorem bc.same{μ:a8}{H aO:J}{w:World}(h:bc μ H w)(aG:aO.n=H.n)(aj:∀b,aO.get b=H.get b):bc μ aO w:=
 ⟨λb o i aa ad=>h.rel b o i (by rw[<-aj];exact aa) ad,λb c i j aa ad=>h.inj b c i j (by rw[<-aj];exact aa) (by rw[<-aj];exact ad),λb i aa=>by rw[aG];exact h.lt b i aa,λb af=>by rw[aj];exact h.bound b (by omega)⟩
theorem bO.same{μ aH:a8}{H H1 aO:J}{w w':World}(h:bO μ H w aH H1 w')(aG:aO.n=H1.n)(aj:∀b,aO.get b=H1.get b):bO μ H w aH aO w':=
 ⟨h.le,h.size,by rw[aG];exact h.n,λb af an=>h.live b af (by rw[<-aj];exact an),λb af hm=>by rw[aj];exact h.idle b af hm,h.old,h.new,λb o i aa ad ar=>by rw[aj];exact h.ro b o i aa ad ar,h.os,h.out,h.tape,h.drawn⟩
section
variable {P:Program}
theorem Qc(hf:Fit P){ts:List iD}(n_:∀t∈ts,t.g<P.globals.size){T:List uo}(j9:∀e∈T,C3 P ts e.sF):kI P (sG P.globals.size ts T):=by
 intro f args H v aO ab μ w vs ah aj aB
 obtain⟨cJ,e,he,rfl,rfl,sH,an,rfl,rfl⟩:=Ih ab
 rw[Bool.and_eq_true] at an
 have iv:kI P (pd P.globals.size ts [e.sF]):=P7 hf n_ λx ab=>by obtain rfl:=List.mem_singleton.1 ab;exact j9 e he
 have vp:(iV e.n e.l).n=e.n:=by rw[zq,Ig];rfl
 have ae:pd P.globals.size ts [e.sF] e.f e.args H=some (fx P.globals.size H.n e.v,kT P.globals.size H.n (iV e.n e.l) H (e.n-P.globals.size)):=by
  have a4:Nat.beq e.f e.sF.f=true:=Nat.beq_refl _
  have a_:I.iM e.args e.sF.args=true:=sH
  have cO:e.sF.r=.ret e.v (iV e.n e.l):=rfl
  simp only[pd,a4,a_,cJ,cO,vp]
 have gi:=iv e.f e.args H _ _ ae μ w vs ah aj aB
 refine gi.mono λkE w' oQ=>?_
 obtain⟨fD,u,rfl,aR,a3,ck⟩:=oQ
 have sE:(kT P.globals.size H.n (iV e.n e.l) H (e.n-P.globals.size)).n=H.n+(e.n-P.globals.size):=sD _ _ _ _ _
 have Ii:∀b,(⟨(m6 P.globals.size H.n H e.l).t,H.n+(e.n-P.globals.size)⟩:J).get b=(kT P.globals.size H.n (iV e.n e.l) H (e.n-P.globals.size)).get b:=λb=>by
  show(m6 P.globals.size H.n H e.l).get b=_
  rw[C7 P.globals.size H.n e.n H e.l (C8 an.1) b,C0]
  by_cases aa:b<H.n
  · rw[if_pos aa,if_pos aa]
  · rw[if_neg aa,if_neg aa]
    by_cases ad:b<H.n+(e.n-P.globals.size)
    · rw[if_pos ad]
      cases ab:(iV e.n e.l).get (P.globals.size+(b-H.n)) with
      |none=>exact ah.bound b (by omega)
      |some o=>rfl
    · rw[if_neg ad]
      cases ab:(iV e.n e.l).get (P.globals.size+(b-H.n)) with
      |none=>rfl
      |some o=>
       exfalso
       rw[zq] at ab
       rcases C4 (h1 e.n) e.l (P.globals.size+(b-H.n)) with⟨o',bG,bF⟩|⟨bG,bF⟩
       · have:=C5 an.2 _ _ bG
         omega
       · rw[ab,C6] at bF;cases bF
 exact⟨fD,u,rfl,aR,a3.same (by rw[sE]) Ii,ck.same (by rw[sE]) Ii⟩
end
end aw
