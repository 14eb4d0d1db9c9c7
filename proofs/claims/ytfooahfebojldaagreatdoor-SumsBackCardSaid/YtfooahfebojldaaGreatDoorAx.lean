/-
  PROVED HERE: contracts of functions (Ax). No condition beside each statement's own.
-/
import Derived.Test.YtfooahfebojldaaGreatDoorAed
import Derived.OpenShut
import Derived.ChangeSame
import Derived.Lay
set_option linter.unusedVariables false
set_option linter.unusedSimpArgs false
namespace ay
open Go Go.RowKit
structure j1 where
 g:Nat
 xs:List Nat
def sl:List Nat->List J
 |[]=>[]
 |x::l=>.int .u8 (Int.ofNat x)::sl l
def j1.obj(fc:Nat->Nat)(t:j1):b3:=.cells (sl t.xs) (fc t.g) .ro 0 0
def B_:List J->List Nat->Bool
 |[],[]=>true
 |.int .u8 (.ofNat n)::l,x::xs=>match Nat.beq n x with
  |true=>B_ l xs
  |false=>false
 |_,_=>false
theorem L0:∀(l:List J) (xs:List Nat),B_ l xs=true->l=sl xs
 |[],[],_=>rfl
 |.int .u8 (.ofNat n)::l,x::xs,h=>by
  simp only[B_] at h
  split at h
  · rename_i aJ
    rw[L0 l xs h,Nat.eq_of_beq_eq_true aJ];rfl
  · cases h
def Ca(h:aa)(t:j1):Bool:=match h.get t.g with
 |some (.cells cs _ .ro 0 0)=>B_ cs t.xs
 |_=>false
def qK(h:aa):List j1->Bool
 |[]=>true
 |t::ts=>match Ca h t with
  |true=>qK h ts
  |false=>false
theorem Vh{h:aa}{t:j1}(af:Ca h t=true):∃el,h.get t.g=some (.cells (sl t.xs) el .ro 0 0):=by
 unfold Ca at af
 split at af
 · rename_i cs el ao
   exact⟨el,by rw[ao,L0 _ _ af]⟩
 · cases af
theorem L1:∀{ts:List j1} {h:aa},qK h ts=true->∀t∈ts,Ca h t=true
 |[],h,_,t,a2=>by cases a2
 |x::ts,h,af,t,a2=>by
  simp only[qK] at af
  split at af
  · rename_i ab
    rcases List.mem_cons.1 a2 with rfl|a2
    · exact ab
    · exact L1 af t a2
  · cases af
def qL(fc:Nat->Nat)(h:aa)(t:j1):aa:=h.set t.g (some (t.obj fc))
def uv(G:Nat)(fc:Nat->Nat)(ts:List j1)(rows:List (List J×Nat)):aa:=rows.foldl tH (ts.foldl (qL fc) (iE G))
def sm(G:Nat)(sz:Nat->Nat)(is:List eX):bl:=λb=>if b<G then some ⟨b,0,sz b⟩ else is[b-G]?
theorem F8(fc:Nat->Nat):∀(ts:List j1) (h:aa),(ts.foldl (qL fc) h).n=h.n/\∀b,(ts.foldl (qL fc) h).get b=h.get b\/∃t∈ts,t.g=b/\(ts.foldl (qL fc) h).get b=some (t.obj fc)
 |[],h=>⟨rfl,λb=>.inl rfl⟩
 |t::ts,h=>by
  obtain⟨aR,aT⟩:=F8 fc ts (qL fc h t)
  have ao:∀b,(qL fc h t).get b=if b=t.g then some (t.obj fc) else h.get b:=λb=>aa.bH _ _ _ _
  refine⟨aR,λb=>?_⟩
  rw[List.foldl_cons]
  rcases aT b with q|⟨Vi,ab,ae,av⟩
  · rw[q,ao]
    by_cases e:b=t.g
    · rw[if_pos e];exact .inr ⟨t,by simp,e.symm,rfl⟩
    · rw[if_neg e];exact .inl rfl
  · exact .inr ⟨Vi,by simp[ab],ae,av⟩
theorem L2(G:Nat)(fc:Nat->Nat)(ts:List j1)(rows:List (List J×Nat))(pN:∀t∈ts,t.g<G):(uv G fc ts rows).n=G+rows.length/\∀b,(uv G fc ts rows).get b=if b<G then(ts.foldl (qL fc) (iE G)).get b else(rows[b-G]?).map λr=>.cells r.1 r.2 .ro 0 0:=by
 obtain⟨aR,aT⟩:=F8 fc ts (iE G)
 have aJ:(ts.foldl (qL fc) (iE G)).n=G:=aR
 obtain⟨ba,bt⟩:=BA rows (ts.foldl (qL fc) (iE G)) λb ag=>by
  rw[aJ] at ag
  rcases aT b with q|⟨t,ab,ae,_⟩
  · rw[q];rfl
  · have:=pN t ab;omega
 rw[aJ] at ba bt
 exact⟨ba,bt⟩
def L3(W:World)(fc:Nat->Nat)(t:j1):Prop:=∃c fz,W.heap[t.g]? =some (.cells c (fc t.g) fz)/\∀(j:Nat) (x:Nat),t.xs[j]? =some x->c[j]? =some (.int .u8 (Int.ofNat x))
theorem F9:∀(xs:List Nat) (j:Nat),(sl xs)[j]? =(xs[j]?).map λx=>.int .u8 (Int.ofNat x)
 |[],j=>by simp[sl]
 |x::xs,0=>by simp[sl]
 |x::xs,j+1=>by simp[sl,F9 xs j]
def wx(W:World)(g:Nat):Nat:=match W.heap[g]? with
 |some (.cells c _ _)=>c.size
 |_=>0
theorem Vj{P:Program}{W:World}(lu:P.globals.size<=W.heap.size)(fc:Nat->Nat)(ts:List j1)(pN:∀t∈ts,t.g<P.globals.size/\L3 W fc t)(l:List (eX×List J×Nat))(aw:∀x∈l,yr W x.1 x.2.1 x.2.2):
  bm (sm P.globals.size (wx W) (l.map (·.1))) (uv P.globals.size fc ts (l.map (·.2))) W/\h3 P (sm P.globals.size (wx W) (l.map (·.1)))/\yo (uv P.globals.size fc ts (l.map (·.2))):=by
 obtain⟨aJ,ao⟩:=L2 P.globals.size fc ts (l.map (·.2)) λt a2=>(pN t a2).1
 have ro:∀b o,(uv P.globals.size fc ts (l.map (·.2))).get b=some o->(∃x,l[b-P.globals.size]? =some x/\¬b<P.globals.size/\o=.cells x.2.1 x.2.2 .ro 0 0)\/(b<P.globals.size/\∃t∈ts,t.g=b/\o=t.obj fc):=by
  intro b o h
  rw[ao] at h
  split at h
  · rename_i ag
    rcases(F8 fc ts (iE P.globals.size)).2 b with q|⟨t,ab,ae,av⟩
    · rw[q] at h;cases h
    · rw[av] at h;cases h;exact .inr ⟨ag,t,ab,ae,rfl⟩
  · rename_i ag
    rw[List.getElem?_map] at h
    cases ad:l[b-P.globals.size]? with
    |none=>rw[ad] at h;cases h
    |some x=>rw[ad] at h;cases h;exact .inl ⟨x,rfl,ag,rfl⟩
 refine⟨⟨λb o j h aI=>?_,λb c' j k ab ae=>?_,λb j h=>?_,λb h=>?_⟩,λg ao=>⟨⟨g,0,wx W g⟩,by simp[sm,ao],rfl,rfl⟩,λb o h=>?_⟩
 · rcases ro b o h with⟨x,ad,ag,rfl⟩|⟨ag,t,a2,rfl,rfl⟩
   · unfold sm at aI
     rw[if_neg ag,List.getElem?_map,ad] at aI
     cases aI
     obtain⟨c,fz,aR,aT,bP⟩:=aw x (List.mem_of_getElem? ad)
     exact⟨c,fz.1,fz.2,aR,aT _,bP,trivial⟩
   · unfold sm at aI
     rw[if_pos ag] at aI
     cases aI
     obtain⟨_,c,fz,aR,aT⟩:=pN t a2
     refine⟨c,fz.1,fz.2,aR,λj v aH=>?_,by show 0+wx W t.g=c.size;unfold wx;rw[aR];simp,trivial⟩
     rw[F9] at aH
     cases ad:t.xs[j]? with
     |none=>rw[ad] at aH;cases aH
     |some x=>
      rw[ad] at aH;cases aH
      exact⟨_,by rw[Nat.zero_add];exact aT j x ad,rfl⟩
 · obtain⟨o,ae,av⟩:=ae
   rcases ro _ o ae with⟨x,_,_,rfl⟩|⟨_,t,_,_,rfl⟩<;>cases av
 · rw[aJ,List.length_map]
   unfold sm at h
   split at h
   · rename_i ag;cases h;exact⟨by omega,Nat.lt_of_lt_of_le ag lu⟩
   · rw[List.getElem?_map] at h
     cases ad:l[b-P.globals.size]? with
     |none=>rw[ad] at h;cases h
     |some x=>
      rw[ad] at h;cases h
      obtain⟨c,fz,aR,_⟩:=aw x (List.mem_of_getElem? ad)
      have:=(List.getElem?_eq_some_iff.1 ad).1
      exact⟨by omega,(Array.getElem?_eq_some_iff.1 aR).1⟩
 · rw[aJ,List.length_map] at h
   rw[ao,if_neg (by omega),List.getElem?_map,List.getElem?_eq_none (by omega)];rfl
 · rcases ro b o h with⟨x,_,_,rfl⟩|⟨_,t,_,_,rfl⟩<;>rfl
section
variable {P:Program}
end
end ay
namespace ay
open Go Go.ChangeShapes Go.WideShapes Go.ChangeAt Go.RowKit
end ay
namespace ay
open Go Go.RowKit
mutual
def gE(G n:Nat):J->J
 |.bad=>.bad
 |.bool b=>.bool b
 |.int k x=>.int k x
 |.str s=>.str s
 |.bc=>.bc
 |.ptr b o=>match Nat.blt b G with
  |true=>.bad
  |false=>.ptr (b-G+n) o
 |.az=>.az
 |.slice b o l c=>match Nat.blt b G with
  |true=>.bad
  |false=>.slice (b-G+n) o l c
 |.hz=>.hz
 |.map r=>match Nat.blt r G with
  |true=>.bad
  |false=>.map (r-G+n)
 |.fi=>.fi
 |.fn f a b=>.fn f (jK G n a) (jK G n b)
 |.bR l=>.bad
 |.eO=>.eO
 |.iface t v=>.iface t (gE G n v)
 |.agg cs=>.agg (jK G n cs)
 |.aD vs=>.aD (jK G n vs)
def jK(G n:Nat):List J->List J
 |[]=>[]
 |v::vs=>gE G n v::jK G n vs
end
theorem uw(G n:Nat):∀l,(jK G n l).length=l.length
 |[]=>rfl
 |v::l=>by simp[jK,uw G n l]
theorem F_(G n:Nat):∀(l:List J) (j:Nat),(jK G n l)[j]? =(l[j]?).map (gE G n)
 |[],j=>by simp[jK]
 |v::l,0=>by simp[jK]
 |v::l,j+1=>by simp[jK,F_ G n l j]
theorem Ga(G n:Nat):∀l,jK G n l=l.map (gE G n)
 |[]=>rfl
 |v::l=>by simp[jK,Ga G n l]
mutual
theorem wy{μ aP:bl}{G n:Nat}(h:∀b i,¬b<G->μ b=some i->aP (b-G+n)=some i):∀(a:J) (v:Value),bd μ a v->bd aP (gE G n a) v
 |.bad,_,_=>trivial
 |.bool _,_,h=>h
 |.int _ _,_,h=>h
 |.str _,_,h=>h
 |.bc,_,h=>h
 |.ptr b off,_,⟨i,af,e⟩=>by
  simp only[gE]
  split
  · trivial
  · rename_i ag
    have iF:¬b<G:=by
     intro ad;rw[<-Nat.blt_eq] at ad;rw[ad] at ag;cases ag
    exact⟨i,h _ _ iF af,e⟩
 |.az,_,h=>h
 |.slice b off len cap,_,⟨i,af,e⟩=>by
  simp only[gE]
  split
  · trivial
  · rename_i ag
    have iF:¬b<G:=by
     intro ad;rw[<-Nat.blt_eq] at ad;rw[ad] at ag;cases ag
    exact⟨i,h _ _ iF af,e⟩
 |.hz,_,h=>h
 |.map r,_,⟨i,af,e⟩=>by
  simp only[gE]
  split
  · trivial
  · rename_i ag
    have iF:¬r<G:=by
     intro ad;rw[<-Nat.blt_eq] at ad;rw[ad] at ag;cases ag
    exact⟨i,h _ _ iF af,e⟩
 |.fi,_,h=>h
 |.fn f first caps,_,⟨ct,cs,e,ab,ae⟩=>⟨ct,cs,e,yZ h _ _ ab,yZ h _ _ ae⟩
 |.bR l,_,_=>trivial
 |.eO,_,h=>h
 |.iface t x,_,⟨y,e,ad⟩=>⟨y,e,wy h _ _ ad⟩
 |.agg cs,_,⟨l,e,ad⟩=>⟨l,e,yZ h _ _ ad⟩
 |.aD cs,_,⟨l,e,ad⟩=>⟨l,e,yZ h _ _ ad⟩
theorem yZ{μ aP:bl}{G n:Nat}(h:∀b i,¬b<G->μ b=some i->aP (b-G+n)=some i):∀(as:List J) (vs:List Value),b9 μ as vs->b9 aP (jK G n as) vs
 |[],_,h=>h
 |a::as,_,⟨v,vs,e,ab,ae⟩=>⟨v,vs,e,wy h _ _ ab,yZ h _ _ ae⟩
end
def L4(G n:Nat)(e:fW):fW:=⟨gE G n e.key,gE G n e.val,e.born⟩
def kO(G n:Nat):b3->Option b3
 |.cells cs el k aW af=>some (.cells (jK G n cs) el k aW af)
 |.map es c=>some (.map (es.map (L4 G n)) c)
 |_=>none
theorem L5{μ aP:bl}{G n:Nat}(h:∀b i,¬b<G->μ b=some i->aP (b-G+n)=some i):∀(es:List fW) (ms:List MapEntry),gf μ es ms->gf aP (es.map (L4 G n)) ms
 |[],_,h=>h
 |e::es,_,⟨m,ms,q,⟨ab,ae,av⟩,aK⟩=>⟨m,ms,q,⟨wy h _ _ ab,wy h _ _ ae,av⟩,L5 h es ms aK⟩
theorem Vk{μ aP:bl}{G n:Nat}(h:∀b i,¬b<G->μ b=some i->aP (b-G+n)=some i){o o':b3}(he:kO G n o=some o'){i:eX}{w:World}(ai:ng μ o i w):ng aP o' i w:=by
 cases o with
 |cells cs el k aW af=>
  simp only[kO,Option.some.injEq] at he
  subst he
  obtain⟨c,fO,fP,ab,ae,av,aK⟩:=ai
  refine⟨c,fO,fP,ab,λj v aI=>?_,av,?_⟩
  · rw[F_] at aI
    cases ad:cs[j]? with
    |none=>rw[ad] at aI;cases aI
    |some v'=>
     rw[ad] at aI;cases aI
     obtain⟨u,aR,aT⟩:=ae j v' ad
     exact⟨u,aR,wy h _ _ aT⟩
  · cases k<;>simp only[DJ,uw] at aK⊢ <;>exact aK
 |map es c=>
  simp only[kO,Option.some.injEq] at he
  subst he
  obtain⟨ents,ab,ae⟩:=ai
  exact⟨ents,ab,L5 h _ _ ae⟩
 |o4 _ _=>cases he
 |mapIter _ _ _ _=>cases he
 |loop _ _ _ _ _ _ _ _=>cases he
 |defrd _=>cases he
 |raw _=>cases he
theorem Vl{G n:Nat}{o o':b3}(he:kO G n o=some o'):o'.nh=o.nh:=by
 cases o with
 |cells cs el k aW af=>simp only[kO,Option.some.injEq] at he;subst he;cases k<;>rfl
 |map es c=>simp only[kO,Option.some.injEq] at he;subst he;rfl
 |o4 _ _=>cases he
 |mapIter _ _ _ _=>cases he
 |loop _ _ _ _ _ _ _ _=>cases he
 |defrd _=>cases he
 |raw _=>cases he
def Gb(h:aa)(o:Option b3):aa:=⟨e0.kX (h.n+1) h.t h.n o,h.n+1⟩
theorem Vm(h:aa)(o:Option b3)(c:Nat):(Gb h o).get c=if c=h.n then o else h.get c:=e0.bH _ _ _ _ _ (Nat.lt_succ_self _)
def mc(G n:Nat)(H1:aa)(h:aa):Nat->aa
 |0=>h
 |k+1=>Gb (mc G n H1 h k) ((H1.get (G+k)).bind (kO G n))
theorem ux(G n:Nat)(H1 h:aa):∀k,(mc G n H1 h k).n=h.n+k
 |0=>rfl
 |k+1=>by show(mc G n H1 h k).n+1=_;rw[ux G n H1 h k];omega
theorem Gc(G n:Nat)(H1 h:aa):∀(k b:Nat),(mc G n H1 h k).get b=if b<h.n then h.get b else if b<h.n+k then(H1.get (G+(b-h.n))).bind (kO G n) else h.get b
 |0,b=>by
  show h.get b=_
  by_cases ab:b<h.n
  · rw[if_pos ab]
  · rw[if_neg ab,if_neg (by omega)]
 |k+1,b=>by
  show(Gb (mc G n H1 h k) _).get b=_
  rw[Vm,ux,Gc G n H1 h k b]
  by_cases ab:b<h.n
  · rw[if_neg (by omega),if_pos ab,if_pos ab]
  · rw[if_neg ab,if_neg ab]
    by_cases ae:b=h.n+k
    · subst ae
      rw[if_pos rfl,if_pos (by omega),Nat.add_sub_cancel_left]
    · rw[if_neg ae]
      by_cases av:b<h.n+k
      · rw[if_pos av,if_pos (by omega)]
      · rw[if_neg av,if_neg (by omega)]
def Cb:List fW->List fW->Bool
 |[],[]=>true
 |a::l,b::m=>J.beq a.key b.key&&J.beq a.val b.val&&Nat.beq a.born b.born&&Cb l m
 |_,_=>false
theorem L6:∀(l m:List fW),Cb l m=true->l=m
 |[],[],_=>rfl
 |⟨k,v,n⟩::l,⟨ew,v',ij⟩::m,h=>by
  simp only[Cb,Bool.and_eq_true] at h
  obtain⟨⟨⟨ab,ae⟩,av⟩,aK⟩:=h
  have aE:k=ew:=beq_eq _ _ ab
  have aC:v=v':=beq_eq _ _ ae
  have bu:n=ij:=Nat.eq_of_beq_eq_true av
  rw[L6 l m aK,aE,aC,bu]
def eZ.code:eZ->Nat
 |.own=>0|.aM=>1|.ro=>2|.fz=>3
theorem eZ.Vn{a b:eZ}(h:a.code=b.code):a=b:=by cases a<;>cases b<;>first|rfl|(simp[eZ.code] at h)
def pO:Option b3->Option b3->Bool
 |some (.cells a el k aW af),some (.cells b rK ew qp eQ)=>J.j_ a b&&Nat.beq el rK&&Nat.beq k.code ew.code&&Nat.beq aW qp&&Nat.beq af eQ
 |some (.map a c),some (.map b c')=>Cb a b&&Nat.beq c c'
 |some (.cells ..),_=>false
 |some (.map ..),_=>false
 |_,some (.cells ..)=>false
 |_,some (.map ..)=>false
 |_,_=>true
theorem Vo(G n:Nat){a b:Option b3}(h:pO a b=true):a.bind (kO G n)=b.bind (kO G n):=by
 cases a with
 |none=>cases b with
  |none=>rfl
  |some y=>cases y<;>first|rfl|(simp[pO] at h)
 |some x=>cases b with
  |none=>cases x<;>first|rfl|(simp[pO] at h)
  |some y=>
   cases x<;>cases y<;>first
    |rfl
    |(simp[pO] at h;done)
    |(simp only[pO,Bool.and_eq_true] at h
      obtain⟨⟨⟨⟨ab,ae⟩,av⟩,aK⟩,bU⟩:=h
      rw[qv _ _ ab,Nat.eq_of_beq_eq_true ae,eZ.Vn (Nat.eq_of_beq_eq_true av),Nat.eq_of_beq_eq_true aK,Nat.eq_of_beq_eq_true bU])
    |(simp only[pO,Bool.and_eq_true] at h
      rw[L6 _ _ h.1,Nat.eq_of_beq_eq_true h.2])
def L7(G:Nat)(H aZ:aa):Nat->Bool
 |0=>true
 |k+1=>match pO (H.get (G+k)) (aZ.get (G+k)) with
  |true=>L7 G H aZ k
  |false=>false
def adk(G:Nat):ax->ax->Bool
 |.ret v H,.ret v' aZ=>J.beq v v'&&Nat.beq H.n aZ.n&&L7 G H aZ (H.n-G)
 |_,_=>false
structure y0 where
 f:Nat
 args:List J
 r:ax
def qM(G:Nat)(ts:List j1):List y0->Nat->List J->aa->Option (J×aa)
 |[],_,_,_=>none
 |e::T,f,args,h=>match Nat.beq f e.f with
  |true=>match J.j_ args e.args with
   |true=>match qK h ts with
    |true=>match e.r with
     |.ret v H=>some (gE G h.n v,mc G h.n H h (H.n-G))
     |_=>none
    |false=>none
   |false=>qM G ts T f args h
  |false=>qM G ts T f args h
theorem L8{G:Nat}{ts:List j1}:∀{T:List y0} {f:Nat} {args:List J} {h:aa} {v:J} {an:aa},qM G ts T f args h=some (v,an)->qK h ts=true/\∃e∈T,e.f=f/\e.args=args/\∃v0 H0,e.r=.ret v0 H0/\v=gE G h.n v0/\an=mc G h.n H0 h (H0.n-G)
 |[],_,_,_,_,_,ad=>by cases ad
 |e::T,f,args,h,v,an,ad=>by
  simp only[qM] at ad
  have rest:qM G ts T f args h=some (v,an)->qK h ts=true/\∃cI∈e::T,cI.f=f/\cI.args=args/\∃v0 H0,cI.r=.ret v0 H0/\v=gE G h.n v0/\an=mc G h.n H0 h (H0.n-G):=λad=>by
   obtain⟨h0,cI,ab,ae⟩:=L8 ad
   exact⟨h0,cI,List.mem_cons_of_mem _ ab,ae⟩
  split at ad
  · rename_i hf
    split at ad
    · rename_i a5
      split at ad
      · rename_i a2
        split at ad
        · rename_i v0 H0 ai
          cases ad
          exact⟨a2,e,by simp,(Nat.eq_of_beq_eq_true hf).symm,(qv _ _ a5).symm,v0,H0,ai,rfl,rfl⟩
        · cases ad
      · cases ad
    · exact rest ad
  · exact rest ad
section
variable {P:Program}
def Gd(i1 i2:Nat->List J->aa->Option (J×aa))(f:Nat)(args:List J)(h:aa):Option (J×aa):=match i1 f args h with
 |some r=>some r
 |none=>i2 f args h
theorem Vp{i1 i2:Nat->List J->aa->Option (J×aa)}(ab:l4 P i1)(ae:l4 P i2):l4 P (Gd i1 i2):=by
 intro f args H v aZ ad
 unfold Gd at ad
 split at ad
 · rename_i r ai
   cases ad
   exact ab f args H v aZ ai
 · exact ae f args H v aZ ad
end
end ay
namespace ay
open Go Go.ChangeShapes Go.WideShapes Go.ChangeAt Go.RowKit
end ay
namespace ay
open Go
end ay
namespace ay
open Go
end ay
namespace ay
open Go Go.RowKit
def y1(G:Nat)(H aZ:aa):Nat->Bool
 |0=>true
 |k+1=>match aZ.get (G+k) with
  |none=>y1 G H aZ k
  |some o=>match pO (some o) (H.get (G+k)) with
   |true=>y1 G H aZ k
   |false=>false
theorem Ge{G:Nat}{H aZ:aa}:∀{k:Nat},y1 G H aZ k=true->∀j,j<k->∀o,aZ.get (G+j)=some o->pO (some o) (H.get (G+j))=true
 |0,_,j,aI,_,_=>by omega
 |k+1,h,j,aI,o,a8=>by
  simp only[y1] at h
  rcases Nat.lt_or_ge j k with ae|ae
  · split at h
    · exact Ge h j ae o a8
    · split at h
      · exact Ge h j ae o a8
      · cases h
  · obtain rfl:j=k:=by omega
    rw[a8] at h
    simp only at h
    split at h
    · rename_i ab;exact ab
    · cases h
def L9(G:Nat):ax->ax->Bool
 |.ret v H,.ret v' aZ=>J.beq v v'&&Nat.beq H.n aZ.n&&y1 G H aZ (H.n-G)
 |_,_=>false
def kn(n:Nat):List (Nat×b3)->aa
 |[]=>iE n
 |(b,o)::l=>(kn n l).set b (some o)
section
variable {P:Program}
def Gf(P:Program)(ts:List j1)(e:y0):Prop:=∃(intr:Nat->List J->aa->Option (J×aa)) (n:Nat),l4 P intr/\qB e.args=true/\∀fc,L9 P.globals.size (e_ P intr n (.fn e.f) e.args (uv P.globals.size fc ts [])) e.r=true
theorem Vq(hf:Fit P){ts:List j1}(pN:∀t∈ts,t.g<P.globals.size){T:List y0}(lv:∀e∈T,Gf P ts e):l4 P (qM P.globals.size ts T):=by
 intro f args H v aZ ad μ w vs aj ao aH
 obtain⟨dL,e,he,rfl,rfl,v0,H0,ai,rfl,rfl⟩:=L8 ad
 obtain⟨intr,n,af,mC,Vr⟩:=lv e he
 obtain⟨fc,Vs⟩:∃fc:Nat->Nat,∀g,fc g=match w.heap[g]? with|some (.cells _ el _)=>el|_=>0:=⟨_,λ_=>rfl⟩
 have ag:=Vr fc
 rw[ai] at ag
 unfold L9 at ag
 split at ag
 · rename_i v1 H1 v2 a7 eL ae
   cases ae
   simp only[Bool.and_eq_true] at ag
   obtain⟨⟨gh,dS⟩,Vt⟩:=ag
   have E3:=beq_eq _ _ gh
   subst E3
   have AW:H1.n=H0.n:=Nat.eq_of_beq_eq_true dS
   rw[<-AW]
   have gC:P.globals.size<=w.heap.size:=by
    cases bE:P.globals.size with
    |zero=>exact Nat.zero_le _
    |succ g=>
     obtain⟨i,ab,ae,av⟩:=ao g (by omega)
     have:=(aj.lt _ i ab).2
     omega
   have Vu:∀t∈ts,t.g<P.globals.size/\L3 w fc t:=λt a2=>by
    refine⟨pN t a2,?_⟩
    obtain⟨el,fR⟩:=Vh (L1 dL t a2)
    obtain⟨i,ab,ae,av⟩:=ao t.g (pN t a2)
    obtain⟨c,fO,fP,bz,bA,c8,_⟩:=aj.rel _ _ i fR ab
    rw[ae] at bz
    rw[av] at bA
    refine⟨c,(fO,fP),by rw[Vs,bz],λj x aI=>?_⟩
    obtain⟨u,vz,pf⟩:=bA j _ (by rw[F9,aI];rfl)
    rw[Nat.zero_add] at vz
    rw[vz,pf]
   obtain⟨s1,s2,bV⟩:=Vj (P:=P) gC fc ts Vu [] (by simp)
   have hp:=(EY hf af n).fn e.f e.args (uv P.globals.size fc ts []) (by rw[eL];rfl) _ w vs s1 s2 (tE _ _ mC aH)
   rw[eL] at hp
   refine hp.mono λkG w' qs=>?_
   obtain⟨gI,u,rfl,aR,aT,bP⟩:=qs
   have hold:∀r,r<w.heap.size->w'.heap[r]? =w.heap[r]? :=(bP.below bV s1).block
   obtain⟨aP,qN⟩:∃aP:bl,∀b,aP b=if b<H.n then μ b else gI (b-H.n+P.globals.size):=⟨_,λ_=>rfl⟩
   have adl:P.globals.size<=H1.n:=by
    have:=bP.n
    rw[(L2 P.globals.size fc ts [] λt a2=>pN t a2).1] at this
    simpa using this
   have hle:fa μ aP:=λb i ag=>by rw[qN,if_pos (aj.lt b i ag).1];exact ag
   have L_:∀b i,¬b<P.globals.size->gI b=some i->aP (b-P.globals.size+H.n)=some i:=λb i ag ab=>by
    rw[qN,if_neg (by omega)]
    have aE:b-P.globals.size+H.n-H.n+P.globals.size=b:=by omega
    rw[aE];exact ab
   have ln:∀b i,¬b<H.n->aP b=some i->gI (b-H.n+P.globals.size)=some i/\b<H.n+(H1.n-P.globals.size)/\w.heap.size<=i.bg:=λb i ag ab=>by
    rw[qN,if_neg ag] at ab
    have ae:=aT.lt _ i ab
    refine⟨ab,by omega,?_⟩
    have hm:sm P.globals.size (wx w) (([]:List (eX×List J×Nat)).map (·.1)) (b-H.n+P.globals.size)=none:=by
     unfold sm;rw[if_neg (by omega)];rfl
    rcases(bP.new _ i hm ab).2 with av|⟨c,o,j,av,aK,_⟩
    · exact av
    · have:=bV c o av;rw[aK] at this;cases this
   have fR:∀b,(mc P.globals.size H.n H0 H (H1.n-P.globals.size)).get b=if b<H.n then H.get b else if b<H.n+(H1.n-P.globals.size) then(H0.get (P.globals.size+(b-H.n))).bind (kO P.globals.size H.n) else H.get b:=Gc _ _ _ _ _
   have wz:∀b o,¬b<H.n->(mc P.globals.size H.n H0 H (H1.n-P.globals.size)).get b=some o->∃cT,H1.get (b-H.n+P.globals.size)=some cT/\kO P.globals.size H.n cT=some o:=λb o ag ab=>by
    rw[fR,if_neg ag] at ab
    split at ab
    · rename_i cx
      have aI:b-H.n<H1.n-P.globals.size:=by omega
      cases mu:H0.get (P.globals.size+(b-H.n)) with
      |none=>rw[mu] at ab;cases ab
      |some gx=>
       have a1:=Vo P.globals.size H.n (Ge Vt _ aI gx mu)
       rw[mu,a1] at ab
       rw[Nat.add_comm] at ab
       cases ad:H1.get (b-H.n+P.globals.size) with
       |none=>rw[ad] at ab;cases ab
       |some cT=>rw[ad] at ab;exact⟨cT,rfl,ab⟩
    · rw[aj.bound b (by omega)] at ab;cases ab
   refine⟨aP,u,rfl,wy L_ _ _ aR,⟨λb o i ag af=>?_,λb c i j ag ah af aI r3=>?_,λb i af=>?_,λb ag=>?_⟩,?_⟩
   · by_cases ab:b<H.n
     · rw[fR,if_pos ab] at ag
       rw[qN,if_pos ab] at af
       exact(aj.rel b o i ag af).mono hle (hold _ (aj.lt b i af).2)
     · obtain⟨cT,ae,av⟩:=wz b o ab ag
       exact Vk L_ av (aT.rel _ cT i ae (ln b i ab af).1)
   · obtain⟨n7,ah,hA⟩:=ah
     by_cases ab:b<H.n
     · rw[fR,if_pos ab] at ag
       rw[qN,if_pos ab] at af
       by_cases ae:c<H.n
       · rw[fR,if_pos ae] at ah
         rw[qN,if_pos ae] at aI
         exact aj.inj b c i j ag ⟨n7,ah,hA⟩ af aI r3
       · have q:=(ln c j ae aI).2.2
         have:=(aj.lt b i af).2
         omega
     · have q:=(ln b i ab af)
       by_cases ae:c<H.n
       · rw[qN,if_pos ae] at aI
         have:=(aj.lt c j aI).2
         have:=q.2.2
         omega
       · obtain⟨cT,bz,bA⟩:=wz c n7 ae ah
         have iF:H1.get (b-H.n+P.globals.size)≠none:=λad=>by
          cases a6:(mc P.globals.size H.n H0 H (H1.n-P.globals.size)).get b with
          |none=>exact ag a6
          |some ob=>obtain⟨dE,c8,_⟩:=wz b ob ab a6;rw[ad] at c8;cases c8
         have:=aT.inj _ _ i j iF ⟨cT,bz,by rw[<-Vl bA];exact hA⟩ q.1 (ln c j ae aI).1 r3
         omega
   · by_cases ab:b<H.n
     · rw[qN,if_pos ab] at af
       exact⟨by rw[ux];omega,Nat.lt_of_lt_of_le (aj.lt b i af).2 bP.size⟩
     · have q:=ln b i ab af
       exact⟨by rw[ux];exact q.2.1,(aT.lt _ i q.1).2⟩
   · rw[ux] at ag
     rw[fR,if_neg (by omega),if_neg (by omega)]
     exact aj.bound b (by omega)
   · refine⟨hle,bP.size,by rw[ux];omega,λb ag aw=>?_,λb ag _=>?_,λr ai _=>hold r ai,λb i ab ae=>?_,λb o i ag _ af=>?_,bP.os,bP.out,bP.tape,bP.drawn⟩
     · rw[fR,if_pos ag] at aw;exact aw
     · rw[fR,if_pos ag]
     · have ag:¬b<H.n:=λag=>by rw[qN,if_pos ag,ab] at ae;cases ae
       exact⟨by omega,.inl (ln b i ag ae).2.2⟩
     · refine⟨?_,hold _ (aj.lt b i af).2⟩
       rw[fR,if_pos (aj.lt b i af).1];exact ag
 · cases ag
end
end ay
namespace ay
open Go Go.RowKit
section
variable {P:Program}
end
end ay
namespace ay
open Go Go.RowKit
def Vv:b3->Bool
 |.cells .. =>true
 |.map .. =>true
 |_=>false
def Vw(h:aa):List (Nat×b3)->Bool
 |[]=>true
 |(b,o)::l=>match Vv o with
  |true=>match pO (some o) (h.get b) with
   |true=>Vw h l
   |false=>false
  |false=>false
def sn(h:aa):List (Nat×b3)->aa
 |[]=>h
 |(b,o)::l=>(sn h l).set b (some o)
theorem Ma(h:aa):∀l,(sn h l).n=h.n
 |[]=>rfl
 |(b,o)::l=>Ma h l
theorem Gg(h:aa):∀(l:List (Nat×b3)) (b:Nat),(∃o,(b,o)∈l/\(sn h l).get b=some o)\/((∀o,(b,o)∉l)/\(sn h l).get b=h.get b)
 |[],b=>.inr ⟨λo hm=>(by cases hm),rfl⟩
 |(c,o)::l,b=>by
  show(∃o',(b,o')∈(c,o)::l/\((sn h l).set c (some o)).get b=some o')\/((∀o',(b,o')∉(c,o)::l)/\((sn h l).set c (some o)).get b=h.get b)
  rw[aa.bH]
  by_cases e:b=c
  · subst e;exact .inl ⟨o,by simp,by rw[if_pos rfl]⟩
  · rw[if_neg e]
    rcases Gg h l b with⟨o',ab,ae⟩|⟨ab,ae⟩
    · exact .inl ⟨o',List.mem_cons_of_mem _ ab,ae⟩
    · refine .inr ⟨λo' hm=>?_,ae⟩
      rcases List.mem_cons.1 hm with q|hm
      · cases q;exact e rfl
      · exact ab o' hm
def so(n:Nat):List (Nat×b3)->Bool
 |[]=>true
 |(b,_)::m=>match Nat.blt b n with
  |true=>so n m
  |false=>false
theorem Gh{n:Nat}:∀{m:List (Nat×b3)},so n m=true->∀b o,(b,o)∈m->b<n
 |[],_,_,_,hm=>by cases hm
 |(c,o)::m,h,b,x,hm=>by
  unfold so at h
  split at h
  · rename_i ab
    rcases List.mem_cons.1 hm with e|hm
    · cases e;rw[Nat.blt_eq] at ab;exact ab
    · exact Gh h b x hm
  · cases h
section
variable {P:Program}
theorem Cc(n:Nat):∀l,kn n l=sn (iE n) l
 |[]=>rfl
 |(b,o)::l=>by show(kn n l).set b (some o)=(sn (iE n) l).set b (some o);rw[Cc n l]
theorem Gi(n b:Nat):(iE n).get b=none:=by cases b<;>rfl
end
end ay
namespace ay
open Go Go.RowKit
section
variable {P:Program}
end
end ay
namespace ay
open Go Go.RowKit
structure wA where
 f:Nat
 args:List J
 v:J
 n:Nat
 l:List (Nat×b3)
def wA.uy(e:wA):y0:=⟨e.f,e.args,.ret e.v (kn e.n e.l)⟩
def oE(G n:Nat)(h:aa):List (Nat×b3)->aa
 |[]=>h
 |(b,o)::l=>(oE G n h l).set (b-G+n) (kO G n o)
theorem Gj(G n qO:Nat)(h:aa):∀(l:List (Nat×b3)),(∀b o,(b,o)∈l->G<=b)->∀c,(oE G n h l).get c=if c<n then h.get c else match(kn qO l).get (G+(c-n)) with
  |some o=>kO G n o
  |none=>h.get c
 |[],_,c=>by
  show h.get c=_
  by_cases ah:c<n
  · rw[if_pos ah]
  · rw[if_neg ah]
    have:(kn qO []).get (G+(c-n))=none:=Gi qO _
    rw[this]
 |(b,o)::l,aw,c=>by
  have ag:=aw b o (by simp)
  have bp:=Gj G n qO h l (λb o hm=>aw b o (by simp[hm])) c
  show((oE G n h l).set (b-G+n) (kO G n o)).get c=_
  have aC:(kn qO ((b,o)::l)).get (G+(c-n))=if G+(c-n)=b then some o else(kn qO l).get (G+(c-n)):=aa.bH _ _ _ _
  rw[aa.bH,aC,bp]
  by_cases ah:c<n
  · rw[if_neg (by omega),if_pos ah,if_pos ah]
  · by_cases a1:c=b-G+n
    · rw[if_pos a1,if_neg ah,if_pos (by omega)]
    · have ad:¬G+(c-n)=b:=by omega
      rw[if_neg a1,if_neg ad]
def sq(G:Nat):List (Nat×b3)->Bool
 |[]=>true
 |(b,_)::m=>match Nat.ble G b with
  |true=>sq G m
  |false=>false
theorem Gk{G:Nat}:∀{m:List (Nat×b3)},sq G m=true->∀b o,(b,o)∈m->G<=b
 |[],_,_,_,hm=>by cases hm
 |(c,o)::m,h,b,x,hm=>by
  unfold sq at h
  split at h
  · rename_i ab
    rcases List.mem_cons.1 hm with e|hm
    · cases e;exact Nat.le_of_ble_eq_true ab
    · exact Gk h b x hm
  · cases h
def uz(G:Nat)(ts:List j1):List wA->Nat->List J->aa->Option (J×aa)
 |[],_,_,_=>none
 |e::T,f,args,h=>match Nat.beq f e.f with
  |true=>match J.j_ args e.args with
   |true=>match qK h ts with
    |true=>match sq G e.l&&so e.n e.l with
     |true=>some (gE G h.n e.v,⟨(oE G h.n h e.l).t,h.n+(e.n-G)⟩)
     |false=>none
    |false=>none
   |false=>uz G ts T f args h
  |false=>uz G ts T f args h
theorem Mb{G:Nat}{ts:List j1}:∀{T:List wA} {f:Nat} {args:List J} {h:aa} {v:J} {an:aa},uz G ts T f args h=some (v,an)->qK h ts=true/\∃e∈T,e.f=f/\e.args=args/\J.j_ args e.args=true/\(sq G e.l&&so e.n e.l)=true/\v=gE G h.n e.v/\an=⟨(oE G h.n h e.l).t,h.n+(e.n-G)⟩
 |[],_,_,_,_,_,ad=>by cases ad
 |e::T,f,args,h,v,an,ad=>by
  simp only[uz] at ad
  have rest:uz G ts T f args h=some (v,an)->qK h ts=true/\∃cI∈e::T,cI.f=f/\cI.args=args/\J.j_ args cI.args=true/\(sq G cI.l&&so cI.n cI.l)=true/\v=gE G h.n cI.v/\an=⟨(oE G h.n h cI.l).t,h.n+(cI.n-G)⟩:=λad=>by
   obtain⟨h0,cI,ab,ae⟩:=Mb ad
   exact⟨h0,cI,List.mem_cons_of_mem _ ab,ae⟩
  split at ad
  · rename_i hf
    split at ad
    · rename_i a5
      split at ad
      · rename_i a2
        split at ad
        · rename_i aw
          cases ad
          exact⟨a2,e,by simp,(Nat.eq_of_beq_eq_true hf).symm,(qv _ _ a5).symm,a5,aw,rfl,rfl⟩
        · cases ad
      · cases ad
    · exact rest ad
  · exact rest ad
theorem bm.same{μ:bl}{H aZ:aa}{w:World}(h:bm μ H w)(aJ:aZ.n=H.n)(ao:∀b,aZ.get b=H.get b):bm μ aZ w:=
 ⟨λb o i ab ae=>h.rel b o i (by rw[<-ao];exact ab) ae,λb c i j ab ae=>h.inj b c i j (by rw[<-ao];exact ab) (by rw[<-ao];exact ae),λb i ab=>by rw[aJ];exact h.lt b i ab,λb ag=>by rw[ao];exact h.bound b (by omega)⟩
theorem b4.same{μ aP:bl}{H H1 aZ:aa}{w w':World}(h:b4 μ H w aP H1 w')(aJ:aZ.n=H1.n)(ao:∀b,aZ.get b=H1.get b):b4 μ H w aP aZ w':=
 ⟨h.le,h.size,by rw[aJ];exact h.n,λb ag aw=>h.live b ag (by rw[<-ao];exact aw),λb ag hm=>by rw[ao];exact h.idle b ag hm,h.old,h.new,λb o i ab ae av=>by rw[ao];exact h.ro b o i ab ae av,h.os,h.out,h.tape,h.drawn⟩
section
variable {P:Program}
theorem Vx(hf:Fit P){ts:List j1}(pN:∀t∈ts,t.g<P.globals.size){T:List wA}(lv:∀e∈T,Gf P ts e.uy):l4 P (uz P.globals.size ts T):=by
 intro f args H v aZ ad μ w vs aj ao aH
 obtain⟨dL,e,he,rfl,rfl,uA,aw,rfl,rfl⟩:=Mb ad
 rw[Bool.and_eq_true] at aw
 have jU:l4 P (qM P.globals.size ts [e.uy]):=Vq hf pN λx ad=>by obtain rfl:=List.mem_singleton.1 ad;exact lv e he
 have xM:(kn e.n e.l).n=e.n:=by rw[Cc,Ma];rfl
 have af:qM P.globals.size ts [e.uy] e.f e.args H=some (gE P.globals.size H.n e.v,mc P.globals.size H.n (kn e.n e.l) H (e.n-P.globals.size)):=by
  have bh:Nat.beq e.f e.uy.f=true:=Nat.beq_refl _
  have bf:J.j_ e.args e.uy.args=true:=uA
  have dM:e.uy.r=.ret e.v (kn e.n e.l):=rfl
  simp only[qM,bh,bf,dL,dM,xM]
 have hp:=jU e.f e.args H _ _ af μ w vs aj ao aH
 refine hp.mono λkG w' qs=>?_
 obtain⟨gI,u,rfl,aR,aT,bP⟩:=qs
 have wz:(mc P.globals.size H.n (kn e.n e.l) H (e.n-P.globals.size)).n=H.n+(e.n-P.globals.size):=ux _ _ _ _ _
 have Mc:∀b,(⟨(oE P.globals.size H.n H e.l).t,H.n+(e.n-P.globals.size)⟩:aa).get b=(mc P.globals.size H.n (kn e.n e.l) H (e.n-P.globals.size)).get b:=λb=>by
  show(oE P.globals.size H.n H e.l).get b=_
  rw[Gj P.globals.size H.n e.n H e.l (Gk aw.1) b,Gc]
  by_cases ab:b<H.n
  · rw[if_pos ab,if_pos ab]
  · rw[if_neg ab,if_neg ab]
    by_cases ae:b<H.n+(e.n-P.globals.size)
    · rw[if_pos ae]
      cases ad:(kn e.n e.l).get (P.globals.size+(b-H.n)) with
      |none=>exact aj.bound b (by omega)
      |some o=>rfl
    · rw[if_neg ae]
      cases ad:(kn e.n e.l).get (P.globals.size+(b-H.n)) with
      |none=>rfl
      |some o=>
       exfalso
       rw[Cc] at ad
       rcases Gg (iE e.n) e.l (P.globals.size+(b-H.n)) with⟨o',bz,bA⟩|⟨bz,bA⟩
       · have:=Gh aw.2 _ _ bz
         omega
       · rw[ad,Gi] at bA;cases bA
 exact⟨gI,u,rfl,aR,aT.same (by rw[wz]) Mc,bP.same (by rw[wz]) Mc⟩
end
end ay
