/-
  PROVED HERE: contracts of functions (Ax). No condition beside each statement's own.
-/
import Derived.Test.YtfooahfebojldaaGreatDoorAed
import Derived.OpenShut
import Derived.ChangeSame
import Derived.Lay
set_option linter.unusedVariables false
set_option linter.unusedSimpArgs false
namespace aB
open Go Go.RowKit
structure i_ where
 g:Nat
 xs:List Nat
def qX:List Nat->List I
 |[]=>[]
 |x::l=>.int .u8 (Int.ofNat x)::qX l
def i_.obj(eL:Nat->Nat)(t:i_):cp:=.cells (qX t.xs) (eL t.g) .ro 0 0
def zJ:List I->List Nat->Bool
 |[],[]=>true
 |.int .u8 (.ofNat n)::l,x::xs=>match Nat.beq n x with
  |true=>zJ l xs
  |false=>false
 |_,_=>false
theorem It:∀(l:List I) (xs:List Nat),zJ l xs=true->l=qX xs
 |[],[],_=>rfl
 |.int .u8 (.ofNat n)::l,x::xs,h=>by
  simp only[zJ] at h
  split at h
  · rename_i aI
    rw[It l xs h,Nat.eq_of_beq_eq_true aI];rfl
  · cases h
def zK(h:J)(t:i_):Bool:=match h.get t.g with
 |some (.cells cs _ .ro 0 0)=>zJ cs t.xs
 |_=>false
def pt(h:J):List i_->Bool
 |[]=>true
 |t::bJ=>match zK h t with
  |true=>pt h bJ
  |false=>false
theorem Qi{h:J}{t:i_}(ae:zK h t=true):∃el,h.get t.g=some (.cells (qX t.xs) el .ro 0 0):=by
 unfold zK at ae
 split at ae
 · rename_i cs el ak
   exact⟨el,by rw[ak,It _ _ ae]⟩
 · cases ae
theorem Iu:∀{bJ:List i_} {h:J},pt h bJ=true->∀t∈bJ,zK h t=true
 |[],h,_,t,aU=>by cases aU
 |x::bJ,h,ae,t,aU=>by
  simp only[pt] at ae
  split at ae
  · rename_i aa
    rcases List.mem_cons.1 aU with rfl|aU
    · exact aa
    · exact Iu ae t aU
  · cases ae
def pv(eL:Nat->Nat)(h:J)(t:i_):J:=h.set t.g (some (t.obj eL))
def sP(G:Nat)(eL:Nat->Nat)(bJ:List i_)(rows:List (List I×Nat)):J:=rows.foldl sg (bJ.foldl (pv eL) (iv G))
def qY(G:Nat)(sz:Nat->Nat)(is:List dY):bg:=λb=>if b<G then some ⟨b,0,sz b⟩ else is[b-G]?
theorem C7(eL:Nat->Nat):∀(bJ:List i_) (h:J),(bJ.foldl (pv eL) h).n=h.n/\∀b,(bJ.foldl (pv eL) h).get b=h.get b\/∃t∈bJ,t.g=b/\(bJ.foldl (pv eL) h).get b=some (t.obj eL)
 |[],h=>⟨rfl,λb=>.inl rfl⟩
 |t::bJ,h=>by
  obtain⟨aV,aY⟩:=C7 eL bJ (pv eL h t)
  have ak:∀b,(pv eL h t).get b=if b=t.g then some (t.obj eL) else h.get b:=λb=>J.b2 _ _ _ _
  refine⟨aV,λb=>?_⟩
  rw[List.foldl_cons]
  rcases aY b with q|⟨C8,aa,ad,aw⟩
  · rw[q,ak]
    by_cases e:b=t.g
    · rw[if_pos e];exact .inr ⟨t,by simp,e.symm,rfl⟩
    · rw[if_neg e];exact .inl rfl
  · exact .inr ⟨C8,by simp[aa],ad,aw⟩
theorem Iv(G:Nat)(eL:Nat->Nat)(bJ:List i_)(rows:List (List I×Nat))(oF:∀t∈bJ,t.g<G):(sP G eL bJ rows).n=G+rows.length/\∀b,(sP G eL bJ rows).get b=if b<G then(bJ.foldl (pv eL) (iv G)).get b else(rows[b-G]?).map λr=>.cells r.1 r.2 .ro 0 0:=by
 obtain⟨aV,aY⟩:=C7 eL bJ (iv G)
 have aI:(bJ.foldl (pv eL) (iv G)).n=G:=aV
 obtain⟨r1,r2⟩:=y6 rows (bJ.foldl (pv eL) (iv G)) λb af=>by
  rw[aI] at af
  rcases aY b with q|⟨t,aa,ad,_⟩
  · rw[q];rfl
  · have:=oF t aa;omega
 rw[aI] at r1 r2
 exact⟨r1,r2⟩
def Iw(W:World)(eL:Nat->Nat)(t:i_):Prop:=∃c fz,W.heap[t.g]? =some (.cells c (eL t.g) fz)/\∀(j:Nat) (x:Nat),t.xs[j]? =some x->c[j]? =some (.int .u8 (Int.ofNat x))
theorem C9:∀(xs:List Nat) (j:Nat),(qX xs)[j]? =(xs[j]?).map λx=>.int .u8 (Int.ofNat x)
 |[],j=>by simp[qX]
 |x::xs,0=>by simp[qX]
 |x::xs,j+1=>by simp[qX,C9 xs j]
def uy(W:World)(g:Nat):Nat:=match W.heap[g]? with
 |some (.cells c _ _)=>c.size
 |_=>0
theorem Qj{P:Program}{W:World}(hq:P.globals.size<=W.heap.size)(eL:Nat->Nat)(bJ:List i_)(oF:∀t∈bJ,t.g<P.globals.size/\Iw W eL t)(l:List (dY×List I×Nat))(aq:∀x∈l,tW W x.1 x.2.1 x.2.2):
  bn (qY P.globals.size (uy W) (l.map (·.1))) (sP P.globals.size eL bJ (l.map (·.2))) W/\ha P (qY P.globals.size (uy W) (l.map (·.1)))/\tV (sP P.globals.size eL bJ (l.map (·.2))):=by
 obtain⟨aI,ak⟩:=Iv P.globals.size eL bJ (l.map (·.2)) λt aU=>(oF t aU).1
 have ro:∀b o,(sP P.globals.size eL bJ (l.map (·.2))).get b=some o->(∃x,l[b-P.globals.size]? =some x/\¬b<P.globals.size/\o=.cells x.2.1 x.2.2 .ro 0 0)\/(b<P.globals.size/\∃t∈bJ,t.g=b/\o=t.obj eL):=by
  intro b o h
  rw[ak] at h
  split at h
  · rename_i af
    rcases(C7 eL bJ (iv P.globals.size)).2 b with q|⟨t,aa,ad,aw⟩
    · rw[q] at h;cases h
    · rw[aw] at h;cases h;exact .inr ⟨af,t,aa,ad,rfl⟩
  · rename_i af
    rw[List.getElem?_map] at h
    cases ab:l[b-P.globals.size]? with
    |none=>rw[ab] at h;cases h
    |some x=>rw[ab] at h;cases h;exact .inl ⟨x,rfl,af,rfl⟩
 refine⟨⟨λb o j h aG=>?_,λb c' j k aa ad=>?_,λb j h=>?_,λb h=>?_⟩,λg ak=>⟨⟨g,0,uy W g⟩,by simp[qY,ak],rfl,rfl⟩,λb o h=>?_⟩
 · rcases ro b o h with⟨x,ab,af,rfl⟩|⟨af,t,aU,rfl,rfl⟩
   · unfold qY at aG
     rw[if_neg af,List.getElem?_map,ab] at aG
     cases aG
     obtain⟨c,fz,aV,aY,cw⟩:=aq x (List.mem_of_getElem? ab)
     exact⟨c,fz.1,fz.2,aV,aY _,cw,trivial⟩
   · unfold qY at aG
     rw[if_pos af] at aG
     cases aG
     obtain⟨_,c,fz,aV,aY⟩:=oF t aU
     refine⟨c,fz.1,fz.2,aV,λj v aC=>?_,by show 0+uy W t.g=c.size;unfold uy;rw[aV];simp,trivial⟩
     rw[C9] at aC
     cases ab:t.xs[j]? with
     |none=>rw[ab] at aC;cases aC
     |some x=>
      rw[ab] at aC;cases aC
      exact⟨_,by rw[Nat.zero_add];exact aY j x ab,rfl⟩
 · obtain⟨o,ad,aw⟩:=ad
   rcases ro _ o ad with⟨x,_,_,rfl⟩|⟨_,t,_,_,rfl⟩<;>cases aw
 · rw[aI,List.length_map]
   unfold qY at h
   split at h
   · rename_i af;cases h;exact⟨by omega,Nat.lt_of_lt_of_le af hq⟩
   · rw[List.getElem?_map] at h
     cases ab:l[b-P.globals.size]? with
     |none=>rw[ab] at h;cases h
     |some x=>
      rw[ab] at h;cases h
      obtain⟨c,fz,aV,_⟩:=aq x (List.mem_of_getElem? ab)
      have:=(List.getElem?_eq_some_iff.1 ab).1
      exact⟨by omega,(Array.getElem?_eq_some_iff.1 aV).1⟩
 · rw[aI,List.length_map] at h
   rw[ak,if_neg (by omega),List.getElem?_map,List.getElem?_eq_none (by omega)];rfl
 · rcases ro b o h with⟨x,_,_,rfl⟩|⟨_,t,_,_,rfl⟩<;>rfl
section
variable {P:Program}
end
end aB
namespace aB
open Go Go.ChangeShapes Go.WideShapes Go.ChangeAt Go.RowKit
end aB
namespace aB
open Go Go.RowKit
mutual
def fN(G n:Nat):I->I
 |.bad=>.bad
 |.bool b=>.bool b
 |.int k x=>.int k x
 |.str s=>.str s
 |.bm=>.bm
 |.ptr b o=>match Nat.blt b G with
  |true=>.bad
  |false=>.ptr (b-G+n) o
 |.bf=>.bf
 |.slice b o l c=>match Nat.blt b G with
  |true=>.bad
  |false=>.slice (b-G+n) o l c
 |.gU=>.gU
 |.map r=>match Nat.blt r G with
  |true=>.bad
  |false=>.map (r-G+n)
 |.e4=>.e4
 |.fn f a b=>.fn f (iG G n a) (iG G n b)
 |.b8 l=>.bad
 |.ew=>.ew
 |.iface t v=>.iface t (fN G n v)
 |.agg cs=>.agg (iG G n cs)
 |.aP vs=>.aP (iG G n vs)
def iG(G n:Nat):List I->List I
 |[]=>[]
 |v::vs=>fN G n v::iG G n vs
end
theorem sQ(G n:Nat):∀l,(iG G n l).length=l.length
 |[]=>rfl
 |v::l=>by simp[iG,sQ G n l]
theorem C_(G n:Nat):∀(l:List I) (j:Nat),(iG G n l)[j]? =(l[j]?).map (fN G n)
 |[],j=>by simp[iG]
 |v::l,0=>by simp[iG]
 |v::l,j+1=>by simp[iG,C_ G n l j]
theorem Da(G n:Nat):∀l,iG G n l=l.map (fN G n)
 |[]=>rfl
 |v::l=>by simp[iG,Da G n l]
mutual
theorem uz{μ aM:bg}{G n:Nat}(h:∀b i,¬b<G->μ b=some i->aM (b-G+n)=some i):∀(a:I) (v:Value),a9 μ a v->a9 aM (fN G n a) v
 |.bad,_,_=>trivial
 |.bool _,_,h=>h
 |.int _ _,_,h=>h
 |.str _,_,h=>h
 |.bm,_,h=>h
 |.ptr b off,_,⟨i,ae,e⟩=>by
  simp only[fN]
  split
  · trivial
  · rename_i af
    have gz:¬b<G:=by
     intro ab;rw[<-Nat.blt_eq] at ab;rw[ab] at af;cases af
    exact⟨i,h _ _ gz ae,e⟩
 |.bf,_,h=>h
 |.slice b off len cap,_,⟨i,ae,e⟩=>by
  simp only[fN]
  split
  · trivial
  · rename_i af
    have gz:¬b<G:=by
     intro ab;rw[<-Nat.blt_eq] at ab;rw[ab] at af;cases af
    exact⟨i,h _ _ gz ae,e⟩
 |.gU,_,h=>h
 |.map r,_,⟨i,ae,e⟩=>by
  simp only[fN]
  split
  · trivial
  · rename_i af
    have gz:¬r<G:=by
     intro ab;rw[<-Nat.blt_eq] at ab;rw[ab] at af;cases af
    exact⟨i,h _ _ gz ae,e⟩
 |.e4,_,h=>h
 |.fn f first aK,_,⟨cc,cs,e,aa,ad⟩=>⟨cc,cs,e,wX h _ _ aa,wX h _ _ ad⟩
 |.b8 l,_,_=>trivial
 |.ew,_,h=>h
 |.iface t x,_,⟨y,e,ab⟩=>⟨y,e,uz h _ _ ab⟩
 |.agg cs,_,⟨l,e,ab⟩=>⟨l,e,wX h _ _ ab⟩
 |.aP cs,_,⟨l,e,ab⟩=>⟨l,e,wX h _ _ ab⟩
theorem wX{μ aM:bg}{G n:Nat}(h:∀b i,¬b<G->μ b=some i->aM (b-G+n)=some i):∀(as:List I) (vs:List Value),b4 μ as vs->b4 aM (iG G n as) vs
 |[],_,h=>h
 |a::as,_,⟨v,vs,e,aa,ad⟩=>⟨v,vs,e,uz h _ _ aa,wX h _ _ ad⟩
end
def Ix(G n:Nat)(e:fm):fm:=⟨fN G n e.key,fN G n e.val,e.born⟩
def j2(G n:Nat):cp->Option cp
 |.cells cs el k bk ae=>some (.cells (iG G n cs) el k bk ae)
 |.map es c=>some (.map (es.map (Ix G n)) c)
 |_=>none
theorem Iy{μ aM:bg}{G n:Nat}(h:∀b i,¬b<G->μ b=some i->aM (b-G+n)=some i):∀(es:List fm) (ms:List MapEntry),fx μ es ms->fx aM (es.map (Ix G n)) ms
 |[],_,h=>h
 |e::es,_,⟨m,ms,q,⟨aa,ad,aw⟩,aQ⟩=>⟨m,ms,q,⟨uz h _ _ aa,uz h _ _ ad,aw⟩,Iy h es ms aQ⟩
theorem Qk{μ aM:bg}{G n:Nat}(h:∀b i,¬b<G->μ b=some i->aM (b-G+n)=some i){o o':cp}(he:j2 G n o=some o'){i:dY}{w:World}(ai:mC μ o i w):mC aM o' i w:=by
 cases o with
 |cells cs el k bk ae=>
  simp only[j2,Option.some.injEq] at he
  subst he
  obtain⟨c,fg,fh,aa,ad,aw,aQ⟩:=ai
  refine⟨c,fg,fh,aa,λj v aG=>?_,aw,?_⟩
  · rw[C_] at aG
    cases ab:cs[j]? with
    |none=>rw[ab] at aG;cases aG
    |some v'=>
     rw[ab] at aG;cases aG
     obtain⟨u,aV,aY⟩:=ad j v' ab
     exact⟨u,aV,uz h _ _ aY⟩
  · cases k<;>simp only[AM,sQ] at aQ⊢ <;>exact aQ
 |map es c=>
  simp only[j2,Option.some.injEq] at he
  subst he
  obtain⟨ents,aa,ad⟩:=ai
  exact⟨ents,aa,Iy h _ _ ad⟩
 |nY _ _=>cases he
 |mapIter _ _ _ _=>cases he
 |loop _ _ _ _ _ _ _ _=>cases he
 |defrd _=>cases he
 |raw _=>cases he
theorem Ql{G n:Nat}{o o':cp}(he:j2 G n o=some o'):o'.mD=o.mD:=by
 cases o with
 |cells cs el k bk ae=>simp only[j2,Option.some.injEq] at he;subst he;cases k<;>rfl
 |map es c=>simp only[j2,Option.some.injEq] at he;subst he;rfl
 |nY _ _=>cases he
 |mapIter _ _ _ _=>cases he
 |loop _ _ _ _ _ _ _ _=>cases he
 |defrd _=>cases he
 |raw _=>cases he
def Db(h:J)(o:Option cp):J:=⟨ez.j9 (h.n+1) h.t h.n o,h.n+1⟩
theorem Qm(h:J)(o:Option cp)(c:Nat):(Db h o).get c=if c=h.n then o else h.get c:=ez.b2 _ _ _ _ _ (Nat.lt_succ_self _)
def lx(G n:Nat)(H1:J)(h:J):Nat->J
 |0=>h
 |k+1=>Db (lx G n H1 h k) ((H1.get (G+k)).bind (j2 G n))
theorem sR(G n:Nat)(H1 h:J):∀k,(lx G n H1 h k).n=h.n+k
 |0=>rfl
 |k+1=>by show(lx G n H1 h k).n+1=_;rw[sR G n H1 h k];omega
theorem Dc(G n:Nat)(H1 h:J):∀(k b:Nat),(lx G n H1 h k).get b=if b<h.n then h.get b else if b<h.n+k then(H1.get (G+(b-h.n))).bind (j2 G n) else h.get b
 |0,b=>by
  show h.get b=_
  by_cases aa:b<h.n
  · rw[if_pos aa]
  · rw[if_neg aa,if_neg (by omega)]
 |k+1,b=>by
  show(Db (lx G n H1 h k) _).get b=_
  rw[Qm,sR,Dc G n H1 h k b]
  by_cases aa:b<h.n
  · rw[if_neg (by omega),if_pos aa,if_pos aa]
  · rw[if_neg aa,if_neg aa]
    by_cases ad:b=h.n+k
    · subst ad
      rw[if_pos rfl,if_pos (by omega),Nat.add_sub_cancel_left]
    · rw[if_neg ad]
      by_cases aw:b<h.n+k
      · rw[if_pos aw,if_pos (by omega)]
      · rw[if_neg aw,if_neg (by omega)]
def zL:List fm->List fm->Bool
 |[],[]=>true
 |a::l,b::m=>I.beq a.key b.key&&I.beq a.val b.val&&Nat.beq a.born b.born&&zL l m
 |_,_=>false
theorem Iz:∀(l m:List fm),zL l m=true->l=m
 |[],[],_=>rfl
 |⟨k,v,n⟩::l,⟨ff,v',A_⟩::m,h=>by
  simp only[zL,Bool.and_eq_true] at h
  obtain⟨⟨⟨aa,ad⟩,aw⟩,aQ⟩:=h
  have ax:k=ff:=beq_eq _ _ aa
  have ay:v=v':=beq_eq _ _ ad
  have bF:n=A_:=Nat.eq_of_beq_eq_true aw
  rw[Iz l m aQ,ax,ay,bF]
def ey.code:ey->Nat
 |.own=>0|.aS=>1|.ro=>2|.fz=>3
theorem ey.Qn{a b:ey}(h:a.code=b.code):a=b:=by cases a<;>cases b<;>first|rfl|(simp[ey.code] at h)
def oG:Option cp->Option cp->Bool
 |some (.cells a el k bk ae),some (.cells b qi ff qd dV)=>I.jt a b&&Nat.beq el qi&&Nat.beq k.code ff.code&&Nat.beq bk qd&&Nat.beq ae dV
 |some (.map a c),some (.map b c')=>zL a b&&Nat.beq c c'
 |some (.cells ..),_=>false
 |some (.map ..),_=>false
 |_,some (.cells ..)=>false
 |_,some (.map ..)=>false
 |_,_=>true
theorem Qo(G n:Nat){a b:Option cp}(h:oG a b=true):a.bind (j2 G n)=b.bind (j2 G n):=by
 cases a with
 |none=>cases b with
  |none=>rfl
  |some y=>cases y<;>first|rfl|(simp[oG] at h)
 |some x=>cases b with
  |none=>cases x<;>first|rfl|(simp[oG] at h)
  |some y=>
   cases x<;>cases y<;>first
    |rfl
    |(simp[oG] at h;done)
    |(simp only[oG,Bool.and_eq_true] at h
      obtain⟨⟨⟨⟨aa,ad⟩,aw⟩,aQ⟩,bS⟩:=h
      rw[o_ _ _ aa,Nat.eq_of_beq_eq_true ad,ey.Qn (Nat.eq_of_beq_eq_true aw),Nat.eq_of_beq_eq_true aQ,Nat.eq_of_beq_eq_true bS])
    |(simp only[oG,Bool.and_eq_true] at h
      rw[Iz _ _ h.1,Nat.eq_of_beq_eq_true h.2])
def IA(G:Nat)(H aT:J):Nat->Bool
 |0=>true
 |k+1=>match oG (H.get (G+k)) (aT.get (G+k)) with
  |true=>IA G H aT k
  |false=>false
def Yw(G:Nat):ao->ao->Bool
 |.ret v H,.ret v' aT=>I.beq v v'&&Nat.beq H.n aT.n&&IA G H aT (H.n-G)
 |_,_=>false
structure wY where
 f:Nat
 args:List I
 r:ao
def pw(G:Nat)(bJ:List i_):List wY->Nat->List I->J->Option (I×J)
 |[],_,_,_=>none
 |e::T,f,args,h=>match Nat.beq f e.f with
  |true=>match I.jt args e.args with
   |true=>match pt h bJ with
    |true=>match e.r with
     |.ret v H=>some (fN G h.n v,lx G h.n H h (H.n-G))
     |_=>none
    |false=>none
   |false=>pw G bJ T f args h
  |false=>pw G bJ T f args h
theorem IB{G:Nat}{bJ:List i_}:∀{T:List wY} {f:Nat} {args:List I} {h:J} {v:I} {an:J},pw G bJ T f args h=some (v,an)->pt h bJ=true/\∃e∈T,e.f=f/\e.args=args/\∃v0 kp,e.r=.ret v0 kp/\v=fN G h.n v0/\an=lx G h.n kp h (kp.n-G)
 |[],_,_,_,_,_,ab=>by cases ab
 |e::T,f,args,h,v,an,ab=>by
  simp only[pw] at ab
  have rest:pw G bJ T f args h=some (v,an)->pt h bJ=true/\∃cR∈e::T,cR.f=f/\cR.args=args/\∃v0 kp,cR.r=.ret v0 kp/\v=fN G h.n v0/\an=lx G h.n kp h (kp.n-G):=λab=>by
   obtain⟨h0,cR,aa,ad⟩:=IB ab
   exact⟨h0,cR,List.mem_cons_of_mem _ aa,ad⟩
  split at ab
  · rename_i hf
    split at ab
    · rename_i ba
      split at ab
      · rename_i aU
        split at ab
        · rename_i v0 kp ai
          cases ab
          exact⟨aU,e,by simp,(Nat.eq_of_beq_eq_true hf).symm,(o_ _ _ ba).symm,v0,kp,ai,rfl,rfl⟩
        · cases ab
      · cases ab
    · exact rest ab
  · exact rest ab
section
variable {P:Program}
def Dd(i1 i2:Nat->List I->J->Option (I×J))(f:Nat)(args:List I)(h:J):Option (I×J):=match i1 f args h with
 |some r=>some r
 |none=>i2 f args h
theorem Qp{i1 i2:Nat->List I->J->Option (I×J)}(aa:lj P i1)(ad:lj P i2):lj P (Dd i1 i2):=by
 intro f args H v aT ab
 unfold Dd at ab
 split at ab
 · rename_i r ai
   cases ab
   exact aa f args H v aT ai
 · exact ad f args H v aT ab
end
end aB
namespace aB
open Go Go.ChangeShapes Go.WideShapes Go.ChangeAt Go.RowKit
end aB
namespace aB
open Go
end aB
namespace aB
open Go
end aB
namespace aB
open Go Go.RowKit
def wZ(G:Nat)(H aT:J):Nat->Bool
 |0=>true
 |k+1=>match aT.get (G+k) with
  |none=>wZ G H aT k
  |some o=>match oG (some o) (H.get (G+k)) with
   |true=>wZ G H aT k
   |false=>false
theorem De{G:Nat}{H aT:J}:∀{k:Nat},wZ G H aT k=true->∀j,j<k->∀o,aT.get (G+j)=some o->oG (some o) (H.get (G+j))=true
 |0,_,j,aG,_,_=>by omega
 |k+1,h,j,aG,o,a7=>by
  simp only[wZ] at h
  rcases Nat.lt_or_ge j k with ad|ad
  · split at h
    · exact De h j ad o a7
    · split at h
      · exact De h j ad o a7
      · cases h
  · obtain rfl:j=k:=by omega
    rw[a7] at h
    simp only at h
    split at h
    · rename_i aa;exact aa
    · cases h
def IC(G:Nat):ao->ao->Bool
 |.ret v H,.ret v' aT=>I.beq v v'&&Nat.beq H.n aT.n&&wZ G H aT (H.n-G)
 |_,_=>false
def jD(n:Nat):List (Nat×cp)->J
 |[]=>iv n
 |(b,o)::l=>(jD n l).set b (some o)
section
variable {P:Program}
def Df(P:Program)(bJ:List i_)(e:wY):Prop:=∃(intr:Nat->List I->J->Option (I×J)) (n:Nat),lj P intr/\pd e.args=true/\∀eL,IC P.globals.size (fq P intr n (.fn e.f) e.args (sP P.globals.size eL bJ [])) e.r=true
theorem Qq(hf:Fit P){bJ:List i_}(oF:∀t∈bJ,t.g<P.globals.size){T:List wY}(kK:∀e∈T,Df P bJ e):lj P (pw P.globals.size bJ T):=by
 intro f args H v aT ab μ w vs aj ak aC
 obtain⟨cY,e,he,rfl,rfl,v0,kp,ai,rfl,rfl⟩:=IB ab
 obtain⟨intr,n,ae,B7,uA⟩:=kK e he
 obtain⟨eL,Qr⟩:∃eL:Nat->Nat,∀g,eL g=match w.heap[g]? with|some (.cells _ el _)=>el|_=>0:=⟨_,λ_=>rfl⟩
 have af:=uA eL
 rw[ai] at af
 unfold IC at af
 split at af
 · rename_i v1 H1 v2 aE eH ad
   cases ad
   simp only[Bool.and_eq_true] at af
   obtain⟨⟨hr,ek⟩,Qs⟩:=af
   have B8:=beq_eq _ _ hr
   subst B8
   have rL:H1.n=kp.n:=Nat.eq_of_beq_eq_true ek
   rw[<-rL]
   have B9:P.globals.size<=w.heap.size:=by
    cases bH:P.globals.size with
    |zero=>exact Nat.zero_le _
    |succ g=>
     obtain⟨i,aa,ad,aw⟩:=ak g (by omega)
     have:=(aj.lt _ i aa).2
     omega
   have Qt:∀t∈bJ,t.g<P.globals.size/\Iw w eL t:=λt aU=>by
    refine⟨oF t aU,?_⟩
    obtain⟨el,fi⟩:=Qi (Iu cY t aU)
    obtain⟨i,aa,ad,aw⟩:=ak t.g (oF t aU)
    obtain⟨c,fg,fh,bQ,cl,fr,_⟩:=aj.rel _ _ i fi aa
    rw[ad] at bQ
    rw[aw] at cl
    refine⟨c,(fg,fh),by rw[Qr,bQ],λj x aG=>?_⟩
    obtain⟨u,tF,n9⟩:=cl j _ (by rw[C9,aG];rfl)
    rw[Nat.zero_add] at tF
    rw[tF,n9]
   obtain⟨s1,s2,bq⟩:=Qj (P:=P) B9 eL bJ Qt [] (by simp)
   have gN:=(B1 hf ae n).fn e.f e.args (sP P.globals.size eL bJ []) (by rw[eH];rfl) _ w vs s1 s2 (se _ _ B7 aC)
   rw[eH] at gN
   refine gN.mono λlf w' o5=>?_
   obtain⟨fR,u,rfl,aV,aY,cw⟩:=o5
   have hold:∀r,r<w.heap.size->w'.heap[r]? =w.heap[r]? :=(cw.below bq s1).block
   obtain⟨aM,px⟩:∃aM:bg,∀b,aM b=if b<H.n then μ b else fR (b-H.n+P.globals.size):=⟨_,λ_=>rfl⟩
   have Yx:P.globals.size<=H1.n:=by
    have:=cw.n
    rw[(Iv P.globals.size eL bJ [] λt aU=>oF t aU).1] at this
    simpa using this
   have hle:eF μ aM:=λb i af=>by rw[px,if_pos (aj.lt b i af).1];exact af
   have ID:∀b i,¬b<P.globals.size->fR b=some i->aM (b-P.globals.size+H.n)=some i:=λb i af aa=>by
    rw[px,if_neg (by omega)]
    have ax:b-P.globals.size+H.n-H.n+P.globals.size=b:=by omega
    rw[ax];exact aa
   have kC:∀b i,¬b<H.n->aM b=some i->fR (b-H.n+P.globals.size)=some i/\b<H.n+(H1.n-P.globals.size)/\w.heap.size<=i.bb:=λb i af aa=>by
    rw[px,if_neg af] at aa
    have ad:=aY.lt _ i aa
    refine⟨aa,by omega,?_⟩
    have hm:qY P.globals.size (uy w) (([]:List (dY×List I×Nat)).map (·.1)) (b-H.n+P.globals.size)=none:=by
     unfold qY;rw[if_neg (by omega)];rfl
    rcases(cw.new _ i hm aa).2 with aw|⟨c,o,j,aw,aQ,_⟩
    · exact aw
    · have:=bq c o aw;rw[aQ] at this;cases this
   have fi:∀b,(lx P.globals.size H.n kp H (H1.n-P.globals.size)).get b=if b<H.n then H.get b else if b<H.n+(H1.n-P.globals.size) then(kp.get (P.globals.size+(b-H.n))).bind (j2 P.globals.size H.n) else H.get b:=Dc _ _ _ _ _
   have sS:∀b o,¬b<H.n->(lx P.globals.size H.n kp H (H1.n-P.globals.size)).get b=some o->∃cH,H1.get (b-H.n+P.globals.size)=some cH/\j2 P.globals.size H.n cH=some o:=λb o af aa=>by
    rw[fi,if_neg af] at aa
    split at aa
    · rename_i cu
      have aG:b-H.n<H1.n-P.globals.size:=by omega
      cases jV:kp.get (P.globals.size+(b-H.n)) with
      |none=>rw[jV] at aa;cases aa
      |some nk=>
       have bp:=Qo P.globals.size H.n (De Qs _ aG nk jV)
       rw[jV,bp] at aa
       rw[Nat.add_comm] at aa
       cases ab:H1.get (b-H.n+P.globals.size) with
       |none=>rw[ab] at aa;cases aa
       |some cH=>rw[ab] at aa;exact⟨cH,rfl,aa⟩
    · rw[aj.bound b (by omega)] at aa;cases aa
   refine⟨aM,u,rfl,uz ID _ _ aV,⟨λb o i af ae=>?_,λb c i j af ag ae aG qE=>?_,λb i ae=>?_,λb af=>?_⟩,?_⟩
   · by_cases aa:b<H.n
     · rw[fi,if_pos aa] at af
       rw[px,if_pos aa] at ae
       exact(aj.rel b o i af ae).mono hle (hold _ (aj.lt b i ae).2)
     · obtain⟨cH,ad,aw⟩:=sS b o aa af
       exact Qk ID aw (aY.rel _ cH i ad (kC b i aa ae).1)
   · obtain⟨nn,ag,gV⟩:=ag
     by_cases aa:b<H.n
     · rw[fi,if_pos aa] at af
       rw[px,if_pos aa] at ae
       by_cases ad:c<H.n
       · rw[fi,if_pos ad] at ag
         rw[px,if_pos ad] at aG
         exact aj.inj b c i j af ⟨nn,ag,gV⟩ ae aG qE
       · have q:=(kC c j ad aG).2.2
         have:=(aj.lt b i ae).2
         omega
     · have q:=(kC b i aa ae)
       by_cases ad:c<H.n
       · rw[px,if_pos ad] at aG
         have:=(aj.lt c j aG).2
         have:=q.2.2
         omega
       · obtain⟨cH,bQ,cl⟩:=sS c nn ad ag
         have gz:H1.get (b-H.n+P.globals.size)≠none:=λab=>by
          cases a2:(lx P.globals.size H.n kp H (H1.n-P.globals.size)).get b with
          |none=>exact af a2
          |some cN=>obtain⟨fJ,fr,_⟩:=sS b cN aa a2;rw[ab] at fr;cases fr
         have:=aY.inj _ _ i j gz ⟨cH,bQ,by rw[<-Ql cl];exact gV⟩ q.1 (kC c j ad aG).1 qE
         omega
   · by_cases aa:b<H.n
     · rw[px,if_pos aa] at ae
       exact⟨by rw[sR];omega,Nat.lt_of_lt_of_le (aj.lt b i ae).2 cw.size⟩
     · have q:=kC b i aa ae
       exact⟨by rw[sR];exact q.2.1,(aY.lt _ i q.1).2⟩
   · rw[sR] at af
     rw[fi,if_neg (by omega),if_neg (by omega)]
     exact aj.bound b (by omega)
   · refine⟨hle,cw.size,by rw[sR];omega,λb af aq=>?_,λb af _=>?_,λr ai _=>hold r ai,λb i aa ad=>?_,λb o i af _ ae=>?_,cw.os,cw.out,cw.tape,cw.drawn⟩
     · rw[fi,if_pos af] at aq;exact aq
     · rw[fi,if_pos af]
     · have af:¬b<H.n:=λaf=>by rw[px,if_pos af,aa] at ad;cases ad
       exact⟨by omega,.inl (kC b i af ad).2.2⟩
     · refine⟨?_,hold _ (aj.lt b i ae).2⟩
       rw[fi,if_pos (aj.lt b i ae).1];exact af
 · cases af
end
end aB
namespace aB
open Go Go.RowKit
section
variable {P:Program}
end
end aB
namespace aB
open Go Go.RowKit
def Qu:cp->Bool
 |.cells .. =>true
 |.map .. =>true
 |_=>false
def Qv(h:J):List (Nat×cp)->Bool
 |[]=>true
 |(b,o)::l=>match Qu o with
  |true=>match oG (some o) (h.get b) with
   |true=>Qv h l
   |false=>false
  |false=>false
def qZ(h:J):List (Nat×cp)->J
 |[]=>h
 |(b,o)::l=>(qZ h l).set b (some o)
theorem IE(h:J):∀l,(qZ h l).n=h.n
 |[]=>rfl
 |(b,o)::l=>IE h l
theorem Dg(h:J):∀(l:List (Nat×cp)) (b:Nat),(∃o,(b,o)∈l/\(qZ h l).get b=some o)\/((∀o,(b,o)∉l)/\(qZ h l).get b=h.get b)
 |[],b=>.inr ⟨λo hm=>(by cases hm),rfl⟩
 |(c,o)::l,b=>by
  show(∃o',(b,o')∈(c,o)::l/\((qZ h l).set c (some o)).get b=some o')\/((∀o',(b,o')∉(c,o)::l)/\((qZ h l).set c (some o)).get b=h.get b)
  rw[J.b2]
  by_cases e:b=c
  · subst e;exact .inl ⟨o,by simp,by rw[if_pos rfl]⟩
  · rw[if_neg e]
    rcases Dg h l b with⟨o',aa,ad⟩|⟨aa,ad⟩
    · exact .inl ⟨o',List.mem_cons_of_mem _ aa,ad⟩
    · refine .inr ⟨λo' hm=>?_,ad⟩
      rcases List.mem_cons.1 hm with q|hm
      · cases q;exact e rfl
      · exact aa o' hm
def q0(n:Nat):List (Nat×cp)->Bool
 |[]=>true
 |(b,_)::m=>match Nat.blt b n with
  |true=>q0 n m
  |false=>false
theorem Dh{n:Nat}:∀{m:List (Nat×cp)},q0 n m=true->∀b o,(b,o)∈m->b<n
 |[],_,_,_,hm=>by cases hm
 |(c,o)::m,h,b,x,hm=>by
  unfold q0 at h
  split at h
  · rename_i aa
    rcases List.mem_cons.1 hm with e|hm
    · cases e;rw[Nat.blt_eq] at aa;exact aa
    · exact Dh h b x hm
  · cases h
section
variable {P:Program}
theorem zM(n:Nat):∀l,jD n l=qZ (iv n) l
 |[]=>rfl
 |(b,o)::l=>by show(jD n l).set b (some o)=(qZ (iv n) l).set b (some o);rw[zM n l]
theorem Di(n b:Nat):(iv n).get b=none:=by cases b<;>rfl
end
end aB
namespace aB
open Go Go.RowKit
section
variable {P:Program}
end
end aB
namespace aB
open Go Go.RowKit
structure uB where
 f:Nat
 args:List I
 v:I
 n:Nat
 l:List (Nat×cp)
def uB.sU(e:uB):wY:=⟨e.f,e.args,.ret e.v (jD e.n e.l)⟩
def nG(G n:Nat)(h:J):List (Nat×cp)->J
 |[]=>h
 |(b,o)::l=>(nG G n h l).set (b-G+n) (j2 G n o)
theorem Dj(G n q1:Nat)(h:J):∀(l:List (Nat×cp)),(∀b o,(b,o)∈l->G<=b)->∀c,(nG G n h l).get c=if c<n then h.get c else match(jD q1 l).get (G+(c-n)) with
  |some o=>j2 G n o
  |none=>h.get c
 |[],_,c=>by
  show h.get c=_
  by_cases ag:c<n
  · rw[if_pos ag]
  · rw[if_neg ag]
    have:(jD q1 []).get (G+(c-n))=none:=Di q1 _
    rw[this]
 |(b,o)::l,aq,c=>by
  have af:=aq b o (by simp)
  have bd:=Dj G n q1 h l (λb o hm=>aq b o (by simp[hm])) c
  show((nG G n h l).set (b-G+n) (j2 G n o)).get c=_
  have ay:(jD q1 ((b,o)::l)).get (G+(c-n))=if G+(c-n)=b then some o else(jD q1 l).get (G+(c-n)):=J.b2 _ _ _ _
  rw[J.b2,ay,bd]
  by_cases ag:c<n
  · rw[if_neg (by omega),if_pos ag,if_pos ag]
  · by_cases bp:c=b-G+n
    · rw[if_pos bp,if_neg ag,if_pos (by omega)]
    · have ab:¬G+(c-n)=b:=by omega
      rw[if_neg bp,if_neg ab]
def q2(G:Nat):List (Nat×cp)->Bool
 |[]=>true
 |(b,_)::m=>match Nat.ble G b with
  |true=>q2 G m
  |false=>false
theorem Dk{G:Nat}:∀{m:List (Nat×cp)},q2 G m=true->∀b o,(b,o)∈m->G<=b
 |[],_,_,_,hm=>by cases hm
 |(c,o)::m,h,b,x,hm=>by
  unfold q2 at h
  split at h
  · rename_i aa
    rcases List.mem_cons.1 hm with e|hm
    · cases e;exact Nat.le_of_ble_eq_true aa
    · exact Dk h b x hm
  · cases h
def sV(G:Nat)(bJ:List i_):List uB->Nat->List I->J->Option (I×J)
 |[],_,_,_=>none
 |e::T,f,args,h=>match Nat.beq f e.f with
  |true=>match I.jt args e.args with
   |true=>match pt h bJ with
    |true=>match q2 G e.l&&q0 e.n e.l with
     |true=>some (fN G h.n e.v,⟨(nG G h.n h e.l).t,h.n+(e.n-G)⟩)
     |false=>none
    |false=>none
   |false=>sV G bJ T f args h
  |false=>sV G bJ T f args h
theorem IF{G:Nat}{bJ:List i_}:∀{T:List uB} {f:Nat} {args:List I} {h:J} {v:I} {an:J},sV G bJ T f args h=some (v,an)->pt h bJ=true/\∃e∈T,e.f=f/\e.args=args/\I.jt args e.args=true/\(q2 G e.l&&q0 e.n e.l)=true/\v=fN G h.n e.v/\an=⟨(nG G h.n h e.l).t,h.n+(e.n-G)⟩
 |[],_,_,_,_,_,ab=>by cases ab
 |e::T,f,args,h,v,an,ab=>by
  simp only[sV] at ab
  have rest:sV G bJ T f args h=some (v,an)->pt h bJ=true/\∃cR∈e::T,cR.f=f/\cR.args=args/\I.jt args cR.args=true/\(q2 G cR.l&&q0 cR.n cR.l)=true/\v=fN G h.n cR.v/\an=⟨(nG G h.n h cR.l).t,h.n+(cR.n-G)⟩:=λab=>by
   obtain⟨h0,cR,aa,ad⟩:=IF ab
   exact⟨h0,cR,List.mem_cons_of_mem _ aa,ad⟩
  split at ab
  · rename_i hf
    split at ab
    · rename_i ba
      split at ab
      · rename_i aU
        split at ab
        · rename_i aq
          cases ab
          exact⟨aU,e,by simp,(Nat.eq_of_beq_eq_true hf).symm,(o_ _ _ ba).symm,ba,aq,rfl,rfl⟩
        · cases ab
      · cases ab
    · exact rest ab
  · exact rest ab
theorem bn.same{μ:bg}{H aT:J}{w:World}(h:bn μ H w)(aI:aT.n=H.n)(ak:∀b,aT.get b=H.get b):bn μ aT w:=
 ⟨λb o i aa ad=>h.rel b o i (by rw[<-ak];exact aa) ad,λb c i j aa ad=>h.inj b c i j (by rw[<-ak];exact aa) (by rw[<-ak];exact ad),λb i aa=>by rw[aI];exact h.lt b i aa,λb af=>by rw[ak];exact h.bound b (by omega)⟩
theorem b5.same{μ aM:bg}{H H1 aT:J}{w w':World}(h:b5 μ H w aM H1 w')(aI:aT.n=H1.n)(ak:∀b,aT.get b=H1.get b):b5 μ H w aM aT w':=
 ⟨h.le,h.size,by rw[aI];exact h.n,λb af aq=>h.live b af (by rw[<-ak];exact aq),λb af hm=>by rw[ak];exact h.idle b af hm,h.old,h.new,λb o i aa ad aw=>by rw[ak];exact h.ro b o i aa ad aw,h.os,h.out,h.tape,h.drawn⟩
section
variable {P:Program}
theorem Qw(hf:Fit P){bJ:List i_}(oF:∀t∈bJ,t.g<P.globals.size){T:List uB}(kK:∀e∈T,Df P bJ e.sU):lj P (sV P.globals.size bJ T):=by
 intro f args H v aT ab μ w vs aj ak aC
 obtain⟨cY,e,he,rfl,rfl,Qx,aq,rfl,rfl⟩:=IF ab
 rw[Bool.and_eq_true] at aq
 have iT:lj P (pw P.globals.size bJ [e.sU]):=Qq hf oF λx ab=>by obtain rfl:=List.mem_singleton.1 ab;exact kK e he
 have vH:(jD e.n e.l).n=e.n:=by rw[zM,IE];rfl
 have ae:pw P.globals.size bJ [e.sU] e.f e.args H=some (fN P.globals.size H.n e.v,lx P.globals.size H.n (jD e.n e.l) H (e.n-P.globals.size)):=by
  have a5:Nat.beq e.f e.sU.f=true:=Nat.beq_refl _
  have bt:I.jt e.args e.sU.args=true:=Qx
  have dP:e.sU.r=.ret e.v (jD e.n e.l):=rfl
  simp only[pw,a5,bt,cY,dP,vH]
 have gN:=iT e.f e.args H _ _ ae μ w vs aj ak aC
 refine gN.mono λlf w' o5=>?_
 obtain⟨fR,u,rfl,aV,aY,cw⟩:=o5
 have sS:(lx P.globals.size H.n (jD e.n e.l) H (e.n-P.globals.size)).n=H.n+(e.n-P.globals.size):=sR _ _ _ _ _
 have IG:∀b,(⟨(nG P.globals.size H.n H e.l).t,H.n+(e.n-P.globals.size)⟩:J).get b=(lx P.globals.size H.n (jD e.n e.l) H (e.n-P.globals.size)).get b:=λb=>by
  show(nG P.globals.size H.n H e.l).get b=_
  rw[Dj P.globals.size H.n e.n H e.l (Dk aq.1) b,Dc]
  by_cases aa:b<H.n
  · rw[if_pos aa,if_pos aa]
  · rw[if_neg aa,if_neg aa]
    by_cases ad:b<H.n+(e.n-P.globals.size)
    · rw[if_pos ad]
      cases ab:(jD e.n e.l).get (P.globals.size+(b-H.n)) with
      |none=>exact aj.bound b (by omega)
      |some o=>rfl
    · rw[if_neg ad]
      cases ab:(jD e.n e.l).get (P.globals.size+(b-H.n)) with
      |none=>rfl
      |some o=>
       exfalso
       rw[zM] at ab
       rcases Dg (iv e.n) e.l (P.globals.size+(b-H.n)) with⟨o',bQ,cl⟩|⟨bQ,cl⟩
       · have:=Dh aq.2 _ _ bQ
         omega
       · rw[ab,Di] at cl;cases cl
 exact⟨fR,u,rfl,aV,aY.same (by rw[sS]) IG,cw.same (by rw[sS]) IG⟩
end
end aB
