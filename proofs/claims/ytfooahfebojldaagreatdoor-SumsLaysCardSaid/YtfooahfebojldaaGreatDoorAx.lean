/-
  PROVED HERE: contracts of functions (Ax). No condition beside each statement's own.
-/
import Derived.Test.YtfooahfebojldaaGreatDoorAed
import Derived.OpenShut
import Derived.ChangeSame
import Derived.Lay
set_option linter.unusedVariables false
set_option linter.unusedSimpArgs false
namespace aD
open Go Go.RowKit
structure jw where
 g:Nat
 xs:List Nat
def rh:List Nat->List I
 |[]=>[]
 |x::l=>.int .u8 (Int.ofNat x)::rh l
def jw.obj(eZ:Nat->Nat)(t:jw):cx:=.cells (rh t.xs) (eZ t.g) .ro 0 0
def Ah:List I->List Nat->Bool
 |[],[]=>true
 |.int .u8 (.ofNat n)::l,x::xs=>match Nat.beq n x with
  |true=>Ah l xs
  |false=>false
 |_,_=>false
theorem Jv:∀(l:List I) (xs:List Nat),Ah l xs=true->l=rh xs
 |[],[],_=>rfl
 |.int .u8 (.ofNat n)::l,x::xs,h=>by
  simp only[Ah] at h
  split at h
  · rename_i aK
    rw[Jv l xs h,Nat.eq_of_beq_eq_true aK];rfl
  · cases h
def Ai(h:J)(t:jw):Bool:=match h.get t.g with
 |some (.cells cs _ .ro 0 0)=>Ah cs t.xs
 |_=>false
def pW(h:J):List jw->Bool
 |[]=>true
 |t::ts=>match Ai h t with
  |true=>pW h ts
  |false=>false
theorem Rm{h:J}{t:jw}(ae:Ai h t=true):∃el,h.get t.g=some (.cells (rh t.xs) el .ro 0 0):=by
 unfold Ai at ae
 split at ae
 · rename_i cs el aj
   exact⟨el,by rw[aj,Jv _ _ ae]⟩
 · cases ae
theorem Jw:∀{ts:List jw} {h:J},pW h ts=true->∀t∈ts,Ai h t=true
 |[],h,_,t,a6=>by cases a6
 |x::ts,h,ae,t,a6=>by
  simp only[pW] at ae
  split at ae
  · rename_i aa
    rcases List.mem_cons.1 a6 with rfl|a6
    · exact aa
    · exact Jw ae t a6
  · cases ae
def pX(eZ:Nat->Nat)(h:J)(t:jw):J:=h.set t.g (some (t.obj eZ))
def s_(G:Nat)(eZ:Nat->Nat)(ts:List jw)(rows:List (List I×Nat)):J:=rows.foldl sA (ts.foldl (pX eZ) (iM G))
def ri(G:Nat)(sz:Nat->Nat)(is:List eG):bn:=λb=>if b<G then some ⟨b,0,sz b⟩ else is[b-G]?
theorem D1(eZ:Nat->Nat):∀(ts:List jw) (h:J),(ts.foldl (pX eZ) h).n=h.n/\∀b,(ts.foldl (pX eZ) h).get b=h.get b\/∃t∈ts,t.g=b/\(ts.foldl (pX eZ) h).get b=some (t.obj eZ)
 |[],h=>⟨rfl,λb=>.inl rfl⟩
 |t::ts,h=>by
  obtain⟨aV,aN⟩:=D1 eZ ts (pX eZ h t)
  have aj:∀b,(pX eZ h t).get b=if b=t.g then some (t.obj eZ) else h.get b:=λb=>J.b_ _ _ _ _
  refine⟨aV,λb=>?_⟩
  rw[List.foldl_cons]
  rcases aN b with q|⟨Rn,aa,ad,ax⟩
  · rw[q,aj]
    by_cases e:b=t.g
    · rw[if_pos e];exact .inr ⟨t,by simp,e.symm,rfl⟩
    · rw[if_neg e];exact .inl rfl
  · exact .inr ⟨Rn,by simp[aa],ad,ax⟩
theorem Jx(G:Nat)(eZ:Nat->Nat)(ts:List jw)(rows:List (List I×Nat))(o2:∀t∈ts,t.g<G):(s_ G eZ ts rows).n=G+rows.length/\∀b,(s_ G eZ ts rows).get b=if b<G then(ts.foldl (pX eZ) (iM G)).get b else(rows[b-G]?).map λr=>.cells r.1 r.2 .ro 0 0:=by
 obtain⟨aV,aN⟩:=D1 eZ ts (iM G)
 have aK:(ts.foldl (pX eZ) (iM G)).n=G:=aV
 obtain⟨bb,a3⟩:=zE rows (ts.foldl (pX eZ) (iM G)) λb af=>by
  rw[aK] at af
  rcases aN b with q|⟨t,aa,ad,_⟩
  · rw[q];rfl
  · have:=o2 t aa;omega
 rw[aK] at bb a3
 exact⟨bb,a3⟩
def Jy(W:World)(eZ:Nat->Nat)(t:jw):Prop:=∃c fz,W.heap[t.g]? =some (.cells c (eZ t.g) fz)/\∀(j:Nat) (x:Nat),t.xs[j]? =some x->c[j]? =some (.int .u8 (Int.ofNat x))
theorem D2:∀(xs:List Nat) (j:Nat),(rh xs)[j]? =(xs[j]?).map λx=>.int .u8 (Int.ofNat x)
 |[],j=>by simp[rh]
 |x::xs,0=>by simp[rh]
 |x::xs,j+1=>by simp[rh,D2 xs j]
def uO(W:World)(g:Nat):Nat:=match W.heap[g]? with
 |some (.cells c _ _)=>c.size
 |_=>0
theorem Ro{P:Program}{W:World}(iC:P.globals.size<=W.heap.size)(eZ:Nat->Nat)(ts:List jw)(o2:∀t∈ts,t.g<P.globals.size/\Jy W eZ t)(l:List (eG×List I×Nat))(au:∀x∈l,zF W x.1 x.2.1 x.2.2):
  br (ri P.globals.size (uO W) (l.map (·.1))) (s_ P.globals.size eZ ts (l.map (·.2))) W/\hz P (ri P.globals.size (uO W) (l.map (·.1)))/\wT (s_ P.globals.size eZ ts (l.map (·.2))):=by
 obtain⟨aK,aj⟩:=Jx P.globals.size eZ ts (l.map (·.2)) λt a6=>(o2 t a6).1
 have ro:∀b o,(s_ P.globals.size eZ ts (l.map (·.2))).get b=some o->(∃x,l[b-P.globals.size]? =some x/\¬b<P.globals.size/\o=.cells x.2.1 x.2.2 .ro 0 0)\/(b<P.globals.size/\∃t∈ts,t.g=b/\o=t.obj eZ):=by
  intro b o h
  rw[aj] at h
  split at h
  · rename_i af
    rcases(D1 eZ ts (iM P.globals.size)).2 b with q|⟨t,aa,ad,ax⟩
    · rw[q] at h;cases h
    · rw[ax] at h;cases h;exact .inr ⟨af,t,aa,ad,rfl⟩
  · rename_i af
    rw[List.getElem?_map] at h
    cases ab:l[b-P.globals.size]? with
    |none=>rw[ab] at h;cases h
    |some x=>rw[ab] at h;cases h;exact .inl ⟨x,rfl,af,rfl⟩
 refine⟨⟨λb o j h aL=>?_,λb c' j k aa ad=>?_,λb j h=>?_,λb h=>?_⟩,λg aj=>⟨⟨g,0,uO W g⟩,by simp[ri,aj],rfl,rfl⟩,λb o h=>?_⟩
 · rcases ro b o h with⟨x,ab,af,rfl⟩|⟨af,t,a6,rfl,rfl⟩
   · unfold ri at aL
     rw[if_neg af,List.getElem?_map,ab] at aL
     cases aL
     obtain⟨c,fz,aV,aN,cz⟩:=au x (List.mem_of_getElem? ab)
     exact⟨c,fz.1,fz.2,aV,aN _,cz,trivial⟩
   · unfold ri at aL
     rw[if_pos af] at aL
     cases aL
     obtain⟨_,c,fz,aV,aN⟩:=o2 t a6
     refine⟨c,fz.1,fz.2,aV,λj v aE=>?_,by show 0+uO W t.g=c.size;unfold uO;rw[aV];simp,trivial⟩
     rw[D2] at aE
     cases ab:t.xs[j]? with
     |none=>rw[ab] at aE;cases aE
     |some x=>
      rw[ab] at aE;cases aE
      exact⟨_,by rw[Nat.zero_add];exact aN j x ab,rfl⟩
 · obtain⟨o,ad,ax⟩:=ad
   rcases ro _ o ad with⟨x,_,_,rfl⟩|⟨_,t,_,_,rfl⟩<;>cases ax
 · rw[aK,List.length_map]
   unfold ri at h
   split at h
   · rename_i af;cases h;exact⟨by omega,Nat.lt_of_lt_of_le af iC⟩
   · rw[List.getElem?_map] at h
     cases ab:l[b-P.globals.size]? with
     |none=>rw[ab] at h;cases h
     |some x=>
      rw[ab] at h;cases h
      obtain⟨c,fz,aV,_⟩:=au x (List.mem_of_getElem? ab)
      have:=(List.getElem?_eq_some_iff.1 ab).1
      exact⟨by omega,(Array.getElem?_eq_some_iff.1 aV).1⟩
 · rw[aK,List.length_map] at h
   rw[aj,if_neg (by omega),List.getElem?_map,List.getElem?_eq_none (by omega)];rfl
 · rcases ro b o h with⟨x,_,_,rfl⟩|⟨_,t,_,_,rfl⟩<;>rfl
section
variable {P:Program}
end
end aD
namespace aD
open Go Go.ChangeShapes Go.WideShapes Go.ChangeAt Go.RowKit
end aD
namespace aD
open Go Go.RowKit
mutual
def gk(G n:Nat):I->I
 |.bad=>.bad
 |.bool b=>.bool b
 |.int k x=>.int k x
 |.str s=>.str s
 |.aR=>.aR
 |.ptr b o=>match Nat.blt b G with
  |true=>.bad
  |false=>.ptr (b-G+n) o
 |.a_=>.a_
 |.slice b o l c=>match Nat.blt b G with
  |true=>.bad
  |false=>.slice (b-G+n) o l c
 |.g_=>.g_
 |.map r=>match Nat.blt r G with
  |true=>.bad
  |false=>.map (r-G+n)
 |.fi=>.fi
 |.fn f a b=>.fn f (iX G n a) (iX G n b)
 |.cc l=>.bad
 |.eO=>.eO
 |.iface t v=>.iface t (gk G n v)
 |.agg cs=>.agg (iX G n cs)
 |.aW vs=>.aW (iX G n vs)
def iX(G n:Nat):List I->List I
 |[]=>[]
 |v::vs=>gk G n v::iX G n vs
end
theorem ta(G n:Nat):∀l,(iX G n l).length=l.length
 |[]=>rfl
 |v::l=>by simp[iX,ta G n l]
theorem D3(G n:Nat):∀(l:List I) (j:Nat),(iX G n l)[j]? =(l[j]?).map (gk G n)
 |[],j=>by simp[iX]
 |v::l,0=>by simp[iX]
 |v::l,j+1=>by simp[iX,D3 G n l j]
theorem D4(G n:Nat):∀l,iX G n l=l.map (gk G n)
 |[]=>rfl
 |v::l=>by simp[iX,D4 G n l]
mutual
theorem uP{μ aP:bn}{G n:Nat}(h:∀b i,¬b<G->μ b=some i->aP (b-G+n)=some i):∀(a:I) (v:Value),bc μ a v->bc aP (gk G n a) v
 |.bad,_,_=>trivial
 |.bool _,_,h=>h
 |.int _ _,_,h=>h
 |.str _,_,h=>h
 |.aR,_,h=>h
 |.ptr b off,_,⟨i,ae,e⟩=>by
  simp only[gk]
  split
  · trivial
  · rename_i af
    have hp:¬b<G:=by
     intro ab;rw[<-Nat.blt_eq] at ab;rw[ab] at af;cases af
    exact⟨i,h _ _ hp ae,e⟩
 |.a_,_,h=>h
 |.slice b off len cap,_,⟨i,ae,e⟩=>by
  simp only[gk]
  split
  · trivial
  · rename_i af
    have hp:¬b<G:=by
     intro ab;rw[<-Nat.blt_eq] at ab;rw[ab] at af;cases af
    exact⟨i,h _ _ hp ae,e⟩
 |.g_,_,h=>h
 |.map r,_,⟨i,ae,e⟩=>by
  simp only[gk]
  split
  · trivial
  · rename_i af
    have hp:¬r<G:=by
     intro ab;rw[<-Nat.blt_eq] at ab;rw[ab] at af;cases af
    exact⟨i,h _ _ hp ae,e⟩
 |.fi,_,h=>h
 |.fn f first aM,_,⟨cu,cs,e,aa,ad⟩=>⟨cu,cs,e,xm h _ _ aa,xm h _ _ ad⟩
 |.cc l,_,_=>trivial
 |.eO,_,h=>h
 |.iface t x,_,⟨y,e,ab⟩=>⟨y,e,uP h _ _ ab⟩
 |.agg cs,_,⟨l,e,ab⟩=>⟨l,e,xm h _ _ ab⟩
 |.aW cs,_,⟨l,e,ab⟩=>⟨l,e,xm h _ _ ab⟩
theorem xm{μ aP:bn}{G n:Nat}(h:∀b i,¬b<G->μ b=some i->aP (b-G+n)=some i):∀(as:List I) (vs:List Value),cd μ as vs->cd aP (iX G n as) vs
 |[],_,h=>h
 |a::as,_,⟨v,vs,e,aa,ad⟩=>⟨v,vs,e,uP h _ _ aa,xm h _ _ ad⟩
end
def Jz(G n:Nat)(e:fA):fA:=⟨gk G n e.key,gk G n e.val,e.born⟩
def kh(G n:Nat):cx->Option cx
 |.cells cs el k bf ae=>some (.cells (iX G n cs) el k bf ae)
 |.map es c=>some (.map (es.map (Jz G n)) c)
 |_=>none
theorem JA{μ aP:bn}{G n:Nat}(h:∀b i,¬b<G->μ b=some i->aP (b-G+n)=some i):∀(es:List fA) (ms:List MapEntry),fN μ es ms->fN aP (es.map (Jz G n)) ms
 |[],_,h=>h
 |e::es,_,⟨m,ms,q,⟨aa,ad,ax⟩,aO⟩=>⟨m,ms,q,⟨uP h _ _ aa,uP h _ _ ad,ax⟩,JA h es ms aO⟩
theorem Rp{μ aP:bn}{G n:Nat}(h:∀b i,¬b<G->μ b=some i->aP (b-G+n)=some i){o o':cx}(he:kh G n o=some o'){i:eG}{w:World}(ai:mU μ o i w):mU aP o' i w:=by
 cases o with
 |cells cs el k bf ae=>
  simp only[kh,Option.some.injEq] at he
  subst he
  obtain⟨c,ft,fu,aa,ad,ax,aO⟩:=ai
  refine⟨c,ft,fu,aa,λj v aL=>?_,ax,?_⟩
  · rw[D3] at aL
    cases ab:cs[j]? with
    |none=>rw[ab] at aL;cases aL
    |some v'=>
     rw[ab] at aL;cases aL
     obtain⟨u,aV,aN⟩:=ad j v' ab
     exact⟨u,aV,uP h _ _ aN⟩
  · cases k<;>simp only[BD,ta] at aO⊢ <;>exact aO
 |map es c=>
  simp only[kh,Option.some.injEq] at he
  subst he
  obtain⟨ents,aa,ad⟩:=ai
  exact⟨ents,aa,JA h _ _ ad⟩
 |oi _ _=>cases he
 |mapIter _ _ _ _=>cases he
 |loop _ _ _ _ _ _ _ _=>cases he
 |defrd _=>cases he
 |raw _=>cases he
theorem Rq{G n:Nat}{o o':cx}(he:kh G n o=some o'):o'.mV=o.mV:=by
 cases o with
 |cells cs el k bf ae=>simp only[kh,Option.some.injEq] at he;subst he;cases k<;>rfl
 |map es c=>simp only[kh,Option.some.injEq] at he;subst he;rfl
 |oi _ _=>cases he
 |mapIter _ _ _ _=>cases he
 |loop _ _ _ _ _ _ _ _=>cases he
 |defrd _=>cases he
 |raw _=>cases he
def D5(h:J)(o:Option cx):J:=⟨eP.kr (h.n+1) h.t h.n o,h.n+1⟩
theorem Rr(h:J)(o:Option cx)(c:Nat):(D5 h o).get c=if c=h.n then o else h.get c:=eP.b_ _ _ _ _ _ (Nat.lt_succ_self _)
def lP(G n:Nat)(H1:J)(h:J):Nat->J
 |0=>h
 |k+1=>D5 (lP G n H1 h k) ((H1.get (G+k)).bind (kh G n))
theorem tb(G n:Nat)(H1 h:J):∀k,(lP G n H1 h k).n=h.n+k
 |0=>rfl
 |k+1=>by show(lP G n H1 h k).n+1=_;rw[tb G n H1 h k];omega
theorem D6(G n:Nat)(H1 h:J):∀(k b:Nat),(lP G n H1 h k).get b=if b<h.n then h.get b else if b<h.n+k then(H1.get (G+(b-h.n))).bind (kh G n) else h.get b
 |0,b=>by
  show h.get b=_
  by_cases aa:b<h.n
  · rw[if_pos aa]
  · rw[if_neg aa,if_neg (by omega)]
 |k+1,b=>by
  show(D5 (lP G n H1 h k) _).get b=_
  rw[Rr,tb,D6 G n H1 h k b]
  by_cases aa:b<h.n
  · rw[if_neg (by omega),if_pos aa,if_pos aa]
  · rw[if_neg aa,if_neg aa]
    by_cases ad:b=h.n+k
    · subst ad
      rw[if_pos rfl,if_pos (by omega),Nat.add_sub_cancel_left]
    · rw[if_neg ad]
      by_cases ax:b<h.n+k
      · rw[if_pos ax,if_pos (by omega)]
      · rw[if_neg ax,if_neg (by omega)]
def Aj:List fA->List fA->Bool
 |[],[]=>true
 |a::l,b::m=>I.beq a.key b.key&&I.beq a.val b.val&&Nat.beq a.born b.born&&Aj l m
 |_,_=>false
theorem JB:∀(l m:List fA),Aj l m=true->l=m
 |[],[],_=>rfl
 |⟨k,v,n⟩::l,⟨dA,v',B3⟩::m,h=>by
  simp only[Aj,Bool.and_eq_true] at h
  obtain⟨⟨⟨aa,ad⟩,ax⟩,aO⟩:=h
  have aA:k=dA:=beq_eq _ _ aa
  have aC:v=v':=beq_eq _ _ ad
  have bN:n=B3:=Nat.eq_of_beq_eq_true ax
  rw[JB l m aO,aA,aC,bN]
def eC.code:eC->Nat
 |.own=>0|.aY=>1|.ro=>2|.fz=>3
theorem eC.Rs{a b:eC}(h:a.code=b.code):a=b:=by cases a<;>cases b<;>first|rfl|(simp[eC.code] at h)
def o3:Option cx->Option cx->Bool
 |some (.cells a el k bf ae),some (.cells b wc dA lx eH)=>I.jK a b&&Nat.beq el wc&&Nat.beq k.code dA.code&&Nat.beq bf lx&&Nat.beq ae eH
 |some (.map a c),some (.map b c')=>Aj a b&&Nat.beq c c'
 |some (.cells ..),_=>false
 |some (.map ..),_=>false
 |_,some (.cells ..)=>false
 |_,some (.map ..)=>false
 |_,_=>true
theorem Rt(G n:Nat){a b:Option cx}(h:o3 a b=true):a.bind (kh G n)=b.bind (kh G n):=by
 cases a with
 |none=>cases b with
  |none=>rfl
  |some y=>cases y<;>first|rfl|(simp[o3] at h)
 |some x=>cases b with
  |none=>cases x<;>first|rfl|(simp[o3] at h)
  |some y=>
   cases x<;>cases y<;>first
    |rfl
    |(simp[o3] at h;done)
    |(simp only[o3,Bool.and_eq_true] at h
      obtain⟨⟨⟨⟨aa,ad⟩,ax⟩,aO⟩,bZ⟩:=h
      rw[pF _ _ aa,Nat.eq_of_beq_eq_true ad,eC.Rs (Nat.eq_of_beq_eq_true ax),Nat.eq_of_beq_eq_true aO,Nat.eq_of_beq_eq_true bZ])
    |(simp only[o3,Bool.and_eq_true] at h
      rw[JB _ _ h.1,Nat.eq_of_beq_eq_true h.2])
def JC(G:Nat)(H aX:J):Nat->Bool
 |0=>true
 |k+1=>match o3 (H.get (G+k)) (aX.get (G+k)) with
  |true=>JC G H aX k
  |false=>false
def aaq(G:Nat):an->an->Bool
 |.ret v H,.ret v' aX=>I.beq v v'&&Nat.beq H.n aX.n&&JC G H aX (H.n-G)
 |_,_=>false
structure xn where
 f:Nat
 args:List I
 r:an
def pY(G:Nat)(ts:List jw):List xn->Nat->List I->J->Option (I×J)
 |[],_,_,_=>none
 |e::T,f,args,h=>match Nat.beq f e.f with
  |true=>match I.jK args e.args with
   |true=>match pW h ts with
    |true=>match e.r with
     |.ret v H=>some (gk G h.n v,lP G h.n H h (H.n-G))
     |_=>none
    |false=>none
   |false=>pY G ts T f args h
  |false=>pY G ts T f args h
theorem JD{G:Nat}{ts:List jw}:∀{T:List xn} {f:Nat} {args:List I} {h:J} {v:I} {al:J},pY G ts T f args h=some (v,al)->pW h ts=true/\∃e∈T,e.f=f/\e.args=args/\∃v0 kI,e.r=.ret v0 kI/\v=gk G h.n v0/\al=lP G h.n kI h (kI.n-G)
 |[],_,_,_,_,_,ab=>by cases ab
 |e::T,f,args,h,v,al,ab=>by
  simp only[pY] at ab
  have rest:pY G ts T f args h=some (v,al)->pW h ts=true/\∃cY∈e::T,cY.f=f/\cY.args=args/\∃v0 kI,cY.r=.ret v0 kI/\v=gk G h.n v0/\al=lP G h.n kI h (kI.n-G):=λab=>by
   obtain⟨h0,cY,aa,ad⟩:=JD ab
   exact⟨h0,cY,List.mem_cons_of_mem _ aa,ad⟩
  split at ab
  · rename_i hf
    split at ab
    · rename_i a2
      split at ab
      · rename_i a6
        split at ab
        · rename_i v0 kI ai
          cases ab
          exact⟨a6,e,by simp,(Nat.eq_of_beq_eq_true hf).symm,(pF _ _ a2).symm,v0,kI,ai,rfl,rfl⟩
        · cases ab
      · cases ab
    · exact rest ab
  · exact rest ab
section
variable {P:Program}
def D7(i1 i2:Nat->List I->J->Option (I×J))(f:Nat)(args:List I)(h:J):Option (I×J):=match i1 f args h with
 |some r=>some r
 |none=>i2 f args h
theorem Ru{i1 i2:Nat->List I->J->Option (I×J)}(aa:lE P i1)(ad:lE P i2):lE P (D7 i1 i2):=by
 intro f args H v aX ab
 unfold D7 at ab
 split at ab
 · rename_i r ai
   cases ab
   exact aa f args H v aX ai
 · exact ad f args H v aX ab
end
end aD
namespace aD
open Go Go.ChangeShapes Go.WideShapes Go.ChangeAt Go.RowKit
end aD
namespace aD
open Go
end aD
namespace aD
open Go
end aD
namespace aD
open Go Go.RowKit
def xo(G:Nat)(H aX:J):Nat->Bool
 |0=>true
 |k+1=>match aX.get (G+k) with
  |none=>xo G H aX k
  |some o=>match o3 (some o) (H.get (G+k)) with
   |true=>xo G H aX k
   |false=>false
theorem D8{G:Nat}{H aX:J}:∀{k:Nat},xo G H aX k=true->∀j,j<k->∀o,aX.get (G+j)=some o->o3 (some o) (H.get (G+j))=true
 |0,_,j,aL,_,_=>by omega
 |k+1,h,j,aL,o,bd=>by
  simp only[xo] at h
  rcases Nat.lt_or_ge j k with ad|ad
  · split at h
    · exact D8 h j ad o bd
    · split at h
      · exact D8 h j ad o bd
      · cases h
  · obtain rfl:j=k:=by omega
    rw[bd] at h
    simp only at h
    split at h
    · rename_i aa;exact aa
    · cases h
def JE(G:Nat):an->an->Bool
 |.ret v H,.ret v' aX=>I.beq v v'&&Nat.beq H.n aX.n&&xo G H aX (H.n-G)
 |_,_=>false
def jU(n:Nat):List (Nat×cx)->J
 |[]=>iM n
 |(b,o)::l=>(jU n l).set b (some o)
section
variable {P:Program}
def D9(P:Program)(ts:List jw)(e:xn):Prop:=∃(intr:Nat->List I->J->Option (I×J)) (n:Nat),lE P intr/\pK e.args=true/\∀eZ,JE P.globals.size (fD P intr n (.fn e.f) e.args (s_ P.globals.size eZ ts [])) e.r=true
theorem Rv(hf:Fit P){ts:List jw}(o2:∀t∈ts,t.g<P.globals.size){T:List xn}(k1:∀e∈T,D9 P ts e):lE P (pY P.globals.size ts T):=by
 intro f args H v aX ab μ w vs ak aj aE
 obtain⟨dO,e,he,rfl,rfl,v0,kI,ai,rfl,rfl⟩:=JD ab
 obtain⟨intr,n,ae,sy,xp⟩:=k1 e he
 obtain⟨eZ,Rw⟩:∃eZ:Nat->Nat,∀g,eZ g=match w.heap[g]? with|some (.cells _ el _)=>el|_=>0:=⟨_,λ_=>rfl⟩
 have af:=xp eZ
 rw[ai] at af
 unfold JE at af
 split at af
 · rename_i v1 H1 v2 az eX ad
   cases ad
   simp only[Bool.and_eq_true] at af
   obtain⟨⟨eJ,di⟩,D_⟩:=af
   have CZ:=beq_eq _ _ eJ
   subst CZ
   have ma:H1.n=kI.n:=Nat.eq_of_beq_eq_true di
   rw[<-ma]
   have C0:P.globals.size<=w.heap.size:=by
    cases bL:P.globals.size with
    |zero=>exact Nat.zero_le _
    |succ g=>
     obtain⟨i,aa,ad,ax⟩:=aj g (by omega)
     have:=(ak.lt _ i aa).2
     omega
   have Rx:∀t∈ts,t.g<P.globals.size/\Jy w eZ t:=λt a6=>by
    refine⟨o2 t a6,?_⟩
    obtain⟨el,fw⟩:=Rm (Jw dO t a6)
    obtain⟨i,aa,ad,ax⟩:=aj t.g (o2 t a6)
    obtain⟨c,ft,fu,b4,b0,e2,_⟩:=ak.rel _ _ i fw aa
    rw[ad] at b4
    rw[ax] at b0
    refine⟨c,(ft,fu),by rw[Rw,b4],λj x aL=>?_⟩
    obtain⟨u,tX,oD⟩:=b0 j _ (by rw[D2,aL];rfl)
    rw[Nat.zero_add] at tX
    rw[tX,oD]
   obtain⟨s1,s2,bE⟩:=Ro (P:=P) C0 eZ ts Rx [] (by simp)
   have g5:=(CT hf ae n).fn e.f e.args (s_ P.globals.size eZ ts []) (by rw[eX];rfl) _ w vs s1 s2 (sw _ _ sy aE)
   rw[eX] at g5
   refine g5.mono λlB w' pA=>?_
   obtain⟨gq,u,rfl,aV,aN,cz⟩:=pA
   have hold:∀r,r<w.heap.size->w'.heap[r]? =w.heap[r]? :=(cz.below bE s1).block
   obtain⟨aP,pZ⟩:∃aP:bn,∀b,aP b=if b<H.n then μ b else gq (b-H.n+P.globals.size):=⟨_,λ_=>rfl⟩
   have aar:P.globals.size<=H1.n:=by
    have:=cz.n
    rw[(Jx P.globals.size eZ ts [] λt a6=>o2 t a6).1] at this
    simpa using this
   have hle:eV μ aP:=λb i af=>by rw[pZ,if_pos (ak.lt b i af).1];exact af
   have JF:∀b i,¬b<P.globals.size->gq b=some i->aP (b-P.globals.size+H.n)=some i:=λb i af aa=>by
    rw[pZ,if_neg (by omega)]
    have aA:b-P.globals.size+H.n-H.n+P.globals.size=b:=by omega
    rw[aA];exact aa
   have kU:∀b i,¬b<H.n->aP b=some i->gq (b-H.n+P.globals.size)=some i/\b<H.n+(H1.n-P.globals.size)/\w.heap.size<=i.bj:=λb i af aa=>by
    rw[pZ,if_neg af] at aa
    have ad:=aN.lt _ i aa
    refine⟨aa,by omega,?_⟩
    have hm:ri P.globals.size (uO w) (([]:List (eG×List I×Nat)).map (·.1)) (b-H.n+P.globals.size)=none:=by
     unfold ri;rw[if_neg (by omega)];rfl
    rcases(cz.new _ i hm aa).2 with ax|⟨c,o,j,ax,aO,_⟩
    · exact ax
    · have:=bE c o ax;rw[aO] at this;cases this
   have fw:∀b,(lP P.globals.size H.n kI H (H1.n-P.globals.size)).get b=if b<H.n then H.get b else if b<H.n+(H1.n-P.globals.size) then(kI.get (P.globals.size+(b-H.n))).bind (kh P.globals.size H.n) else H.get b:=D6 _ _ _ _ _
   have uQ:∀b o,¬b<H.n->(lP P.globals.size H.n kI H (H1.n-P.globals.size)).get b=some o->∃cq,H1.get (b-H.n+P.globals.size)=some cq/\kh P.globals.size H.n cq=some o:=λb o af aa=>by
    rw[fw,if_neg af] at aa
    split at aa
    · rename_i cy
      have aL:b-H.n<H1.n-P.globals.size:=by omega
      cases kX:kI.get (P.globals.size+(b-H.n)) with
      |none=>rw[kX] at aa;cases aa
      |some rX=>
       have bq:=Rt P.globals.size H.n (D8 D_ _ aL rX kX)
       rw[kX,bq] at aa
       rw[Nat.add_comm] at aa
       cases ab:H1.get (b-H.n+P.globals.size) with
       |none=>rw[ab] at aa;cases aa
       |some cq=>rw[ab] at aa;exact⟨cq,rfl,aa⟩
    · rw[ak.bound b (by omega)] at aa;cases aa
   refine⟨aP,u,rfl,uP JF _ _ aV,⟨λb o i af ae=>?_,λb c i j af ah ae aL qZ=>?_,λb i ae=>?_,λb af=>?_⟩,?_⟩
   · by_cases aa:b<H.n
     · rw[fw,if_pos aa] at af
       rw[pZ,if_pos aa] at ae
       exact(ak.rel b o i af ae).mono hle (hold _ (ak.lt b i ae).2)
     · obtain⟨cq,ad,ax⟩:=uQ b o aa af
       exact Rp JF ax (aN.rel _ cq i ad (kU b i aa ae).1)
   · obtain⟨nC,ah,ha⟩:=ah
     by_cases aa:b<H.n
     · rw[fw,if_pos aa] at af
       rw[pZ,if_pos aa] at ae
       by_cases ad:c<H.n
       · rw[fw,if_pos ad] at ah
         rw[pZ,if_pos ad] at aL
         exact ak.inj b c i j af ⟨nC,ah,ha⟩ ae aL qZ
       · have q:=(kU c j ad aL).2.2
         have:=(ak.lt b i ae).2
         omega
     · have q:=(kU b i aa ae)
       by_cases ad:c<H.n
       · rw[pZ,if_pos ad] at aL
         have:=(ak.lt c j aL).2
         have:=q.2.2
         omega
       · obtain⟨cq,b4,b0⟩:=uQ c nC ad ah
         have hp:H1.get (b-H.n+P.globals.size)≠none:=λab=>by
          cases bg:(lP P.globals.size H.n kI H (H1.n-P.globals.size)).get b with
          |none=>exact af bg
          |some ob=>obtain⟨eo,e2,_⟩:=uQ b ob aa bg;rw[ab] at e2;cases e2
         have:=aN.inj _ _ i j hp ⟨cq,b4,by rw[<-Rq b0];exact ha⟩ q.1 (kU c j ad aL).1 qZ
         omega
   · by_cases aa:b<H.n
     · rw[pZ,if_pos aa] at ae
       exact⟨by rw[tb];omega,Nat.lt_of_lt_of_le (ak.lt b i ae).2 cz.size⟩
     · have q:=kU b i aa ae
       exact⟨by rw[tb];exact q.2.1,(aN.lt _ i q.1).2⟩
   · rw[tb] at af
     rw[fw,if_neg (by omega),if_neg (by omega)]
     exact ak.bound b (by omega)
   · refine⟨hle,cz.size,by rw[tb];omega,λb af au=>?_,λb af _=>?_,λr ai _=>hold r ai,λb i aa ad=>?_,λb o i af _ ae=>?_,cz.os,cz.out,cz.tape,cz.drawn⟩
     · rw[fw,if_pos af] at au;exact au
     · rw[fw,if_pos af]
     · have af:¬b<H.n:=λaf=>by rw[pZ,if_pos af,aa] at ad;cases ad
       exact⟨by omega,.inl (kU b i af ad).2.2⟩
     · refine⟨?_,hold _ (ak.lt b i ae).2⟩
       rw[fw,if_pos (ak.lt b i ae).1];exact af
 · cases af
end
end aD
namespace aD
open Go Go.RowKit
section
variable {P:Program}
end
end aD
namespace aD
open Go Go.RowKit
def Ry:cx->Bool
 |.cells .. =>true
 |.map .. =>true
 |_=>false
def Rz(h:J):List (Nat×cx)->Bool
 |[]=>true
 |(b,o)::l=>match Ry o with
  |true=>match o3 (some o) (h.get b) with
   |true=>Rz h l
   |false=>false
  |false=>false
def rj(h:J):List (Nat×cx)->J
 |[]=>h
 |(b,o)::l=>(rj h l).set b (some o)
theorem JG(h:J):∀l,(rj h l).n=h.n
 |[]=>rfl
 |(b,o)::l=>JG h l
theorem Ea(h:J):∀(l:List (Nat×cx)) (b:Nat),(∃o,(b,o)∈l/\(rj h l).get b=some o)\/((∀o,(b,o)∉l)/\(rj h l).get b=h.get b)
 |[],b=>.inr ⟨λo hm=>(by cases hm),rfl⟩
 |(c,o)::l,b=>by
  show(∃o',(b,o')∈(c,o)::l/\((rj h l).set c (some o)).get b=some o')\/((∀o',(b,o')∉(c,o)::l)/\((rj h l).set c (some o)).get b=h.get b)
  rw[J.b_]
  by_cases e:b=c
  · subst e;exact .inl ⟨o,by simp,by rw[if_pos rfl]⟩
  · rw[if_neg e]
    rcases Ea h l b with⟨o',aa,ad⟩|⟨aa,ad⟩
    · exact .inl ⟨o',List.mem_cons_of_mem _ aa,ad⟩
    · refine .inr ⟨λo' hm=>?_,ad⟩
      rcases List.mem_cons.1 hm with q|hm
      · cases q;exact e rfl
      · exact aa o' hm
def rk(n:Nat):List (Nat×cx)->Bool
 |[]=>true
 |(b,_)::m=>match Nat.blt b n with
  |true=>rk n m
  |false=>false
theorem Eb{n:Nat}:∀{m:List (Nat×cx)},rk n m=true->∀b o,(b,o)∈m->b<n
 |[],_,_,_,hm=>by cases hm
 |(c,o)::m,h,b,x,hm=>by
  unfold rk at h
  split at h
  · rename_i aa
    rcases List.mem_cons.1 hm with e|hm
    · cases e;rw[Nat.blt_eq] at aa;exact aa
    · exact Eb h b x hm
  · cases h
section
variable {P:Program}
theorem Ak(n:Nat):∀l,jU n l=rj (iM n) l
 |[]=>rfl
 |(b,o)::l=>by show(jU n l).set b (some o)=(rj (iM n) l).set b (some o);rw[Ak n l]
theorem Ec(n b:Nat):(iM n).get b=none:=by cases b<;>rfl
end
end aD
namespace aD
open Go Go.RowKit
section
variable {P:Program}
end
end aD
namespace aD
open Go Go.RowKit
structure uR where
 f:Nat
 args:List I
 v:I
 n:Nat
 l:List (Nat×cx)
def uR.tc(e:uR):xn:=⟨e.f,e.args,.ret e.v (jU e.n e.l)⟩
def nU(G n:Nat)(h:J):List (Nat×cx)->J
 |[]=>h
 |(b,o)::l=>(nU G n h l).set (b-G+n) (kh G n o)
theorem Ed(G n rl:Nat)(h:J):∀(l:List (Nat×cx)),(∀b o,(b,o)∈l->G<=b)->∀c,(nU G n h l).get c=if c<n then h.get c else match(jU rl l).get (G+(c-n)) with
  |some o=>kh G n o
  |none=>h.get c
 |[],_,c=>by
  show h.get c=_
  by_cases ah:c<n
  · rw[if_pos ah]
  · rw[if_neg ah]
    have:(jU rl []).get (G+(c-n))=none:=Ec rl _
    rw[this]
 |(b,o)::l,au,c=>by
  have af:=au b o (by simp)
  have ba:=Ed G n rl h l (λb o hm=>au b o (by simp[hm])) c
  show((nU G n h l).set (b-G+n) (kh G n o)).get c=_
  have aC:(jU rl ((b,o)::l)).get (G+(c-n))=if G+(c-n)=b then some o else(jU rl l).get (G+(c-n)):=J.b_ _ _ _ _
  rw[J.b_,aC,ba]
  by_cases ah:c<n
  · rw[if_neg (by omega),if_pos ah,if_pos ah]
  · by_cases bq:c=b-G+n
    · rw[if_pos bq,if_neg ah,if_pos (by omega)]
    · have ab:¬G+(c-n)=b:=by omega
      rw[if_neg bq,if_neg ab]
def rm(G:Nat):List (Nat×cx)->Bool
 |[]=>true
 |(b,_)::m=>match Nat.ble G b with
  |true=>rm G m
  |false=>false
theorem Ee{G:Nat}:∀{m:List (Nat×cx)},rm G m=true->∀b o,(b,o)∈m->G<=b
 |[],_,_,_,hm=>by cases hm
 |(c,o)::m,h,b,x,hm=>by
  unfold rm at h
  split at h
  · rename_i aa
    rcases List.mem_cons.1 hm with e|hm
    · cases e;exact Nat.le_of_ble_eq_true aa
    · exact Ee h b x hm
  · cases h
def td(G:Nat)(ts:List jw):List uR->Nat->List I->J->Option (I×J)
 |[],_,_,_=>none
 |e::T,f,args,h=>match Nat.beq f e.f with
  |true=>match I.jK args e.args with
   |true=>match pW h ts with
    |true=>match rm G e.l&&rk e.n e.l with
     |true=>some (gk G h.n e.v,⟨(nU G h.n h e.l).t,h.n+(e.n-G)⟩)
     |false=>none
    |false=>none
   |false=>td G ts T f args h
  |false=>td G ts T f args h
theorem JH{G:Nat}{ts:List jw}:∀{T:List uR} {f:Nat} {args:List I} {h:J} {v:I} {al:J},td G ts T f args h=some (v,al)->pW h ts=true/\∃e∈T,e.f=f/\e.args=args/\I.jK args e.args=true/\(rm G e.l&&rk e.n e.l)=true/\v=gk G h.n e.v/\al=⟨(nU G h.n h e.l).t,h.n+(e.n-G)⟩
 |[],_,_,_,_,_,ab=>by cases ab
 |e::T,f,args,h,v,al,ab=>by
  simp only[td] at ab
  have rest:td G ts T f args h=some (v,al)->pW h ts=true/\∃cY∈e::T,cY.f=f/\cY.args=args/\I.jK args cY.args=true/\(rm G cY.l&&rk cY.n cY.l)=true/\v=gk G h.n cY.v/\al=⟨(nU G h.n h cY.l).t,h.n+(cY.n-G)⟩:=λab=>by
   obtain⟨h0,cY,aa,ad⟩:=JH ab
   exact⟨h0,cY,List.mem_cons_of_mem _ aa,ad⟩
  split at ab
  · rename_i hf
    split at ab
    · rename_i a2
      split at ab
      · rename_i a6
        split at ab
        · rename_i au
          cases ab
          exact⟨a6,e,by simp,(Nat.eq_of_beq_eq_true hf).symm,(pF _ _ a2).symm,a2,au,rfl,rfl⟩
        · cases ab
      · cases ab
    · exact rest ab
  · exact rest ab
theorem br.same{μ:bn}{H aX:J}{w:World}(h:br μ H w)(aK:aX.n=H.n)(aj:∀b,aX.get b=H.get b):br μ aX w:=
 ⟨λb o i aa ad=>h.rel b o i (by rw[<-aj];exact aa) ad,λb c i j aa ad=>h.inj b c i j (by rw[<-aj];exact aa) (by rw[<-aj];exact ad),λb i aa=>by rw[aK];exact h.lt b i aa,λb af=>by rw[aj];exact h.bound b (by omega)⟩
theorem cb.same{μ aP:bn}{H H1 aX:J}{w w':World}(h:cb μ H w aP H1 w')(aK:aX.n=H1.n)(aj:∀b,aX.get b=H1.get b):cb μ H w aP aX w':=
 ⟨h.le,h.size,by rw[aK];exact h.n,λb af au=>h.live b af (by rw[<-aj];exact au),λb af hm=>by rw[aj];exact h.idle b af hm,h.old,h.new,λb o i aa ad ax=>by rw[aj];exact h.ro b o i aa ad ax,h.os,h.out,h.tape,h.drawn⟩
section
variable {P:Program}
theorem RA(hf:Fit P){ts:List jw}(o2:∀t∈ts,t.g<P.globals.size){T:List uR}(k1:∀e∈T,D9 P ts e.tc):lE P (td P.globals.size ts T):=by
 intro f args H v aX ab μ w vs ak aj aE
 obtain⟨dO,e,he,rfl,rfl,te,au,rfl,rfl⟩:=JH ab
 rw[Bool.and_eq_true] at au
 have jn:lE P (pY P.globals.size ts [e.tc]):=Rv hf o2 λx ab=>by obtain rfl:=List.mem_singleton.1 ab;exact k1 e he
 have v9:(jU e.n e.l).n=e.n:=by rw[Ak,JG];rfl
 have ae:pY P.globals.size ts [e.tc] e.f e.args H=some (gk P.globals.size H.n e.v,lP P.globals.size H.n (jU e.n e.l) H (e.n-P.globals.size)):=by
  have a8:Nat.beq e.f e.tc.f=true:=Nat.beq_refl _
  have aI:I.jK e.args e.tc.args=true:=te
  have cK:e.tc.r=.ret e.v (jU e.n e.l):=rfl
  simp only[pY,a8,aI,dO,cK,v9]
 have g5:=jn e.f e.args H _ _ ae μ w vs ak aj aE
 refine g5.mono λlB w' pA=>?_
 obtain⟨gq,u,rfl,aV,aN,cz⟩:=pA
 have uQ:(lP P.globals.size H.n (jU e.n e.l) H (e.n-P.globals.size)).n=H.n+(e.n-P.globals.size):=tb _ _ _ _ _
 have JI:∀b,(⟨(nU P.globals.size H.n H e.l).t,H.n+(e.n-P.globals.size)⟩:J).get b=(lP P.globals.size H.n (jU e.n e.l) H (e.n-P.globals.size)).get b:=λb=>by
  show(nU P.globals.size H.n H e.l).get b=_
  rw[Ed P.globals.size H.n e.n H e.l (Ee au.1) b,D6]
  by_cases aa:b<H.n
  · rw[if_pos aa,if_pos aa]
  · rw[if_neg aa,if_neg aa]
    by_cases ad:b<H.n+(e.n-P.globals.size)
    · rw[if_pos ad]
      cases ab:(jU e.n e.l).get (P.globals.size+(b-H.n)) with
      |none=>exact ak.bound b (by omega)
      |some o=>rfl
    · rw[if_neg ad]
      cases ab:(jU e.n e.l).get (P.globals.size+(b-H.n)) with
      |none=>rfl
      |some o=>
       exfalso
       rw[Ak] at ab
       rcases Ea (iM e.n) e.l (P.globals.size+(b-H.n)) with⟨o',b4,b0⟩|⟨b4,b0⟩
       · have:=Eb au.2 _ _ b4
         omega
       · rw[ab,Ec] at b0;cases b0
 exact⟨gq,u,rfl,aV,aN.same (by rw[uQ]) JI,cz.same (by rw[uQ]) JI⟩
end
end aD
