/-
  PROVED HERE: contracts of functions (Ax). No condition beside each statement's own.
-/
import Derived.Test.YtokgebablggccaaGreatDoorAed
import Derived.OpenShut
import Derived.ChangeSame
import Derived.Lay
set_option linter.unusedVariables false
set_option linter.unusedSimpArgs false
namespace aJ
open Go Go.RowKit
variable {G g:Nat}{H:I}{cs:Array Value}{n:String}{w:World}{μ:bG}
structure g2 where
 g:Nat
 xs:List Nat
def qo:List Nat->List aa
 |[]=>[]
 |x::l=>.int .u8 (Int.ofNat x)::qo l
def g2.obj(els:Nat->Nat)(t:g2):b5:=.cells (qo t.xs) (els t.g) .ro 0 0
def AV:List aa->List Nat->Bool
 |[],[]=>true
 |.int .u8 (.ofNat n)::l,x::xs=>match Nat.beq n x with
  |true=>AV l xs
  |false=>false
 |_,_=>false
theorem Q9:∀(l:List aa) (xs:List Nat),AV l xs=true->l=qo xs
 |[],[],_=>rfl
 |.int .u8 (.ofNat n)::l,x::xs,h=>by
  simp only[AV] at h
  split at h
  · rename_i aT
    rw[Q9 l xs h,Nat.eq_of_beq_eq_true aT];rfl
  · cases h
theorem Q_:∀xs:List Nat,AV (qo xs) xs=true
 |[]=>rfl
 |x::xs=>by
  show(match Nat.beq x x with|true=>AV (qo xs) xs|false=>false)=true
  rw[show Nat.beq x x=true from Nat.beq_refl x]
  exact Q_ xs
def wW(h:I)(t:g2):Bool:=match h.get t.g with
 |some (.cells cs _ .ro 0 0)=>AV cs t.xs
 |_=>false
def gH(h:I):List g2->Bool
 |[]=>true
 |t::bl=>match wW h t with
  |true=>gH h bl
  |false=>false
theorem wX{h:I}{t:g2}(hi:wW h t=true):∃el,h.get t.g=some (.cells (qo t.xs) el .ro 0 0):=by
 unfold wW at hi
 split at hi
 · rename_i cs el aB
   exact⟨el,by rw[aB,Q9 _ _ hi]⟩
 · cases hi
theorem Ra{h:I}{t:g2}{el:Nat}(aB:h.get t.g=some (.cells (qo t.xs) el .ro 0 0)):wW h t=true:=by
 unfold wW
 rw[aB]
 exact Q_ _
theorem tJ:∀{bl:List g2} {h:I},gH h bl=true->∀t∈bl,wW h t=true
 |[],h,_,t,aI=>by cases aI
 |x::bl,h,hi,t,aI=>by
  simp only[gH] at hi
  split at hi
  · rename_i J
    rcases List.mem_cons.1 aI with rfl|aI
    · exact J
    · exact tJ hi t aI
  · cases hi
theorem GJ:∀{bl:List g2} {h:I},(∀t∈bl,wW h t=true)->gH h bl=true
 |[],h,_=>rfl
 |x::bl,h,hi=>by
  simp only[gH,hi x (by simp)]
  exact GJ λt aI=>hi t (by simp[aI])
def su(els:Nat->Nat)(h:I)(t:g2):I:=h.set t.g (some (t.obj els))
def kr(G:Nat)(els:Nat->Nat)(bl:List g2)(rows:List (List aa×Nat)):I:=rows.foldl Ar (bl.foldl (su els) (xH G))
def l9(G:Nat)(sz:Nat->Nat)(is:List gx):bG:=λb=>if b<G then some ⟨b,0,sz b⟩ else is[b-G]?
theorem GK(els:Nat->Nat):∀(bl:List g2) (h:I),(bl.foldl (su els) h).n=h.n/\∀b,(bl.foldl (su els) h).get b=h.get b\/∃t∈bl,t.g=b/\(bl.foldl (su els) h).get b=some (t.obj els)
 |[],h=>⟨rfl,λb=>.inl rfl⟩
 |t::bl,h=>by
  obtain⟨aV,aU⟩:=GK els bl (su els h t)
  have aB:∀b,(su els h t).get b=if b=t.g then some (t.obj els) else h.get b:=λb=>I.fk _ _ _ _
  refine⟨aV,λb=>?_⟩
  rw[List.foldl_cons]
  rcases aU b with q|⟨ft,J,ae,aq⟩
  · rw[q,aB]
    by_cases e:b=t.g
    · rw[if_pos e];exact .inr ⟨t,by simp,e.symm,rfl⟩
    · rw[if_neg e];exact .inl rfl
  · exact .inr ⟨ft,by simp[J],ae,aq⟩
theorem Rb(els:Nat->Nat):∀(bl:List g2) (h:I),(bl.map (·.g)).Nodup->∀t∈bl,(bl.foldl (su els) h).get t.g=some (t.obj els)
 |[],h,_,t,aI=>by cases aI
 |x::bl,h,aT,t,aI=>by
  rw[List.map_cons,List.nodup_cons] at aT
  rw[List.foldl_cons]
  rcases List.mem_cons.1 aI with rfl|aI
  · rcases(GK els bl (su els h t)).2 t.g with q|⟨ft,J,ae,aq⟩
    · rw[q]
      show(h.set t.g _).get t.g=_
      rw[I.fk,if_pos rfl]
    · exact absurd (List.mem_map.2 ⟨ft,J,ae⟩) aT.1
  · exact Rb els bl _ aT.2 t aI
theorem yU(G:Nat)(els:Nat->Nat)(bl:List g2)(rows:List (List aa×Nat))(jv:∀t∈bl,t.g<G):(kr G els bl rows).n=G+rows.length/\∀b,(kr G els bl rows).get b=if b<G then(bl.foldl (su els) (xH G)).get b else(rows[b-G]?).map λr=>.cells r.1 r.2 .ro 0 0:=by
 obtain⟨aV,aU⟩:=GK els bl (xH G)
 have aT:(bl.foldl (su els) (xH G)).n=G:=aV
 obtain⟨bt,b3⟩:=P5 rows (bl.foldl (su els) (xH G)) λb ag=>by
  rw[aT] at ag
  rcases aU b with q|⟨t,J,ae,_⟩
  · rw[q];rfl
  · have:=jv t J;omega
 rw[aT] at bt b3
 exact⟨bt,b3⟩
theorem aaG{els:Nat->Nat}{bl:List g2}{rows:List (List aa×Nat)}(jv:∀t∈bl,t.g<G)(aT:(bl.map (·.g)).Nodup){t:g2}(aI:t∈bl):(kr G els bl rows).get t.g=some (t.obj els):=by
 rw[(yU G els bl rows jv).2,if_pos (jv t aI)]
 exact Rb els bl _ aT t aI
theorem Rc{els:Nat->Nat}{bl:List g2}{rows:List (List aa×Nat)}(jv:∀t∈bl,t.g<G)(aT:(bl.map (·.g)).Nodup):gH (kr G els bl rows) bl=true:=
 GJ λt aI=>Ra (aaG jv aT aI)
def tK(W:World)(els:Nat->Nat)(t:g2):Prop:=∃c fz,W.heap[t.g]? =some (.cells c (els t.g) fz)/\∀(j:Nat) (x:Nat),t.xs[j]? =some x->c[j]? =some (.int .u8 (Int.ofNat x))
theorem tL:∀(xs:List Nat) (j:Nat),(qo xs)[j]? =(xs[j]?).map λx=>.int .u8 (Int.ofNat x)
 |[],j=>by simp[qo]
 |x::xs,0=>by simp[qo]
 |x::xs,j+1=>by simp[qo,tL xs j]
def rq(W:World)(g:Nat):Nat:=match W.heap[g]? with
 |some (.cells c _ _)=>c.size
 |_=>0
theorem AW{P:Program}{W:World}(iv:P.globals.size<=W.heap.size)(els:Nat->Nat)(bl:List g2)(jv:∀t∈bl,t.g<P.globals.size/\tK W els t)(l:List (gx×List aa×Nat))(aA:∀x∈l,JT W x.1 x.2.1 x.2.2):
  bI (l9 P.globals.size (rq W) (l.map (·.1))) (kr P.globals.size els bl (l.map (·.2))) W/\j1 P (l9 P.globals.size (rq W) (l.map (·.1)))/\yl (kr P.globals.size els bl (l.map (·.2))):=by
 obtain⟨aT,aB⟩:=yU P.globals.size els bl (l.map (·.2)) λt aI=>(jv t aI).1
 have ro:∀b o,(kr P.globals.size els bl (l.map (·.2))).get b=some o->(∃x,l[b-P.globals.size]? =some x/\¬b<P.globals.size/\o=.cells x.2.1 x.2.2 .ro 0 0)\/(b<P.globals.size/\∃t∈bl,t.g=b/\o=t.obj els):=by
  intro b o h
  rw[aB] at h
  split at h
  · rename_i ag
    rcases(GK els bl (xH P.globals.size)).2 b with q|⟨t,J,ae,aq⟩
    · rw[q] at h;cases h
    · rw[aq] at h;cases h;exact .inr ⟨ag,t,J,ae,rfl⟩
  · rename_i ag
    rw[List.getElem?_map] at h
    cases ab:l[b-P.globals.size]? with
    |none=>rw[ab] at h;cases h
    |some x=>rw[ab] at h;cases h;exact .inl ⟨x,rfl,ag,rfl⟩
 refine⟨⟨λb o j h aL=>?_,λb c' j k J ae=>?_,λb j h=>?_,λb h=>?_⟩,λg aB=>⟨⟨g,0,rq W g⟩,by simp[l9,aB],rfl,rfl⟩,λb o h=>?_⟩
 · rcases ro b o h with⟨x,ab,ag,rfl⟩|⟨ag,t,aI,rfl,rfl⟩
   · unfold l9 at aL
     rw[if_neg ag,List.getElem?_map,ab] at aL
     cases aL
     obtain⟨c,fz,aV,aU,bu⟩:=aA x (List.mem_of_getElem? ab)
     exact⟨c,fz.1,fz.2,aV,aU _,bu,trivial⟩
   · unfold l9 at aL
     rw[if_pos ag] at aL
     cases aL
     obtain⟨_,c,fz,aV,aU⟩:=jv t aI
     refine⟨c,fz.1,fz.2,aV,λj v aW=>?_,by show 0+rq W t.g=c.size;unfold rq;rw[aV];simp,trivial⟩
     rw[tL] at aW
     cases ab:t.xs[j]? with
     |none=>rw[ab] at aW;cases aW
     |some x=>
      rw[ab] at aW;cases aW
      exact⟨_,by rw[Nat.zero_add];exact aU j x ab,rfl⟩
 · obtain⟨o,ae,aq⟩:=ae
   rcases ro _ o ae with⟨x,_,_,rfl⟩|⟨_,t,_,_,rfl⟩<;>cases aq
 · rw[aT,List.length_map]
   unfold l9 at h
   split at h
   · rename_i ag;cases h;exact⟨by omega,Nat.lt_of_lt_of_le ag iv⟩
   · rw[List.getElem?_map] at h
     cases ab:l[b-P.globals.size]? with
     |none=>rw[ab] at h;cases h
     |some x=>
      rw[ab] at h;cases h
      obtain⟨c,fz,aV,_⟩:=aA x (List.mem_of_getElem? ab)
      have:=(List.getElem?_eq_some_iff.1 ab).1
      exact⟨by omega,(Array.getElem?_eq_some_iff.1 aV).1⟩
 · rw[aT,List.length_map] at h
   rw[aB,if_neg (by omega),List.getElem?_map,List.getElem?_eq_none (by omega)];rfl
 · rcases ro b o h with⟨x,_,_,rfl⟩|⟨_,t,_,_,rfl⟩<;>rfl
def uM(bl:List g2)(T:List rh)(f:Nat)(args:List aa)(h:I):Option (aa×I):=
 match wE T f args h with
 |some r=>match gH h bl with
  |true=>some r
  |false=>none
 |none=>none
def Rd(P:Program)(els:Nat->Nat)(bl:List g2)(intr:Nat->List aa->I->Option (aa×I))(n:Nat)(e:rh):Bool:=
 match eA P intr n (.fn e.f) e.args (kr P.globals.size els bl []) with
 |.ret v _=>aa.beq v e.v&&nI e.v&&l3 e.args
 |_=>false
def aaH(P:Program)(bl:List g2)(e:rh):Prop:=∃(intr:Nat->List aa->I->Option (aa×I)) (n:Nat),kJ P intr/\∀els,Rd P els bl intr n e=true
section
variable {P:Program}
theorem Re(aM:Fit P){bl:List g2}(jv:∀t∈bl,t.g<P.globals.size){T:List rh}(de:∀e∈T,aaH P bl e):kJ P (uM bl T):=by
 intro f args H v a7 ab μ w vs ar aB aW
 unfold uM at ab
 split at ab
 · rename_i r aj
   split at ab
   · rename_i eF
     cases ab
     obtain⟨rfl,e,he,rfl,rfl,rfl⟩:=JS T f args H v a7 aj
     obtain⟨intr,n,hi,yV⟩:=de e he
     obtain⟨els,uN⟩:∃els:Nat->Nat,∀g,els g=match w.heap[g]? with|some (.cells _ el _)=>el|_=>0:=⟨_,λ_=>rfl⟩
     have ag:=yV els
     unfold Rd at ag
     split at ag
     · rename_i v1 H1 dD
       simp only[Bool.and_eq_true] at ag
       obtain⟨⟨jH,en⟩,hJ⟩:=ag
       have p_:=beq_eq _ _ jH
       subst p_
       have nR:P.globals.size<=w.heap.size:=by
        cases bQ:P.globals.size with
        |zero=>exact Nat.zero_le _
        |succ g=>
         obtain⟨i,J,ae,aq⟩:=aB g (by omega)
         have:=(ar.lt _ i J).2
         omega
       have qp:∀t∈bl,t.g<P.globals.size/\tK w els t:=λt aI=>by
        refine⟨jv t aI,?_⟩
        obtain⟨el,eG⟩:=wX (tJ eF t aI)
        obtain⟨i,J,ae,aq⟩:=aB t.g (jv t aI)
        obtain⟨c,fr,fs,aO,aZ,bC,_⟩:=ar.rel _ _ i eG J
        rw[ae] at aO
        rw[aq] at aZ
        refine⟨c,(fr,fs),by rw[uN,aO],λj x aL=>?_⟩
        obtain⟨u,mz,my⟩:=aZ j _ (by rw[tL,aL];rfl)
        rw[Nat.zero_add] at mz
        rw[mz,my]
       obtain⟨s1,s2,c4⟩:=AW (P:=P) nR els bl qp [] (by simp)
       have hG:=(Aq aM hi n).fn e.f e.args (kr P.globals.size els bl []) (by rw[dD];rfl) _ w vs s1 s2 (tu _ _ hJ aW)
       rw[dD] at hG
       refine hG.mono λmA w' p2=>?_
       obtain⟨a2,u,rfl,aV,aU,bu⟩:=p2
       have hold:∀r,r<w.heap.size->w'.heap[r]? =w.heap[r]? :=(bu.below c4 s1).block
       refine⟨μ,u,rfl,CS _ _ en aV,⟨λb o i ag hi=>(ar.rel b o i ag hi).mono (fE.refl μ) (hold _ (ar.lt b i hi).2),ar.inj,λb i hi=>⟨(ar.lt b i hi).1,Nat.lt_of_lt_of_le (ar.lt b i hi).2 bu.size⟩,ar.bound⟩,?_⟩
       exact⟨fE.refl μ,bu.size,Nat.le_refl _,λ_ _ aA=>aA,λ_ _ _=>rfl,λr aj _=>hold r aj,(λb i J ae=>by rw[J] at ae;cases ae),λb o i ag _ hi=>⟨ag,hold _ (ar.lt b i hi).2⟩,bu.os,bu.out,bu.tape,bu.drawn⟩
     · cases ag
   · cases ab
 · cases ab
end
open Go Go.ChangeShapes Go.WideShapes Go.ChangeAt Go.RowKit
def sv(W:World)(g:Nat):Nat:=match W.heap[g]? with
 |some (.cells _ el _)=>el
 |_=>0
theorem Rf{P:Program}{W:World}{d:DataW Unit}{t N e fuel:Nat}{p:List MemPlace}(aI:P.underlying t=some (.array N e))(he:P.underlying e=some (.int .u8))(ak:P.cellsOf e=1)
  (aB:P.globalNamed n=some g)(aW:W.var? P n=some cs)(aH:DataW.trod (λ_=>()) P W 0 (λ_=>true) false fuel t cs.toList=some (d,p))(xs:List Nat)(ab:d=.agg (xs.map λx=>.lit (.int .u8 (Int.ofNat x)))):
  tK W (sv W) ⟨g,xs⟩:=by
 unfold World.var? at aW
 rw[aB,Option.bind_some] at aW
 split at aW
 · rename_i cq el fz ag
   cases aW
   refine⟨cs,fz,by unfold sv;rw[ag],λr x aj=>?_⟩
   obtain⟨fQ,m,_,ex,_,aA,jC⟩:=DataW.trod_array aI aH
   have br:(fQ.map (·.1))=xs.map λx=>.lit (.int .u8 (Int.ofNat x)):=by
    have:=(Prod.mk.inj ex).1
    rw[ab] at this
    exact(DataW.agg.inj this).symm
   have hlen:fQ.length=xs.length:=by simpa using congrArg List.length br
   have aaI:r<xs.length:=(List.getElem?_eq_some_iff.1 aj).1
   have bO:=jC r (by omega)
   rw[ak,Nat.mul_one,List.getElem?_eq_getElem (by omega)] at bO
   obtain⟨z,aG,aE,_⟩:=DataW.trod_int he bO
   have dw:(fQ.map (·.1))[r]? =(xs.map λx=>(DataW.lit (.int .u8 (Int.ofNat x)):DataW Unit))[r]? :=by rw[br]
   rw[List.getElem?_map,List.getElem?_map,List.getElem?_eq_getElem (by omega:r<fQ.length),aj,aE] at dw
   have bm:z=Int.ofNat x:=by simpa using dw
   subst bm
   have h0:((cs.toList.drop r).take 1)[0]? =some (.int .u8 (Int.ofNat x)):=by rw[aG];rfl
   have J:cs.toList[r]? =some (.int .u8 (Int.ofNat x)):=by simpa using h0
   simpa using J
 · cases aW
mutual
def ln(G n:Nat):aa->aa
 |.bad=>.bad
 |.bool b=>.bool b
 |.int k x=>.int k x
 |.str s=>.str s
 |.au=>.au
 |.ptr b o=>match Nat.blt b G with
  |true=>.bad
  |false=>.ptr (b-G+n) o
 |.ao=>.ao
 |.slice b o l c=>match Nat.blt b G with
  |true=>.bad
  |false=>.slice (b-G+n) o l c
 |.jA=>.jA
 |.map r=>match Nat.blt r G with
  |true=>.bad
  |false=>.map (r-G+n)
 |.lg=>.lg
 |.fn f a b=>.fn f (oD G n a) (oD G n b)
 |.gJ l=>.bad
 |.c3=>.c3
 |.iface t v=>.iface t (ln G n v)
 |.agg cs=>.agg (oD G n cs)
 |.aF vs=>.aF (oD G n vs)
def oD(G n:Nat):List aa->List aa
 |[]=>[]
 |v::vs=>ln G n v::oD G n vs
end
theorem Rg(G n:Nat):∀l,(oD G n l).length=l.length
 |[]=>rfl
 |v::l=>by simp[oD,Rg G n l]
theorem Rh(G n:Nat):∀(l:List aa) (j:Nat),(oD G n l)[j]? =(l[j]?).map (ln G n)
 |[],j=>by simp[oD]
 |v::l,0=>by simp[oD]
 |v::l,j+1=>by simp[oD,Rh G n l j]
mutual
theorem yW{μ a2:bG}{G n:Nat}(h:∀b i,¬b<G->μ b=some i->a2 (b-G+n)=some i):∀(a:aa) (v:Value),bq μ a v->bq a2 (ln G n a) v
 |.bad,_,_=>trivial
 |.bool _,_,h=>h
 |.int _ _,_,h=>h
 |.str _,_,h=>h
 |.au,_,h=>h
 |.ptr b off,_,⟨i,hi,e⟩=>by
  simp only[ln]
  split
  · trivial
  · rename_i ag
    have iZ:¬b<G:=by
     intro ab;rw[<-Nat.blt_eq] at ab;rw[ab] at ag;cases ag
    exact⟨i,h _ _ iZ hi,e⟩
 |.ao,_,h=>h
 |.slice b off len cap,_,⟨i,hi,e⟩=>by
  simp only[ln]
  split
  · trivial
  · rename_i ag
    have iZ:¬b<G:=by
     intro ab;rw[<-Nat.blt_eq] at ab;rw[ab] at ag;cases ag
    exact⟨i,h _ _ iZ hi,e⟩
 |.jA,_,h=>h
 |.map r,_,⟨i,hi,e⟩=>by
  simp only[ln]
  split
  · trivial
  · rename_i ag
    have iZ:¬r<G:=by
     intro ab;rw[<-Nat.blt_eq] at ab;rw[ab] at ag;cases ag
    exact⟨i,h _ _ iZ hi,e⟩
 |.lg,_,h=>h
 |.fn f first mT,_,⟨dh,cs,e,J,ae⟩=>⟨dh,cs,e,Dk h _ _ J,Dk h _ _ ae⟩
 |.gJ l,_,_=>trivial
 |.c3,_,h=>h
 |.iface t x,_,⟨y,e,ab⟩=>⟨y,e,yW h _ _ ab⟩
 |.agg cs,_,⟨l,e,ab⟩=>⟨l,e,Dk h _ _ ab⟩
 |.aF cs,_,⟨l,e,ab⟩=>⟨l,e,Dk h _ _ ab⟩
theorem Dk{μ a2:bG}{G n:Nat}(h:∀b i,¬b<G->μ b=some i->a2 (b-G+n)=some i):∀(as:List aa) (vs:List Value),cF μ as vs->cF a2 (oD G n as) vs
 |[],_,h=>h
 |a::as,_,⟨v,vs,e,J,ae⟩=>⟨v,vs,e,yW h _ _ J,Dk h _ _ ae⟩
end
def Dl(G n:Nat)(e:ga):ga:=⟨ln G n e.key,ln G n e.val,e.born⟩
def oE(G n:Nat):b5->Option b5
 |.cells cs el k lo hi=>some (.cells (oD G n cs) el k lo hi)
 |.map es c=>some (.map (es.map (Dl G n)) c)
 |_=>none
theorem Ri{μ a2:bG}{G n:Nat}(h:∀b i,¬b<G->μ b=some i->a2 (b-G+n)=some i):∀(es:List ga) (ms:List MapEntry),hE μ es ms->hE a2 (es.map (Dl G n)) ms
 |[],_,h=>h
 |e::es,_,⟨m,ms,q,⟨J,ae,aq⟩,aQ⟩=>⟨m,ms,q,⟨yW h _ _ J,yW h _ _ ae,aq⟩,Ri h es ms aQ⟩
theorem Rj{a2:bG}{n:Nat}(h:∀b i,¬b<G->μ b=some i->a2 (b-G+n)=some i){o o':b5}(he:oE G n o=some o'){i:gx}(aj:qZ μ o i w):qZ a2 o' i w:=by
 cases o with
 |cells cs el k lo hi=>
  simp only[oE,Option.some.injEq] at he
  subst he
  obtain⟨c,fr,fs,J,ae,aq,aQ⟩:=aj
  refine⟨c,fr,fs,J,λj v aL=>?_,aq,?_⟩
  · rw[Rh] at aL
    cases ab:cs[j]? with
    |none=>rw[ab] at aL;cases aL
    |some v'=>
     rw[ab] at aL;cases aL
     obtain⟨u,aV,aU⟩:=ae j v' ab
     exact⟨u,aV,yW h _ _ aU⟩
  · cases k<;>simp only[IB,Rg] at aQ⊢ <;>exact aQ
 |map es c=>
  simp only[oE,Option.some.injEq] at he
  subst he
  obtain⟨ents,J,ae⟩:=aj
  exact⟨ents,J,Ri h _ _ ae⟩
 |fp _ _=>cases he
 |mapIter _ _ _ _=>cases he
 |loop _ _ _ _ _ _ _ _=>cases he
 |defrd _=>cases he
 |raw _=>cases he
theorem Rk{n:Nat}{o o':b5}(he:oE G n o=some o'):o'.q0=o.q0:=by
 cases o with
 |cells cs el k lo hi=>simp only[oE,Option.some.injEq] at he;subst he;cases k<;>rfl
 |map es c=>simp only[oE,Option.some.injEq] at he;subst he;rfl
 |fp _ _=>cases he
 |mapIter _ _ _ _=>cases he
 |loop _ _ _ _ _ _ _ _=>cases he
 |defrd _=>cases he
 |raw _=>cases he
def Dm(h:I)(o:Option b5):I:=⟨fh.kB (h.n+1) h.t h.n o,h.n+1⟩
theorem aaJ(h:I)(o:Option b5)(c:Nat):(Dm h o).get c=if c=h.n then o else h.get c:=fh.fk _ _ _ _ _ (Nat.lt_succ_self _)
def ks(G n:Nat)(H1:I)(h:I):Nat->I
 |0=>h
 |k+1=>Dm (ks G n H1 h k) ((H1.get (G+k)).bind (oE G n))
theorem pw(G n:Nat)(H1 h:I):∀k,(ks G n H1 h k).n=h.n+k
 |0=>rfl
 |k+1=>by show(ks G n H1 h k).n+1=_;rw[pw G n H1 h k];omega
theorem yX(G n:Nat)(H1 h:I):∀(k b:Nat),(ks G n H1 h k).get b=if b<h.n then h.get b else if b<h.n+k then(H1.get (G+(b-h.n))).bind (oE G n) else h.get b
 |0,b=>by
  show h.get b=_
  by_cases J:b<h.n
  · rw[if_pos J]
  · rw[if_neg J,if_neg (by omega)]
 |k+1,b=>by
  show(Dm (ks G n H1 h k) _).get b=_
  rw[aaJ,pw,yX G n H1 h k b]
  by_cases J:b<h.n
  · rw[if_neg (by omega),if_pos J,if_pos J]
  · rw[if_neg J,if_neg J]
    by_cases ae:b=h.n+k
    · subst ae
      rw[if_pos rfl,if_pos (by omega),Nat.add_sub_cancel_left]
    · rw[if_neg ae]
      by_cases aq:b<h.n+k
      · rw[if_pos aq,if_pos (by omega)]
      · rw[if_neg aq,if_neg (by omega)]
def GL:List ga->List ga->Bool
 |[],[]=>true
 |a::l,b::m=>aa.beq a.key b.key&&aa.beq a.val b.val&&Nat.beq a.born b.born&&GL l m
 |_,_=>false
theorem Rl:∀(l m:List ga),GL l m=true->l=m
 |[],[],_=>rfl
 |⟨k,v,n⟩::l,⟨k',v',Fx⟩::m,h=>by
  simp only[GL,Bool.and_eq_true] at h
  obtain⟨⟨⟨J,ae⟩,aq⟩,aQ⟩:=h
  have aG:k=k':=beq_eq _ _ J
  have aE:v=v':=beq_eq _ _ ae
  have br:n=Fx:=Nat.eq_of_beq_eq_true aq
  rw[Rl l m aQ,aG,aE,br]
def ff.code:ff->Nat
 |.own=>0|.aX=>1|.ro=>2|.fz=>3
theorem ff.aaK{a b:ff}(h:a.code=b.code):a=b:=by cases a<;>cases b<;>first|rfl|(simp[ff.code] at h)
def tM:Option b5->Option b5->Bool
 |some (.cells a el k lo hi),some (.cells b r_ k' vZ e5)=>aa.o5 a b&&Nat.beq el r_&&Nat.beq k.code k'.code&&Nat.beq lo vZ&&Nat.beq hi e5
 |some (.map a c),some (.map b c')=>GL a b&&Nat.beq c c'
 |some (.cells ..),_=>false
 |some (.map ..),_=>false
 |_,some (.cells ..)=>false
 |_,some (.map ..)=>false
 |_,_=>true
theorem Rm(G n:Nat){a b:Option b5}(h:tM a b=true):a.bind (oE G n)=b.bind (oE G n):=by
 cases a with
 |none=>cases b with
  |none=>rfl
  |some y=>cases y<;>first|rfl|(simp[tM] at h)
 |some x=>cases b with
  |none=>cases x<;>first|rfl|(simp[tM] at h)
  |some y=>
   cases x<;>cases y<;>first
    |rfl
    |(simp[tM] at h;done)
    |(simp only[tM,Bool.and_eq_true] at h
      obtain⟨⟨⟨⟨J,ae⟩,aq⟩,aQ⟩,bj⟩:=h
      rw[wx _ _ J,Nat.eq_of_beq_eq_true ae,ff.aaK (Nat.eq_of_beq_eq_true aq),Nat.eq_of_beq_eq_true aQ,Nat.eq_of_beq_eq_true bj])
    |(simp only[tM,Bool.and_eq_true] at h
      rw[Rl _ _ h.1,Nat.eq_of_beq_eq_true h.2])
def yY(G:Nat)(H a7:I):Nat->Bool
 |0=>true
 |k+1=>match tM (H.get (G+k)) (a7.get (G+k)) with
  |true=>yY G H a7 k
  |false=>false
theorem Rn{G:Nat}{H a7:I}:∀{k:Nat},yY G H a7 k=true->∀j,j<k->tM (H.get (G+j)) (a7.get (G+j))=true
 |0,_,j,aL=>by omega
 |k+1,h,j,aL=>by
  simp only[yY] at h
  split at h
  · rename_i J
    rcases Nat.lt_or_ge j k with ae|ae
    · exact Rn h j ae
    · obtain rfl:j=k:=by omega
      exact J
  · cases h
theorem Ro{G n:Nat}{H a7:I}(h0:I):∀{k:Nat},yY G H a7 k=true->ks G n H h0 k=ks G n a7 h0 k
 |0,_=>rfl
 |k+1,h=>by
  have J:=Rn h k (by omega)
  have ae:yY G H a7 k=true:=by
   simp only[yY,J] at h;exact h
  show Dm _ _=Dm _ _
  rw[Ro h0 ae,Rm G n J]
def Rp(G:Nat):a8->a8->Bool
 |.ret v H,.ret v' a7=>aa.beq v v'&&Nat.beq H.n a7.n&&yY G H a7 (H.n-G)
 |_,_=>false
structure sw where
 f:Nat
 args:List aa
 r:a8
def sx(G:Nat)(bl:List g2):List sw->Nat->List aa->I->Option (aa×I)
 |[],_,_,_=>none
 |e::T,f,args,h=>match Nat.beq f e.f with
  |true=>match aa.o5 args e.args with
   |true=>match gH h bl with
    |true=>match e.r with
     |.ret v H=>some (ln G h.n v,ks G h.n H h (H.n-G))
     |_=>none
    |false=>none
   |false=>sx G bl T f args h
  |false=>sx G bl T f args h
theorem KY{G:Nat}{bl:List g2}:∀{T:List sw} {f:Nat} {args:List aa} {h:I} {v:aa} {ay:I},sx G bl T f args h=some (v,ay)->gH h bl=true/\∃e∈T,e.f=f/\e.args=args/\∃v0 k6,e.r=.ret v0 k6/\v=ln G h.n v0/\ay=ks G h.n k6 h (k6.n-G)
 |[],_,_,_,_,_,ab=>by cases ab
 |e::T,f,args,h,v,ay,ab=>by
  simp only[sx] at ab
  have rest:sx G bl T f args h=some (v,ay)->gH h bl=true/\∃b0∈e::T,b0.f=f/\b0.args=args/\∃v0 k6,b0.r=.ret v0 k6/\v=ln G h.n v0/\ay=ks G h.n k6 h (k6.n-G):=λab=>by
   obtain⟨h0,b0,J,ae⟩:=KY ab
   exact⟨h0,b0,List.mem_cons_of_mem _ J,ae⟩
  split at ab
  · rename_i aM
    split at ab
    · rename_i a_
      split at ab
      · rename_i aI
        split at ab
        · rename_i v0 k6 aj
          cases ab
          exact⟨aI,e,by simp,(Nat.eq_of_beq_eq_true aM).symm,(wx _ _ a_).symm,v0,k6,aj,rfl,rfl⟩
        · cases ab
      · cases ab
    · exact rest ab
  · exact rest ab
section
variable {P:Program}
def Rq(P:Program)(bl:List g2)(e:sw):Prop:=∃(intr:Nat->List aa->I->Option (aa×I)) (n:Nat),kJ P intr/\l3 e.args=true/\∀els,Rp P.globals.size (eA P intr n (.fn e.f) e.args (kr P.globals.size els bl [])) e.r=true
theorem aaL(aM:Fit P){bl:List g2}(jv:∀t∈bl,t.g<P.globals.size){T:List sw}(de:∀e∈T,Rq P bl e):kJ P (sx P.globals.size bl T):=by
 intro f args H v a7 ab μ w vs ar aB aW
 obtain⟨eF,e,he,rfl,rfl,v0,k6,aj,rfl,rfl⟩:=KY ab
 obtain⟨intr,n,hi,hJ,yV⟩:=de e he
 obtain⟨els,uN⟩:∃els:Nat->Nat,∀g,els g=match w.heap[g]? with|some (.cells _ el _)=>el|_=>0:=⟨_,λ_=>rfl⟩
 have ag:=yV els
 rw[aj] at ag
 unfold Rp at ag
 split at ag
 · rename_i v1 H1 v2 a4 dD ae
   cases ae
   simp only[Bool.and_eq_true] at ag
   obtain⟨⟨jH,en⟩,j5⟩:=ag
   have p_:=beq_eq _ _ jH
   subst p_
   have z4:H1.n=k6.n:=Nat.eq_of_beq_eq_true en
   have ts:ks P.globals.size H.n k6 H (k6.n-P.globals.size)=ks P.globals.size H.n H1 H (H1.n-P.globals.size):=by
    rw[<-z4];exact(Ro H j5).symm
   rw[ts]
   have nR:P.globals.size<=w.heap.size:=by
    cases bQ:P.globals.size with
    |zero=>exact Nat.zero_le _
    |succ g=>
     obtain⟨i,J,ae,aq⟩:=aB g (by omega)
     have:=(ar.lt _ i J).2
     omega
   have qp:∀t∈bl,t.g<P.globals.size/\tK w els t:=λt aI=>by
    refine⟨jv t aI,?_⟩
    obtain⟨el,eG⟩:=wX (tJ eF t aI)
    obtain⟨i,J,ae,aq⟩:=aB t.g (jv t aI)
    obtain⟨c,fr,fs,aO,aZ,bC,_⟩:=ar.rel _ _ i eG J
    rw[ae] at aO
    rw[aq] at aZ
    refine⟨c,(fr,fs),by rw[uN,aO],λj x aL=>?_⟩
    obtain⟨u,mz,my⟩:=aZ j _ (by rw[tL,aL];rfl)
    rw[Nat.zero_add] at mz
    rw[mz,my]
   obtain⟨s1,s2,c4⟩:=AW (P:=P) nR els bl qp [] (by simp)
   have hG:=(Aq aM hi n).fn e.f e.args (kr P.globals.size els bl []) (by rw[dD];rfl) _ w vs s1 s2 (tu _ _ hJ aW)
   rw[dD] at hG
   refine hG.mono λmA w' p2=>?_
   obtain⟨gy,u,rfl,aV,aU,bu⟩:=p2
   have hold:∀r,r<w.heap.size->w'.heap[r]? =w.heap[r]? :=(bu.below c4 s1).block
   obtain⟨a2,jj⟩:∃a2:bG,∀b,a2 b=if b<H.n then μ b else gy (b-H.n+P.globals.size):=⟨_,λ_=>rfl⟩
   have aaM:P.globals.size<=H1.n:=by
    have:=bu.n
    rw[(yU P.globals.size els bl [] λt aI=>jv t aI).1] at this
    simpa using this
   have hle:fE μ a2:=λb i ag=>by rw[jj,if_pos (ar.lt b i ag).1];exact ag
   have Dn:∀b i,¬b<P.globals.size->gy b=some i->a2 (b-P.globals.size+H.n)=some i:=λb i ag J=>by
    rw[jj,if_neg (by omega)]
    have aG:b-P.globals.size+H.n-H.n+P.globals.size=b:=by omega
    rw[aG];exact J
   have i_:∀b i,¬b<H.n->a2 b=some i->gy (b-H.n+P.globals.size)=some i/\b<H.n+(H1.n-P.globals.size)/\w.heap.size<=i.bo:=λb i ag J=>by
    rw[jj,if_neg ag] at J
    have ae:=aU.lt _ i J
    refine⟨J,by omega,?_⟩
    have hm:l9 P.globals.size (rq w) (([]:List (gx×List aa×Nat)).map (·.1)) (b-H.n+P.globals.size)=none:=by
     unfold l9;rw[if_neg (by omega)];rfl
    rcases(bu.new _ i hm J).2 with aq|⟨c,o,j,aq,aQ,_⟩
    · exact aq
    · have:=c4 c o aq;rw[aQ] at this;cases this
   have eG:∀b,(ks P.globals.size H.n H1 H (H1.n-P.globals.size)).get b=if b<H.n then H.get b else if b<H.n+(H1.n-P.globals.size) then(H1.get (P.globals.size+(b-H.n))).bind (oE P.globals.size H.n) else H.get b:=yX _ _ _ _ _
   have rr:∀b o,¬b<H.n->(ks P.globals.size H.n H1 H (H1.n-P.globals.size)).get b=some o->∃e2,H1.get (b-H.n+P.globals.size)=some e2/\oE P.globals.size H.n e2=some o:=λb o ag J=>by
    rw[eG,if_neg ag] at J
    split at J
    · rw[Nat.add_comm] at J
      cases ab:H1.get (b-H.n+P.globals.size) with
      |none=>rw[ab] at J;cases J
      |some e2=>rw[ab] at J;exact⟨e2,rfl,J⟩
    · rw[ar.bound b (by omega)] at J;cases J
   refine⟨a2,u,rfl,yW Dn _ _ aV,⟨λb o i ag hi=>?_,λb c i j ag ak hi aL p8=>?_,λb i hi=>?_,λb ag=>?_⟩,?_⟩
   · by_cases J:b<H.n
     · rw[eG,if_pos J] at ag
       rw[jj,if_pos J] at hi
       exact(ar.rel b o i ag hi).mono hle (hold _ (ar.lt b i hi).2)
     · obtain⟨e2,ae,aq⟩:=rr b o J ag
       exact Rj Dn aq (aU.rel _ e2 i ae (i_ b i J hi).1)
   · obtain⟨l0,ak,hx⟩:=ak
     by_cases J:b<H.n
     · rw[eG,if_pos J] at ag
       rw[jj,if_pos J] at hi
       by_cases ae:c<H.n
       · rw[eG,if_pos ae] at ak
         rw[jj,if_pos ae] at aL
         exact ar.inj b c i j ag ⟨l0,ak,hx⟩ hi aL p8
       · have q:=(i_ c j ae aL).2.2
         have:=(ar.lt b i hi).2
         omega
     · have q:=(i_ b i J hi)
       by_cases ae:c<H.n
       · rw[jj,if_pos ae] at aL
         have:=(ar.lt c j aL).2
         have:=q.2.2
         omega
       · obtain⟨e2,aO,aZ⟩:=rr c l0 ae ak
         have iZ:H1.get (b-H.n+P.globals.size)≠none:=λab=>by
          cases bH:(ks P.globals.size H.n H1 H (H1.n-P.globals.size)).get b with
          |none=>exact ag bH
          |some ob=>obtain⟨eh,bC,_⟩:=rr b ob J bH;rw[ab] at bC;cases bC
         have:=aU.inj _ _ i j iZ ⟨e2,aO,by rw[<-Rk aZ];exact hx⟩ q.1 (i_ c j ae aL).1 p8
         omega
   · by_cases J:b<H.n
     · rw[jj,if_pos J] at hi
       exact⟨by rw[pw];omega,Nat.lt_of_lt_of_le (ar.lt b i hi).2 bu.size⟩
     · have q:=i_ b i J hi
       exact⟨by rw[pw];exact q.2.1,(aU.lt _ i q.1).2⟩
   · rw[pw] at ag
     rw[eG,if_neg (by omega),if_neg (by omega)]
     exact ar.bound b (by omega)
   · refine⟨hle,bu.size,by rw[pw];omega,λb ag aA=>?_,λb ag _=>?_,λr aj _=>hold r aj,λb i J ae=>?_,λb o i ag _ hi=>?_,bu.os,bu.out,bu.tape,bu.drawn⟩
     · rw[eG,if_pos ag] at aA;exact aA
     · rw[eG,if_pos ag]
     · have ag:¬b<H.n:=λag=>by rw[jj,if_pos ag,J] at ae;cases ae
       exact⟨by omega,.inl (i_ b i ag ae).2.2⟩
     · refine⟨?_,hold _ (ar.lt b i hi).2⟩
       rw[eG,if_pos (ar.lt b i hi).1];exact ag
 · cases ag
def oF(i1 i2:Nat->List aa->I->Option (aa×I))(f:Nat)(args:List aa)(h:I):Option (aa×I):=match i1 f args h with
 |some r=>some r
 |none=>i2 f args h
theorem wY{i1 i2:Nat->List aa->I->Option (aa×I)}(J:kJ P i1)(ae:kJ P i2):kJ P (oF i1 i2):=by
 intro f args H v a7 ab
 unfold oF at ab
 split at ab
 · rename_i r aj
   cases ab
   exact J f args H v a7 aj
 · exact ae f args H v a7 ab
end
def wZ:List (Nat×Nat)->List Nat
 |[]=>[]
 |(a,b)::l=>a::b::wZ l
theorem Rr:∀(l:List (Nat×Nat)) (j:Nat),(wZ l)[2*j]? =(l[j]?).map (·.1)/\(wZ l)[2*j+1]? =(l[j]?).map (·.2)
 |[],j=>by simp[wZ]
 |(a,b)::l,0=>by simp[wZ]
 |(a,b)::l,j+1=>by
  have bM:=Rr l j
  rw[show 2*(j+1)=2*j+1+1 by omega]
  simp only[wZ,List.getElem?_cons_succ]
  exact bM
theorem aaN{P:Program}{W:World}{d:DataW Unit}{t N e fuel:Nat}{f0 f1:Field}{p:List MemPlace}(aI:P.underlying t=some (.array N e))(he:P.underlying e=some (.struct #[f0,f1]))(ak:P.cellsOf e=2)
  (h0:P.underlying f0.type=some (.int .u8))(J:P.underlying f1.type=some (.int .u8))(sy:P.cellsOf f0.type=1)(a9:P.cellsOf f1.type=1)(xK:f0.offset=0)(e2:f1.offset=1)
  (aB:P.globalNamed n=some g)(aW:W.var? P n=some cs)(aH:DataW.trod (λ_=>()) P W 0 (λ_=>true) false fuel t cs.toList=some (d,p))(xs:List (Nat×Nat))(ab:d=.agg (xs.map λx=>.agg [.lit (.int .u8 (Int.ofNat x.1)),.lit (.int .u8 (Int.ofNat x.2))])):
  tK W (sv W) ⟨g,wZ xs⟩:=by
 unfold World.var? at aW
 rw[aB,Option.bind_some] at aW
 split at aW
 · rename_i cq el fz ag
   cases aW
   refine⟨cs,fz,by unfold sv;rw[ag],λr x aj=>?_⟩
   obtain⟨fQ,m,_,ex,_,aA,jC⟩:=DataW.trod_array aI aH
   have br:(fQ.map (·.1))=xs.map λx=>.agg [.lit (.int .u8 (Int.ofNat x.1)),.lit (.int .u8 (Int.ofNat x.2))]:=by
    have:=(Prod.mk.inj ex).1
    rw[ab] at this
    exact(DataW.agg.inj this).symm
   have hlen:fQ.length=xs.length:=by simpa using congrArg List.length br
   have key:∀(j:Nat) (q:Nat×Nat),xs[j]? =some q->cs.toList[2*j]? =some (.int .u8 (Int.ofNat q.1))/\cs.toList[2*j+1]? =some (.int .u8 (Int.ofNat q.2)):=by
    intro j q bB
    have xR:j<xs.length:=(List.getElem?_eq_some_iff.1 bB).1
    have bO:=jC j (by omega)
    rw[ak,List.getElem?_eq_getElem (by omega)] at bO
    obtain⟨Rs,ej,x9,Dp,_,t0,t1⟩:=trod_struct2 he bO
    have dw:(fQ.map (·.1))[j]? =(xs.map λx=>(DataW.agg [.lit (.int .u8 (Int.ofNat x.1)),.lit (.int .u8 (Int.ofNat x.2))]:DataW Unit))[j]? :=by rw[br]
    rw[List.getElem?_map,List.getElem?_map,List.getElem?_eq_getElem (by omega:j<fQ.length),bB,Dp] at dw
    rw[xK,sy] at t0
    rw[e2,a9] at t1
    obtain⟨z3,c8,c9,_⟩:=DataW.trod_int h0 (show DataW.trod (λ_=>()) P W 0 (λ_=>true) false x9 f0.type _=some (Rs.1,Rs.2) from t0)
    obtain⟨cN,bd,b2,_⟩:=DataW.trod_int J (show DataW.trod (λ_=>()) P W 0 (λ_=>true) false x9 f1.type _=some (ej.1,ej.2) from t1)
    simp only[Option.map_some,Option.some.injEq,DataW.agg.injEq,List.cons.injEq] at dw
    obtain⟨nF,aO,_⟩:=dw
    rw[(Prod.mk.inj c9).1] at nF
    rw[(Prod.mk.inj b2).1] at aO
    have aaO:z3=Int.ofNat q.1:=by simpa using nF
    have aaP:cN=Int.ofNat q.2:=by simpa using aO
    subst aaO;subst aaP
    have KZ:(((cs.toList.drop (j*2)).take 2).drop 0|>.take 1)[0]? =some (.int .u8 (Int.ofNat q.1)):=by rw[c8];rfl
    have aV:(((cs.toList.drop (j*2)).take 2).drop 1|>.take 1)[0]? =some (.int .u8 (Int.ofNat q.2)):=by rw[bd];rfl
    rw[Nat.mul_comm] at KZ aV
    constructor
    · simpa using KZ
    · simpa using aV
   obtain⟨j,aL⟩:∃j,r=2*j\/r=2*j+1:=⟨r/2,by omega⟩
   have a3:=Rr xs j
   rcases aL with rfl|rfl
   · simp only at aj
     rw[a3.1] at aj
     cases bB:xs[j]? with
     |none=>rw[bB] at aj;cases aj
     |some q=>rw[bB] at aj;cases aj;simpa using(key j q bB).1
   · simp only at aj
     rw[a3.2] at aj
     cases bB:xs[j]? with
     |none=>rw[bB] at aj;cases aj
     |some q=>rw[bB] at aj;cases aj;simpa using(key j q bB).2
 · cases aW
def na(w:World)(os:Array Obj):World:={w with heap:=w.heap++os}
theorem Rt(w:World)(os:Array Obj){r:Nat}(h:r<w.heap.size):(na w os).heap[r]? =w.heap[r]? :=by
 show(w.heap++os)[r]? =_
 rw[Array.getElem?_append_left h]
theorem aaQ(w:World)(os:Array Obj):(na w os).heap.size=w.heap.size+os.size:=by show(w.heap++os).size=_;simp
theorem GM(w:World)(o:Obj):w.alloc o=na w #[o]:=by
 unfold World.alloc na;simp
theorem K0(w:World)(a b:Array Obj):na (na w a) b=na w (a++b):=by unfold na;simp
theorem bI.more(h:bI μ H w)(os:Array Obj):bI μ H (na w os)/\cD μ H w μ H (na w os):=by
 have hold:∀r,r<w.heap.size->(na w os).heap[r]? =w.heap[r]? :=λr aj=>Rt w os aj
 have bQ:=aaQ w os
 refine⟨⟨λb o i ag hi=>(h.rel b o i ag hi).mono (fE.refl μ) (hold _ (h.lt b i hi).2),h.inj,λb i hi=>⟨(h.lt b i hi).1,by have:=(h.lt b i hi).2;omega⟩,h.bound⟩,?_⟩
 exact⟨fE.refl μ,by omega,Nat.le_refl _,λ_ _ aA=>aA,λ_ _ _=>rfl,λr aj _=>hold r aj,λb i J ae=>(by rw[J] at ae;cases ae),λb o i ag _ hi=>⟨ag,hold _ (h.lt b i hi).2⟩,rfl,rfl,rfl,Nat.le_refl _⟩
def w1(rt mI qq:Nat):Option b5->Bool
 |some (.raw (.cells ⟨[.iface a (.agg ⟨[.pointer (some ⟨b,c,none⟩)]⟩)]⟩ _ _))=>Nat.beq a rt&&(Nat.beq b mI&&Nat.beq c qq)
 |_=>false
theorem Ru{rt mI qq:Nat}{o:Option b5}(h:w1 rt mI qq o=true):∃el fz,o=some (.raw (.cells #[.iface rt (.agg #[.pointer (some ⟨mI,qq,none⟩)])] el fz)):=by
 unfold w1 at h
 split at h
 · rename_i a b c el fz
   simp only[Bool.and_eq_true] at h
   obtain⟨J,ae,aq⟩:=h
   have aG:=Nat.eq_of_beq_eq_true J
   have aE:=Nat.eq_of_beq_eq_true ae
   have br:=Nat.eq_of_beq_eq_true aq
   subst aG;subst aE;subst br
   exact⟨el,fz,rfl⟩
 · cases h
structure sA where
 AX:Nat
 AY:Nat
 GN:Nat
 Rv:Nat
 Rw:Nat
 g:Nat
 rt:Nat
 mI:Nat
 qq:Nat
def Dq(N:sA)(f:Nat)(args:List aa)(H:I):Option (aa×I):=match Nat.beq f N.AX with
 |false=>none
 |true=>match args with
  |[.iface t1 (.ptr e qs),.iface t2 (.ptr p 0)]=>match Nat.beq t1 N.GN&&(Nat.beq t2 N.Rv&&w1 N.rt N.mI N.qq (H.get N.g)) with
   |true=>match H.get p with
    |some (.cells [_] el .own 0 0)=>some (.bool true,H.set p (some (.cells [.ptr e qs] el .own 0 0)))
    |_=>none
   |false=>none
  |_=>none
def Dr(N:sA)(f:Nat)(args:List aa)(H:I):Option (aa×I):=match Nat.beq f N.AY with
 |false=>none
 |true=>match args with
  |[.iface t1 (.ptr e qs),.iface t2 (.int .i64 k)]=>match Nat.beq t1 N.GN&&Nat.beq t2 N.Rw with
   |true=>match aC H e qs with
    |some (.int .i64 k')=>match jM k k' with
     |true=>some (.bool true,H)
     |false=>none
    |_=>none
   |false=>none
  |_=>none
structure K1(P:Program)(N:sA):Prop where
 g:N.g<P.globals.size
 Rx:∀args w,(callFunc N.AX args).run P w=.ok (.enter N.AX args) w
 Ry:∀args w,(callFunc N.AY args).run P w=.ok (.enter N.AY args) w
 Rz:∀(e t:Addr) (old:Value) (w:World),w.cell? ⟨N.g,0,none⟩=some (.iface N.rt (.agg #[.pointer (some ⟨N.mI,N.qq,none⟩)]))->w.cell? t=some old->w.frozen? t=false->
  Calls P N.AX #[.iface N.GN (.pointer (some e)),.iface N.Rv (.pointer (some t))] w λiy w'=>iy=.returned (.bool true)/\∃os,w'=(na w os).setCell t (.pointer (some e))
 RA:∀(a:Addr) (k:Int) (w:World),w.cell? a=some (.int .i64 k)->Calls P N.AY #[.iface N.GN (.pointer (some a)),.iface N.Rw (.int .i64 k)] w λe w'=>e=.returned (.bool true)/\w'=w
theorem K2{P:Program}{N:sA}(eo:K1 P N):kJ P (Dq N):=by
 intro f args H v a7 ab μ w vs ar nR aW
 unfold Dq at ab
 cases ag:Nat.beq f N.AX with
 |false=>rw[ag] at ab;cases ab
 |true=>
  rw[ag] at ab
  have Ds:f=N.AX:=Nat.eq_of_beq_eq_true ag
  subst Ds
  simp only at ab
  split at ab
  · rename_i t1 e qs t2 p
    split at ab
    · rename_i ak
      simp only[Bool.and_eq_true] at ak
      obtain⟨po,mC,he⟩:=ak
      have aG:=Nat.eq_of_beq_eq_true po
      have aE:=Nat.eq_of_beq_eq_true mC
      subst aG;subst aE
      obtain⟨K3,K4,aB⟩:=Ru he
      split at ab
      · rename_i x el a3
        cases ab
        obtain⟨v1,bt,rfl,⟨ej,rfl,nS,yZ,rfl⟩,v2,b3,rfl,⟨gl,rfl,ip,K5,rfl⟩,rfl⟩:=aW
        obtain⟨alF,aaR,aV,aU⟩:=nR N.g eo.g
        obtain⟨_,iv⟩:=ar.rel _ _ _ aB aaR
        rw[aV] at iv
        have uw:w.cell? ⟨N.g,0,none⟩=some (.iface N.rt (.agg #[.pointer (some ⟨N.mI,N.qq,none⟩)])):=by
         unfold World.cell?
         simp only[iv]
         rfl
        have aaS:=ar.rel _ _ _ a3 K5
        obtain⟨c,fr,fs,J,ae,aq,aO,aZ,bC,cX⟩:=aaS
        have alG:ip.size=1:=aZ
        obtain⟨u,hu,_⟩:=ae 0 x rfl
        have ru:w.cell? ⟨ip.bo,ip.base+0,none⟩=some u:=(B1 J _).trans hu
        have K6:w.frozen? ⟨ip.bo,ip.base+0,none⟩=false:=by
         unfold World.frozen?
         simp only[J,bC,cX]
         simp
        refine .inr ⟨eo.Rx _ _,(eo.Rz ⟨nS.bo,nS.base+qs,none⟩ ⟨ip.bo,ip.base+0,none⟩ u w uw ru K6).mono λiy w' ⟨g_,os,hw⟩=>?_⟩
        subst g_
        obtain⟨cR,gg⟩:=ar.more os
        have sB:=(ar.lt p ip K5).2
        have l5:(na w os).heap[ip.bo]? =some (.cells c el (fr,fs)):=(Rt w os sB).trans J
        have ah:∀r,r≠ip.bo->((na w os).setCell ⟨ip.bo,ip.base+0,none⟩ (.pointer (some ⟨nS.bo,nS.base+qs,none⟩))).heap[r]? =(na w os).heap[r]? :=by
         intro r aj
         unfold World.setCell
         simp only[Array.getElem?_modify]
         rw[if_neg (λe=>aj e.symm)]
        have hH:((na w os).setCell ⟨ip.bo,ip.base+0,none⟩ (.pointer (some ⟨nS.bo,nS.base+qs,none⟩))).heap[ip.bo]? =some (.cells (c.setIfInBounds (ip.base+0) (.pointer (some ⟨nS.bo,nS.base+qs,none⟩))) el (fr,fs)):=by
         unfold World.setCell
         simp only[Array.getElem?_modify,l5,if_true,Option.map_some]
         simp
        obtain⟨fF,g9⟩:=bI.update (o':=.cells [.ptr e qs] el .own 0 0) cR a3 rfl K5 (w':=(na w os).setCell ⟨ip.bo,ip.base+0,none⟩ (.pointer (some ⟨nS.bo,nS.base+qs,none⟩))) (by unfold World.setCell;simp) ah rfl rfl rfl
         ⟨_,fr,fs,hH,λj v aL=>by
           match j,aL with
           |0,aL=>
            cases aL
            refine⟨_,?_,⟨nS,yZ,rfl⟩⟩
            rw[Array.getElem?_setIfInBounds_self_of_lt (by omega)],by simp;omega,aO,aZ,bC,cX⟩
        subst hw
        exact⟨μ,.bool true,rfl,rfl,fF,gg.trans ar cR g9⟩
      · cases ab
    · cases ab
  · cases ab
theorem K7{P:Program}{N:sA}(eo:K1 P N):kJ P (Dr N):=by
 intro f args H v a7 ab μ w vs ar nR aW
 unfold Dr at ab
 cases ag:Nat.beq f N.AY with
 |false=>rw[ag] at ab;cases ab
 |true=>
  rw[ag] at ab
  have Ds:f=N.AY:=Nat.eq_of_beq_eq_true ag
  subst Ds
  simp only at ab
  split at ab
  · rename_i t1 e qs t2 k
    split at ab
    · rename_i ak
      simp only[Bool.and_eq_true] at ak
      obtain⟨po,mC⟩:=ak
      have aG:=Nat.eq_of_beq_eq_true po
      have aE:=Nat.eq_of_beq_eq_true mC
      subst aG;subst aE
      split at ab
      · rename_i k' aA
        split at ab
        · rename_i ai
          cases ab
          have tq:k=k':=by simpa[jM] using ai
          subst tq
          obtain⟨v1,bt,rfl,⟨ej,rfl,nS,yZ,rfl⟩,v2,b3,rfl,⟨gl,rfl,rfl⟩,rfl⟩:=aW
          have hT:∃u,w.cell? ⟨nS.bo,nS.base+qs,none⟩=some u/\bq μ (.int .i64 k) u:=by
           unfold aC at aA
           split at aA
           · rename_i cs el d_ lo e5 aaT
             rw[j0] at aA
             exact IG ar yZ aaT aA
           · cases aA
          obtain⟨u,hu,CK⟩:=hT
          have:u=.int .i64 k:=CK
          subst this
          refine .inr ⟨eo.Ry _ _,(eo.RA ⟨nS.bo,nS.base+qs,none⟩ k w ?_).mono λiy w' ⟨g_,hw⟩=>?_⟩
          · first|exact hu|exact hu.1
          · subst g_;subst hw
            exact⟨μ,.bool true,rfl,rfl,ar,cD.refl _ _ _⟩
        · cases ab
      · cases ab
    · cases ab
  · cases ab
theorem bI.RB(ar:bI μ H w)(hx:yl H){i:gx}{o:Obj}(hi:μ g=some i)(h0:i.base=0)(iv:w.heap[i.bo]? =some o):
  bI μ (H.set g (some (.raw o))) w/\yl (H.set g (some (.raw o))):=by
 have Fg:yl (H.set g (some (.raw o))):=λb x ag=>by
  rw[I.fk] at ag
  by_cases e:b=g
  · rw[if_pos e] at ag;cases ag;rfl
  · rw[if_neg e] at ag;exact hx b x ag
 refine⟨⟨λb x j ag aL=>?_,λb c j k ag ak=>?_,λb j aL=>?_,λb ag=>?_⟩,Fg⟩
 · rw[I.fk] at ag
   by_cases e:b=g
   · subst e
     rw[if_pos rfl] at ag;cases ag
     rw[hi] at aL;cases aL
     exact⟨h0,iv⟩
   · rw[if_neg e] at ag;exact ar.rel b x j ag aL
 · obtain⟨x,ab,aj⟩:=ak
   have:=Fg c x ab
   rw[this] at aj;cases aj
 · have:=ar.lt b j aL
   exact⟨by simpa using this.1,this.2⟩
 · rw[I.fk,if_neg]
   · exact ar.bound b (by simpa using ag)
   · intro e;subst e
     have:=(ar.lt b i hi).1
     simp at ag;omega
theorem aaU{P:Program}{w0:World}{laid:List (String×DataW Unit)}(args:Array Value)
  (aM:w0.layFits P laid []=true)(hi:w0.layIfaces P laid (w0.layVars P laid)=true):
  laidMet P laid ((w0.layVars P laid).forCall (λ_ _=>0) ⟨#[],args,[]⟩).memory:=by
 have aG:(laid.filter λx=>(laid.map (·.1)).contains x.1)=laid:=List.filter_eq_self.2 λx ab=>List.contains_iff_mem.2 (List.mem_map.2 ⟨x,ab,rfl⟩)
 have aE:(laid.filter λx=>!(laid.map (·.1)).contains x.1)=[]:=List.filter_eq_nil_iff.2 λx ab=>by rw[List.contains_iff_mem.2 (List.mem_map.2 ⟨x,ab,rfl⟩)];simp
 have h:laidMet P laid (w0.layVars P laid):=laidMet_layVars (w0:=w0) (laid.map (·.1)) [] (by rw[aG]) (by rw[aG];exact aM) (by rw[aG];exact hi) (by rw[aE];exact LaidIn.none)
 exact h.of_heap (by simp[World.memory,World.forCall,Input.heap])
theorem aaV{P:Program}{W:World}(aB:P.globalNamed n=some g)(aW:W.var? P n=some cs):∃el fz,W.heap[g]? =some (.cells cs el fz):=by
 unfold World.var? at aW
 rw[aB,Option.bind_some] at aW
 split at aW
 · rename_i cq el fz ag
   cases aW
   exact⟨el,fz,ag⟩
 · cases aW
def Dt(G:Nat)(H a7:I):Nat->Bool
 |0=>true
 |k+1=>match a7.get (G+k) with
  |none=>Dt G H a7 k
  |some o=>match tM (some o) (H.get (G+k)) with
   |true=>Dt G H a7 k
   |false=>false
theorem K8{G:Nat}{H a7:I}:∀{k:Nat},Dt G H a7 k=true->∀j,j<k->∀o,a7.get (G+j)=some o->tM (some o) (H.get (G+j))=true
 |0,_,j,aL,_,_=>by omega
 |k+1,h,j,aL,o,bg=>by
  simp only[Dt] at h
  rcases Nat.lt_or_ge j k with ae|ae
  · split at h
    · exact K8 h j ae o bg
    · split at h
      · exact K8 h j ae o bg
      · cases h
  · obtain rfl:j=k:=by omega
    rw[bg] at h
    simp only at h
    split at h
    · rename_i J;exact J
    · cases h
def RC(G:Nat):a8->a8->Bool
 |.ret v H,.ret v' a7=>aa.beq v v'&&Nat.beq H.n a7.n&&Dt G H a7 (H.n-G)
 |_,_=>false
def GO(n:Nat):List (Nat×b5)->I
 |[]=>xH n
 |(b,o)::l=>(GO n l).set b (some o)
section
variable {P:Program}
def Du(P:Program)(bl:List g2)(e:sw):Prop:=∃(intr:Nat->List aa->I->Option (aa×I)) (n:Nat),kJ P intr/\l3 e.args=true/\∀els,RC P.globals.size (eA P intr n (.fn e.f) e.args (kr P.globals.size els bl [])) e.r=true
theorem aaW(aM:Fit P){bl:List g2}(jv:∀t∈bl,t.g<P.globals.size){T:List sw}(de:∀e∈T,Du P bl e):kJ P (sx P.globals.size bl T):=by
 intro f args H v a7 ab μ w vs ar aB aW
 obtain⟨eF,e,he,rfl,rfl,v0,k6,aj,rfl,rfl⟩:=KY ab
 obtain⟨intr,n,hi,hJ,yV⟩:=de e he
 obtain⟨els,uN⟩:∃els:Nat->Nat,∀g,els g=match w.heap[g]? with|some (.cells _ el _)=>el|_=>0:=⟨_,λ_=>rfl⟩
 have ag:=yV els
 rw[aj] at ag
 unfold RC at ag
 split at ag
 · rename_i v1 H1 v2 a4 dD ae
   cases ae
   simp only[Bool.and_eq_true] at ag
   obtain⟨⟨jH,en⟩,j5⟩:=ag
   have p_:=beq_eq _ _ jH
   subst p_
   have z4:H1.n=k6.n:=Nat.eq_of_beq_eq_true en
   rw[<-z4]
   have nR:P.globals.size<=w.heap.size:=by
    cases bQ:P.globals.size with
    |zero=>exact Nat.zero_le _
    |succ g=>
     obtain⟨i,J,ae,aq⟩:=aB g (by omega)
     have:=(ar.lt _ i J).2
     omega
   have qp:∀t∈bl,t.g<P.globals.size/\tK w els t:=λt aI=>by
    refine⟨jv t aI,?_⟩
    obtain⟨el,eG⟩:=wX (tJ eF t aI)
    obtain⟨i,J,ae,aq⟩:=aB t.g (jv t aI)
    obtain⟨c,fr,fs,aO,aZ,bC,_⟩:=ar.rel _ _ i eG J
    rw[ae] at aO
    rw[aq] at aZ
    refine⟨c,(fr,fs),by rw[uN,aO],λj x aL=>?_⟩
    obtain⟨u,mz,my⟩:=aZ j _ (by rw[tL,aL];rfl)
    rw[Nat.zero_add] at mz
    rw[mz,my]
   obtain⟨s1,s2,c4⟩:=AW (P:=P) nR els bl qp [] (by simp)
   have hG:=(Aq aM hi n).fn e.f e.args (kr P.globals.size els bl []) (by rw[dD];rfl) _ w vs s1 s2 (tu _ _ hJ aW)
   rw[dD] at hG
   refine hG.mono λmA w' p2=>?_
   obtain⟨gy,u,rfl,aV,aU,bu⟩:=p2
   have hold:∀r,r<w.heap.size->w'.heap[r]? =w.heap[r]? :=(bu.below c4 s1).block
   obtain⟨a2,jj⟩:∃a2:bG,∀b,a2 b=if b<H.n then μ b else gy (b-H.n+P.globals.size):=⟨_,λ_=>rfl⟩
   have aaM:P.globals.size<=H1.n:=by
    have:=bu.n
    rw[(yU P.globals.size els bl [] λt aI=>jv t aI).1] at this
    simpa using this
   have hle:fE μ a2:=λb i ag=>by rw[jj,if_pos (ar.lt b i ag).1];exact ag
   have Dn:∀b i,¬b<P.globals.size->gy b=some i->a2 (b-P.globals.size+H.n)=some i:=λb i ag J=>by
    rw[jj,if_neg (by omega)]
    have aG:b-P.globals.size+H.n-H.n+P.globals.size=b:=by omega
    rw[aG];exact J
   have i_:∀b i,¬b<H.n->a2 b=some i->gy (b-H.n+P.globals.size)=some i/\b<H.n+(H1.n-P.globals.size)/\w.heap.size<=i.bo:=λb i ag J=>by
    rw[jj,if_neg ag] at J
    have ae:=aU.lt _ i J
    refine⟨J,by omega,?_⟩
    have hm:l9 P.globals.size (rq w) (([]:List (gx×List aa×Nat)).map (·.1)) (b-H.n+P.globals.size)=none:=by
     unfold l9;rw[if_neg (by omega)];rfl
    rcases(bu.new _ i hm J).2 with aq|⟨c,o,j,aq,aQ,_⟩
    · exact aq
    · have:=c4 c o aq;rw[aQ] at this;cases this
   have eG:∀b,(ks P.globals.size H.n k6 H (H1.n-P.globals.size)).get b=if b<H.n then H.get b else if b<H.n+(H1.n-P.globals.size) then(k6.get (P.globals.size+(b-H.n))).bind (oE P.globals.size H.n) else H.get b:=yX _ _ _ _ _
   have rr:∀b o,¬b<H.n->(ks P.globals.size H.n k6 H (H1.n-P.globals.size)).get b=some o->∃e2,H1.get (b-H.n+P.globals.size)=some e2/\oE P.globals.size H.n e2=some o:=λb o ag J=>by
    rw[eG,if_neg ag] at J
    split at J
    · rename_i cf
      have aL:b-H.n<H1.n-P.globals.size:=by omega
      cases l1:k6.get (P.globals.size+(b-H.n)) with
      |none=>rw[l1] at J;cases J
      |some xK=>
       have bB:=Rm P.globals.size H.n (K8 j5 _ aL xK l1)
       rw[l1,bB] at J
       rw[Nat.add_comm] at J
       cases ab:H1.get (b-H.n+P.globals.size) with
       |none=>rw[ab] at J;cases J
       |some e2=>rw[ab] at J;exact⟨e2,rfl,J⟩
    · rw[ar.bound b (by omega)] at J;cases J
   refine⟨a2,u,rfl,yW Dn _ _ aV,⟨λb o i ag hi=>?_,λb c i j ag ak hi aL p8=>?_,λb i hi=>?_,λb ag=>?_⟩,?_⟩
   · by_cases J:b<H.n
     · rw[eG,if_pos J] at ag
       rw[jj,if_pos J] at hi
       exact(ar.rel b o i ag hi).mono hle (hold _ (ar.lt b i hi).2)
     · obtain⟨e2,ae,aq⟩:=rr b o J ag
       exact Rj Dn aq (aU.rel _ e2 i ae (i_ b i J hi).1)
   · obtain⟨l0,ak,hx⟩:=ak
     by_cases J:b<H.n
     · rw[eG,if_pos J] at ag
       rw[jj,if_pos J] at hi
       by_cases ae:c<H.n
       · rw[eG,if_pos ae] at ak
         rw[jj,if_pos ae] at aL
         exact ar.inj b c i j ag ⟨l0,ak,hx⟩ hi aL p8
       · have q:=(i_ c j ae aL).2.2
         have:=(ar.lt b i hi).2
         omega
     · have q:=(i_ b i J hi)
       by_cases ae:c<H.n
       · rw[jj,if_pos ae] at aL
         have:=(ar.lt c j aL).2
         have:=q.2.2
         omega
       · obtain⟨e2,aO,aZ⟩:=rr c l0 ae ak
         have iZ:H1.get (b-H.n+P.globals.size)≠none:=λab=>by
          cases bH:(ks P.globals.size H.n k6 H (H1.n-P.globals.size)).get b with
          |none=>exact ag bH
          |some ob=>obtain⟨eh,bC,_⟩:=rr b ob J bH;rw[ab] at bC;cases bC
         have:=aU.inj _ _ i j iZ ⟨e2,aO,by rw[<-Rk aZ];exact hx⟩ q.1 (i_ c j ae aL).1 p8
         omega
   · by_cases J:b<H.n
     · rw[jj,if_pos J] at hi
       exact⟨by rw[pw];omega,Nat.lt_of_lt_of_le (ar.lt b i hi).2 bu.size⟩
     · have q:=i_ b i J hi
       exact⟨by rw[pw];exact q.2.1,(aU.lt _ i q.1).2⟩
   · rw[pw] at ag
     rw[eG,if_neg (by omega),if_neg (by omega)]
     exact ar.bound b (by omega)
   · refine⟨hle,bu.size,by rw[pw];omega,λb ag aA=>?_,λb ag _=>?_,λr aj _=>hold r aj,λb i J ae=>?_,λb o i ag _ hi=>?_,bu.os,bu.out,bu.tape,bu.drawn⟩
     · rw[eG,if_pos ag] at aA;exact aA
     · rw[eG,if_pos ag]
     · have ag:¬b<H.n:=λag=>by rw[jj,if_pos ag,J] at ae;cases ae
       exact⟨by omega,.inl (i_ b i ag ae).2.2⟩
     · refine⟨?_,hold _ (ar.lt b i hi).2⟩
       rw[eG,if_pos (ar.lt b i hi).1];exact ag
 · cases ag
end
def RD(G:Nat)(els:Nat->Nat)(bl:List g2)(N:sA)(el:Nat)(fz:Nat×Nat):I:=(kr G els bl []).set N.g (some (.raw (.cells #[.iface N.rt (.agg #[.pointer (some ⟨N.mI,N.qq,none⟩)])] el fz)))
def y0(bl:List g2)(N:sA)(T:List rh)(f:Nat)(args:List aa)(h:I):Option (aa×I):=
 match wE T f args h with
 |some r=>match gH h bl&&w1 N.rt N.mI N.qq (h.get N.g) with
  |true=>some r
  |false=>none
 |none=>none
def RE(P:Program)(els:Nat->Nat)(bl:List g2)(N:sA)(el:Nat)(fz:Nat×Nat)(intr:Nat->List aa->I->Option (aa×I))(n:Nat)(e:rh):Bool:=
 match eA P intr n (.fn e.f) e.args (RD P.globals.size els bl N el fz) with
 |.ret v _=>aa.beq v e.v&&nI e.v&&l3 e.args
 |_=>false
def RF(P:Program)(bl:List g2)(N:sA)(e:rh):Prop:=∃(intr:Nat->List aa->I->Option (aa×I)) (n:Nat),kJ P intr/\∀els el fz,RE P els bl N el fz intr n e=true
section
variable {P:Program}
theorem aaX(aM:Fit P){bl:List g2}(jv:∀t∈bl,t.g<P.globals.size){N:sA}(eo:N.g<P.globals.size){T:List rh}(de:∀e∈T,RF P bl N e):kJ P (y0 bl N T):=by
 intro f args H v a7 ab μ w vs ar aB aW
 unfold y0 at ab
 split at ab
 · rename_i r aj
   split at ab
   · rename_i aaY
     obtain⟨eF,aaZ⟩:=(Bool.and_eq_true _ _).mp aaY
     obtain⟨K3,K4,aa0⟩:=Ru aaZ
     cases ab
     obtain⟨rfl,e,he,rfl,rfl,rfl⟩:=JS T f args H v a7 aj
     obtain⟨intr,n,hi,yV⟩:=de e he
     obtain⟨els,uN⟩:∃els:Nat->Nat,∀g,els g=match w.heap[g]? with|some (.cells _ el _)=>el|_=>0:=⟨_,λ_=>rfl⟩
     have ag:=yV els K3 K4
     unfold RE at ag
     split at ag
     · rename_i v1 H1 dD
       simp only[Bool.and_eq_true] at ag
       obtain⟨⟨jH,en⟩,hJ⟩:=ag
       have p_:=beq_eq _ _ jH
       subst p_
       have nR:P.globals.size<=w.heap.size:=by
        cases bQ:P.globals.size with
        |zero=>exact Nat.zero_le _
        |succ g=>
         obtain⟨i,J,ae,aq⟩:=aB g (by omega)
         have:=(ar.lt _ i J).2
         omega
       have qp:∀t∈bl,t.g<P.globals.size/\tK w els t:=λt aI=>by
        refine⟨jv t aI,?_⟩
        obtain⟨el,eG⟩:=wX (tJ eF t aI)
        obtain⟨i,J,ae,aq⟩:=aB t.g (jv t aI)
        obtain⟨c,fr,fs,aO,aZ,bC,_⟩:=ar.rel _ _ i eG J
        rw[ae] at aO
        rw[aq] at aZ
        refine⟨c,(fr,fs),by rw[uN,aO],λj x aL=>?_⟩
        obtain⟨u,mz,my⟩:=aZ j _ (by rw[tL,aL];rfl)
        rw[Nat.zero_add] at mz
        rw[mz,my]
       obtain⟨tN,s2,aa1⟩:=AW (P:=P) nR els bl qp [] (by simp)
       obtain⟨i0,dt,dv,gD⟩:=aB N.g eo
       obtain⟨_,F5⟩:=ar.rel _ _ i0 aa0 dt
       obtain⟨i1,bt,b3,hj⟩:=s2 N.g eo
       obtain⟨s1,c4⟩:=tN.RB aa1 bt hj (by rw[b3];rw[dv] at F5;exact F5)
       have hG:=(Aq aM hi n).fn e.f e.args (RD P.globals.size els bl N K3 K4) (by rw[dD];rfl) _ w vs s1 s2 (tu _ _ hJ aW)
       rw[dD] at hG
       refine hG.mono λmA w' p2=>?_
       obtain⟨a2,u,rfl,aV,aU,bu⟩:=p2
       have hold:∀r,r<w.heap.size->w'.heap[r]? =w.heap[r]? :=(bu.below c4 s1).block
       refine⟨μ,u,rfl,CS _ _ en aV,⟨λb o i ag hi=>(ar.rel b o i ag hi).mono (fE.refl μ) (hold _ (ar.lt b i hi).2),ar.inj,λb i hi=>⟨(ar.lt b i hi).1,Nat.lt_of_lt_of_le (ar.lt b i hi).2 bu.size⟩,ar.bound⟩,?_⟩
       exact⟨fE.refl μ,bu.size,Nat.le_refl _,λ_ _ aA=>aA,λ_ _ _=>rfl,λr aj _=>hold r aj,(λb i J ae=>by rw[J] at ae;cases ae),λb o i ag _ hi=>⟨ag,hold _ (ar.lt b i hi).2⟩,bu.os,bu.out,bu.tape,bu.drawn⟩
     · cases ag
   · cases ab
 · cases ab
end
section
variable {P:Program}
end
section
variable {P:Program}
theorem aa2{a2:bG}:∀{cs:List aa} {c:Array Value} {base:Nat},l3 cs=true->BX μ cs c base->BX a2 cs c base:=λ{cs c base} h ak j v aL=>by
 obtain⟨u,J,ae⟩:=ak j v aL
 refine⟨u,J,?_⟩
 have gZ:∀(l:List aa) (k:Nat),l3 l=true->l[k]? =some v->nI v=true:=λl=>by
  induction l with
  |nil=>intro k _ ai;simp at ai
  |cons a l bM=>
   intro k aA ai
   simp only[l3,Bool.and_eq_true] at aA
   cases k with
   |zero=>simp at ai;subst ai;exact aA.1
   |succ k=>exact bM k aA.2 (by simpa using ai)
 exact CS _ _ (gZ cs j h aL) ae
theorem RG(aM:Fit P){bl:List g2}(jv:∀t∈bl,t.g<P.globals.size){intr:Nat->List aa->I->Option (aa×I)}(hi:kJ P intr){n f:Nat}{args:List aa}(je:l3 args=true)(v:Nat->aa){cs:List aa}{el:TypeId}{k:ff}{lo up:Nat}(lG:l3 cs=true)
  (CK:∀(gy a2:bG) (c d:Nat) (u:Value),a2 d=gy c->bq gy (v c) u->bq a2 (v d) u)
  (dD:∀els,∃c H1,eA P intr n (.fn f) args (kr P.globals.size els bl [])=.ret (v c) H1/\H1.get c=some (.cells cs el k lo up)/\P.globals.size<=c)
  (eF:gH H bl=true){vs:List Value}(ar:bI μ H w)(aB:j1 P μ)(aW:cF μ args vs):
  x4 P f vs w (Ends μ H w (.ret (v H.n) (H.push (.cells cs el k lo up)))):=by
 obtain⟨els,uN⟩:∃els:Nat->Nat,∀g,els g=match w.heap[g]? with|some (.cells _ el _)=>el|_=>0:=⟨_,λ_=>rfl⟩
 obtain⟨sy,H1,aj,aa3,alH⟩:=dD els
 have nR:P.globals.size<=w.heap.size:=by
  cases bQ:P.globals.size with
  |zero=>exact Nat.zero_le _
  |succ g=>
   obtain⟨i,J,ae,aq⟩:=aB g (by omega)
   have:=(ar.lt _ i J).2
   omega
 have qp:∀t∈bl,t.g<P.globals.size/\tK w els t:=λt aI=>by
  refine⟨jv t aI,?_⟩
  obtain⟨el,eG⟩:=wX (tJ eF t aI)
  obtain⟨i,J,ae,aq⟩:=aB t.g (jv t aI)
  obtain⟨c,fr,fs,aO,aZ,bC,_⟩:=ar.rel _ _ i eG J
  rw[ae] at aO
  rw[aq] at aZ
  refine⟨c,(fr,fs),by rw[uN,aO],λj x aL=>?_⟩
  obtain⟨u,mz,my⟩:=aZ j _ (by rw[tL,aL];rfl)
  rw[Nat.zero_add] at mz
  rw[mz,my]
 obtain⟨s1,s2,c4⟩:=AW (P:=P) nR els bl qp [] (by simp)
 have hG:=(Aq aM hi n).fn f args (kr P.globals.size els bl []) (by rw[aj];rfl) _ w vs s1 s2 (tu _ _ je aW)
 rw[aj] at hG
 refine hG.mono λmA w' p2=>?_
 obtain⟨gy,u,rfl,aV,aU,bu⟩:=p2
 have hold:∀r,r<w.heap.size->w'.heap[r]? =w.heap[r]? :=(bu.below c4 s1).block
 obtain⟨a2,jj⟩:∃a2:bG,∀b,a2 b=if b<H.n then μ b else if b=H.n then gy sy else none:=⟨_,λ_=>rfl⟩
 have hle:fE μ a2:=λb i ag=>by rw[jj,if_pos (ar.lt b i ag).1];exact ag
 have i_:∀b i,¬b<H.n->a2 b=some i->b=H.n/\gy sy=some i/\w.heap.size<=i.bo:=λb i ag J=>by
  rw[jj,if_neg ag] at J
  by_cases iC:b=H.n
  · rw[if_pos iC] at J
    refine⟨iC,J,?_⟩
    have hm:l9 P.globals.size (rq w) (([]:List (gx×List aa×Nat)).map (·.1)) sy=none:=by
     unfold l9;rw[if_neg (by omega)];rfl
    rcases(bu.new _ i hm J).2 with aq|⟨c,o,j,aq,aQ,_⟩
    · exact aq
    · have:=c4 c o aq;rw[aQ] at this;cases this
  · rw[if_neg iC] at J;cases J
 have eG:∀b,(H.push (.cells cs el k lo up)).get b=if b=H.n then some (.cells cs el k lo up) else H.get b:=λb=>by
  by_cases e:b=H.n
  · rw[if_pos e,e];exact fh.fk _ _ _ _ _ (Nat.lt_succ_self _)|>.trans (if_pos rfl)
  · rw[if_neg e];exact fh.fk _ _ _ _ _ (Nat.lt_succ_self _)|>.trans (if_neg e)
 have rr:(H.push (.cells cs el k lo up)).n=H.n+1:=rfl
 have dk:∀b,b<H.n->¬b=H.n:=λb h=>by omega
 refine⟨a2,u,rfl,CK gy a2 sy H.n u (by rw[jj,if_neg (by omega),if_pos rfl]) aV,⟨λb o i ag e5=>?_,λb c i j ag ak e5 aL p8=>?_,λb i e5=>?_,λb ag=>?_⟩,?_⟩
 · by_cases J:b<H.n
   · rw[eG,if_neg (dk b J)] at ag
     rw[jj,if_pos J] at e5
     exact(ar.rel b o i ag e5).mono hle (hold _ (ar.lt b i e5).2)
   · obtain⟨rfl,ae,_⟩:=i_ b i J e5
     rw[eG,if_pos rfl] at ag
     cases ag
     obtain⟨c,fr,fs,aO,aZ,bC⟩:=aU.rel sy _ i aa3 ae
     exact⟨c,fr,fs,aO,aa2 lG aZ,bC⟩
 · obtain⟨l0,ak,hx⟩:=ak
   by_cases J:b<H.n
   · rw[eG,if_neg (dk b J)] at ag
     rw[jj,if_pos J] at e5
     by_cases ae:c<H.n
     · rw[eG,if_neg (dk c ae)] at ak
       rw[jj,if_pos ae] at aL
       exact ar.inj b c i j ag ⟨l0,ak,hx⟩ e5 aL p8
     · have q:=(i_ c j ae aL).2.2
       have:=(ar.lt b i e5).2
       omega
   · have q:=i_ b i J e5
     by_cases ae:c<H.n
     · rw[jj,if_pos ae] at aL
       have:=(ar.lt c j aL).2
       have:=q.2.2
       omega
     · have bZ:=i_ c j ae aL
       rw[q.1,bZ.1]
 · by_cases J:b<H.n
   · rw[jj,if_pos J] at e5
     exact⟨by rw[rr];omega,Nat.lt_of_lt_of_le (ar.lt b i e5).2 bu.size⟩
   · have q:=i_ b i J e5
     exact⟨by rw[rr];omega,(aU.lt _ i q.2.1).2⟩
 · rw[rr] at ag
   rw[eG,if_neg (by omega)]
   exact ar.bound b (by omega)
 · refine⟨hle,bu.size,by rw[rr];omega,λb ag aA=>?_,λb ag _=>?_,λr aj _=>hold r aj,λb i J ae=>?_,λb o i ag _ e5=>?_,bu.os,bu.out,bu.tape,bu.drawn⟩
   · rw[eG,if_neg (dk b ag)] at aA;exact aA
   · rw[eG,if_neg (dk b ag)]
   · have ag:¬b<H.n:=λag=>by rw[jj,if_pos ag,J] at ae;cases ae
     exact⟨by omega,.inl (i_ b i ag ae).2.2⟩
   · refine⟨?_,hold _ (ar.lt b i e5).2⟩
     rw[eG,if_neg (dk b (ar.lt b i e5).1)];exact ag
end
section
variable {P:Program}
end
end aJ
