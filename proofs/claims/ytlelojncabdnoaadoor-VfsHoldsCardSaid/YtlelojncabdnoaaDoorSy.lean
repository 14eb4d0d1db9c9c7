/-
  PROVED HERE: contracts of functions (Sy). No condition beside each statement's own.
-/
import Derived.Test.YtlelojncabdnoaaDoorAed
import Derived.Test.YtlelojncabdnoaaDoorSxb
import Derived.Shelf.SlSortCmp.NoneTotal
set_option linter.unusedVariables false
set_option linter.unusedSimpArgs false
namespace aU
open Go Go.Sort Go.Proofs Go.Shelf
section
variable {D:Type}
def GK(enc:D->List I)(H:J)(b len:Nat)(x:List D×List I×Nat×e3):Prop:=
 H.get b=some (.cells (cw enc x.1++x.2.1) x.2.2.1 x.2.2.2 0 0)/\x.1.length=len/\(x.2.2.2=.own\/x.2.2.2=.aE)
open Classical in
noncomputable def vD(enc:D->List I)(srt:List D->List D)(fS g:Nat)(f:Nat)(args:List I)(H:J):Option (I×J):=match Nat.beq f fS with
 |false=>none
 |true=>match args with
  |[.slice b off len _,.fn cb [] []]=>
   if h:off=0/\cb=g/\0<len/\len<4611686018427387904/\∃x,GK enc H b len x then
    some (.aF [],H.set b (some (.cells (cw enc (srt h.2.2.2.2.choose.1)++h.2.2.2.2.choose.2.1) h.2.2.2.2.choose.2.2.1 h.2.2.2.2.choose.2.2.2 0 0)))
   else none
  |_=>none
theorem Oh{enc:D->List I}{srt:List D->List D}{w:Nat}(hw:∀d,(enc d).length=w)(ag:∀d d',enc d=enc d'->d=d'){fS g b len:Nat}{cap:cy}{H:J}{ds:List D}{rest:List I}{el:Nat}{k:e3}
  (ay:0<len)(h1:len<4611686018427387904)(aj:H.get b=some (.cells (cw enc ds++rest) el k 0 0))(aq:ds.length=len)(hk:k=.own\/k=.aE):
  vD enc srt fS g fS [.slice b 0 len cap,.fn g [] []] H=some (.aF [],H.set b (some (.cells (cw enc (srt ds)++rest) el k 0 0))):=by
 have ad:Nat.beq fS fS=true:=by simp
 have U:∃x,GK enc H b len x:=⟨(ds,rest,el,k),aj,aq,hk⟩
 unfold vD
 simp only[ad]
 rw[dif_pos ⟨rfl,rfl,ay,h1,U⟩]
 obtain⟨c1,c2,c3⟩:=U.choose_spec
 generalize U.choose=x at c1 c2 c3
 obtain⟨ig,Um,w7,gn⟩:=x
 simp only at c1 c2 c3
 rw[aj] at c1
 simp only[Option.some.injEq,b2.cells.injEq] at c1
 obtain⟨aw,ar,bn,_⟩:=c1
 obtain⟨rfl,rfl⟩:=FW hw ag _ _ _ _ (by omega) aw
 subst ar;subst bn;rfl
end
section
variable {P:Program} {μ:aW} {H:J}
theorem a8.grow{w:World}(h:a8 μ H w)(os:Array Obj):a8 μ H (Go.Sort.grow w os)/\bE μ H w μ H (Go.Sort.grow w os):=by
 have hold:∀r,r<w.heap.size->(Go.Sort.grow w os).heap[r]? =w.heap[r]? :=λr ah=>heap_grow_old w os ah
 refine⟨⟨λb o i ad ag=>(h.rel b o i ad ag).mono (dm.refl μ) (hold _ (h.lt b i ag).2),h.inj,λb i ag=>⟨(h.lt b i ag).1,by have:=(h.lt b i ag).2;simp;omega⟩,h.bound⟩,?_⟩
 exact⟨dm.refl μ,by simp,Nat.le_refl _,λ_ _ aq=>aq,λ_ _ _=>rfl,λr ah _=>hold r ah,λb i h1 aa=>(by rw[h1] at aa;cases aa),λb o i ad _ ag=>⟨ad,hold _ (h.lt b i ag).2⟩,rfl,rfl,rfl,Nat.le_refl _⟩
theorem grown_of{w w':World}(ae:w.heap.size<=w'.heap.size)(aN:∀r,r<w.heap.size->w'.heap[r]? =w.heap[r]?)(h1:w'.os=w.os)(aa:w'.output=w.output)(ao:w'.tape=w.tape)(aM:w.drawn<=w'.drawn):
  ∃q Oi,w'=Go.Sort.grow (w.drewN q) Oi:=by
 refine⟨w'.drawn-w.drawn,w'.heap.extract w.heap.size w'.heap.size,?_⟩
 have af:w'.heap=w.heap++w'.heap.extract w.heap.size w'.heap.size:=by
  apply Array.ext_getElem?
  intro k
  rw[Array.getElem?_append]
  by_cases hk:k<w.heap.size
  · rw[if_pos hk,aN k hk]
  · rw[if_neg hk,Array.getElem?_extract]
    by_cases bA:k<w'.heap.size
    · rw[if_pos (by omega)];congr 1;omega
    · rw[if_neg (by omega),Array.getElem?_eq_none (by omega)]
 have al:w'.drawn=w.drawn+(w'.drawn-w.drawn):=by omega
 cases w'
 simp only at h1 aa ao af al
 subst h1;subst aa;subst ao
 unfold Go.Sort.grow World.drewN
 simp only[<-al,<-af]
variable {D:Type} [Inhabited D] {ρ:Ren}
theorem Oj(hf:Fit P)(L:SlLaysF0.n6 P ρ){w:Nat}(yf:0<w)(Ol:∀W,(isAgg (ρ.t 24)).run P W=.ok true W)(Om:∀W,(Go.sizeOf (ρ.t 24)).run P W=.ok w W)
  {encA:D->List I}{encV:D->List Value}(eM:∀d,(encA d).length=w)(pk:∀d,(encV d).length=w)
  (On:∀(μ:aW) d (t:Nat) a u,(encA d)[t]? =some a->aS μ a u->(encV d)[t]? =some u)(nU:∀(μ:aW) d (t:Nat) a u,(encA d)[t]? =some a->(encV d)[t]? =some u->aS μ a u)
  (h1:∀d,∀v∈encV d,v.oneCell'=true)(h2:D->D->Int)(hO:SWO (ltOf h2))(mG:∀x y,(ltOf h2) x y=false->(ltOf h2) y x=false->x=y)
  {g:Nat}{B2:Func}{yC:Code}(aj:P.funcs[g]? =some B2)(kZ:B2.body=some yC)
  {intr:Nat->List I->J->Option (I×J)}(ag:gN P intr)(zH:∀x y,∃n ax,cu P intr n (.fn g) [.agg (encA x),.agg (encA y)] (lC P.globals.size)=.ret (.int .i64 (h2 x y)) ax):
  gN P (vD encA (λl=>l.mergeSort λx y=>!(ltOf h2) y x) (ρ.f 6) g):=by
 intro f args H v ax U μ W vs af lU aI
 unfold vD at U
 cases ad:Nat.beq f (ρ.f 6) with
 |false=>rw[ad] at U;cases U
 |true=>
  rw[ad] at U
  have vE:f=ρ.f 6:=Nat.eq_of_beq_eq_true ad
  subst vE
  simp only at U
  split at U
  · rename_i b off len cap cb
    split at U
    · rename_i ab
      cases U
      obtain⟨rfl,rfl,ay,bN,hex⟩:=ab
      obtain⟨aX,bx,db⟩:=hex.choose_spec
      generalize hex.choose=x at aX bx db
      obtain⟨ds,rest,el,k⟩:=x
      simp only at aX bx db⊢
      obtain⟨v1,GL,rfl,aK,v2,GM,rfl,a_,rfl⟩:=aI
      obtain⟨i,ft,kh⟩:=aK
      obtain⟨cp,rfl⟩:∃cp,v1=.slice (some ⟨i.aT,i.base,none⟩) len cp:=by
       cases cap with
       |exact c=>exact⟨c,kh⟩
       |aE e=>obtain⟨c,aw,_⟩:=kh;exact⟨c,aw⟩
       |dead=>exact absurd kh.1 (by omega)
      obtain⟨aP,cs,rfl,bO,kO⟩:=a_
      have Oo:aP=[]:=bO
      have Oq:cs=[]:=kO
      subst Oo;subst Oq
      obtain⟨c,ed,ee,dp,dD,l5,pK⟩:=af.rel b _ i aX ft
      have bg:ds.length*w<=i.size:=by
       have aq:=q5 eM ds
       rcases db with rfl|rfl
       · obtain⟨bl,a2,_⟩:=pK;rw[a2,List.length_append,aq];omega
       · obtain⟨bl,_⟩:=pK;rw[List.length_append,aq] at bl;omega
      have zo:∀j,j<ds.length*w->W.frozen? ⟨i.aT,i.base+j,none⟩=false:=λj aG=>by
       simp only[World.frozen?,dp]
       rcases db with rfl|rfl
       · obtain⟨bl,a2,a3,a4⟩:=pK
         subst a3;subst a4;simp
       · obtain⟨bl,a2⟩:=pK
         cases h1:decide (ed<=i.base+j) with
         |false=>rfl
         |true=>
          cases aa:decide (i.base+j<ee) with
          |false=>rfl
          |true=>
           have:=a2 j (by omega) (of_decide_eq_true h1) (of_decide_eq_true aa)
           omega
      have qe:∀j,j<ds.length*w->c[i.base+j]? =some (flatK encV w ds.toArray)[j]! :=λj aG=>by
       have vF:j/w<ds.length:=Nat.div_lt_of_lt_mul (by rw[Nat.mul_comm];exact aG)
       have hm:j %w<w:=Nat.mod_lt _ yf
       have fQ:(cw encA ds++rest)[j]? =(encA ds[j/w])[j %w]? :=by
        rw[List.getElem?_append_left (by rw[q5 eM];exact aG)]
        show(ds.flatMap encA)[j]? =_
        rw[sS eM,if_pos aG,List.getElem?_eq_getElem vF];rfl
       have hlen:j %w<(encA ds[j/w]).length:=by rw[eM];exact hm
       rw[List.getElem?_eq_getElem hlen] at fQ
       obtain⟨u,hu,ah⟩:=dD j _ fQ
       have:=On μ _ _ _ u (List.getElem?_eq_getElem hlen) ah
       rw[hu,get_flatK _ _ _ _ (by simpa using aG)]
       congr 1
       have ar:ds.toArray[j/w]! =ds[j/w]:=by rw[getElem!_pos _ _ (by simpa using vF)];simp
       rw[ar,List.getElem!_eq_getElem?_getD,this];rfl
      have hH:HoldsK encV w W i.aT i.base ds.toArray:=λj aG=>by
       rw[size_flatK] at aG
       have sb:j<ds.length*w:=by simpa using aG
       refine⟨?_,zo j sb⟩
       simp only[World.cell?,dp]
       exact qe j sb
      have hblk:=(af.lt b i ft).2
      have Un:P.globals.size<=W.heap.size:=by
       cases bg:P.globals.size with
       |zero=>exact Nat.zero_le _
       |succ Ot=>
        obtain⟨xL,aw,ar,bn⟩:=lU Ot (by omega)
        have:=(af.lt _ xL aw).2
        omega
      obtain⟨_,Ou⟩:=hf.code cb B2 yC aj kZ
      have Ov:∀args w,(callFunc cb args).run P w=.ok (.enter cb args) w:=λargs w=>uH aj kZ Ou args w
      have Ow:CmpLays P cb #[] encV w h2 i.aT i.base ds.toArray.size W:=λm os GN _ x y=>by
       obtain⟨n,ax,dw⟩:=zH x y
       have pf:P.globals.size<=(sortWorldK encV w W i.aT i.base m GN os).heap.size:=by
        have:(sortWorldK encV w W i.aT i.base m GN os).heap.size=W.heap.size+os.size:=by
         simp[sortWorldK,putRowK,putRow,mapBlock,Go.Sort.ahead]
        omega
       obtain⟨s1,s2,bw⟩:=AM (P:=P) pf
       have xO:∀z,bD (sF P.globals.size) (encA z) (encV z):=λz=>bD.r9 (by rw[eM,pk]) λj a aH=>by
        have aG:j<(encV z).length:=by rw[pk,<-eM z];exact(List.getElem?_eq_some_iff.1 aH).1
        exact⟨_,List.getElem?_eq_getElem aG,nU _ z j a _ aH (List.getElem?_eq_getElem aG)⟩
       refine(Ff hf ag aj kZ dw s1 s2 (vs:=[.agg ⟨encV x⟩,.agg ⟨encV y⟩]) ⟨_,_,rfl,⟨_,rfl,xO x⟩,_,_,rfl,⟨_,rfl,xO y⟩,rfl⟩).mono λe fF ⟨az,u,aw,ar,bn,cR⟩=>?_
       have B3:u=.int .i64 (h2 x y):=ar
       subst B3
       refine⟨aw,grown_of cR.size (λr ah=>cR.old r ah λb i aq=>absurd rfl aq) cR.os cR.out cR.tape cR.drawn⟩
      have key:=AnyQ.slices_SortFunc_total L w Ol Om encV pk h1 h2 hO cb #[] i.aT i.base cp ds.toArray W Ov Ow hH hblk (by simpa[bx] using bN) mG
      have B4:∀args w,(callFunc (ρ.f 6) args).run P w=.ok (.enter (ρ.f 6) args) w:=L.f6.enters rfl
      refine .inr ⟨B4 _ _,?_⟩
      have zz:ds.toArray.size=len:=by simpa using bx
      rw[zz] at key
      refine key.mono λe fF ⟨he,n,os,qO⟩=>?_
      obtain⟨d',lS⟩:∃d',d'=(ds.mergeSort λx y=>!(ltOf h2) y x):=⟨_,rfl⟩
      have o0:d'.length=ds.length:=by rw[lS,List.length_mergeSort]
      have zE:fF=Go.Sort.grow (putRowK encV w (Go.Sort.ahead W n) i.aT i.base d'.toArray) os:=by rw[qO,lS];rfl
      have rE:=q5 eM ds
      have kk:=q5 eM d'
      obtain⟨fh,gg⟩:=af.update (w':=putRowK encV w (Go.Sort.ahead W n) i.aT i.base d'.toArray) (o':=.cells (cw encA d'++rest) el k 0 0) aX (by rcases db with rfl|rfl<;>rfl) ft
       (by simp[putRowK,putRow,mapBlock,Go.Sort.ahead]) (λr ah=>by
        simp only[putRowK,putRow,mapBlock,Go.Sort.ahead,Array.getElem?_modify]
        rw[if_neg (λe=>ah e.symm)]) rfl rfl rfl
       ⟨Go.Sort.putCells id i.base (flatK encV w d'.toArray) c,ed,ee,by
        simp only[putRowK,putRow,mapBlock,Go.Sort.ahead,Array.getElem?_modify,if_true,dp,Option.map_some,onCells],λj a aG=>by
         simp only[Go.Sort.putCells,Array.getElem?_mapIdx,size_flatK,List.size_toArray]
         by_cases nT:j<d'.length*w
         · have vF:j/w<d'.length:=Nat.div_lt_of_lt_mul (by rw[Nat.mul_comm];exact nT)
           have hm:j %w<w:=Nat.mod_lt _ yf
           have fQ:(cw encA d'++rest)[j]? =(encA d'[j/w])[j %w]? :=by
            rw[List.getElem?_append_left (by rw[kk];exact nT)]
            show(d'.flatMap encA)[j]? =_
            rw[sS eM,if_pos nT,List.getElem?_eq_getElem vF];rfl
           rw[fQ] at aG
           have GO:j %w<(encV d'[j/w]).length:=by rw[pk];exact hm
           rw[qe j (by rw[<-o0];exact nT)]
           refine⟨(encV d'[j/w])[j %w],?_,nU μ _ _ _ _ aG (List.getElem?_eq_getElem GO)⟩
           simp only[Option.map_some]
           rw[if_pos ⟨by omega,by omega⟩,Nat.add_sub_cancel_left,get_flatK _ _ _ _ (by simpa using nT)]
           have ar:d'.toArray[j/w]! =d'[j/w]:=by rw[getElem!_pos _ _ (by simpa using vF)];simp
           rw[ar,getElem!_pos (encV d'[j/w]) (j %w) GO];rfl
         · have fQ:(cw encA d'++rest)[j]? =(cw encA ds++rest)[j]? :=by
             rw[List.getElem?_append_right (by omega),List.getElem?_append_right (by rw[rE,<-o0];omega),rE,kk,o0]
           rw[fQ] at aG
           obtain⟨u,hu,ah⟩:=dD j a aG
           refine⟨u,?_,ah⟩
           rw[hu]
           simp only[Option.map_some]
           rw[if_neg (by omega)],by simp[Go.Sort.putCells,l5],by
        rcases db with rfl|rfl
        · obtain⟨bl,a2,a3,a4⟩:=pK
          exact⟨bl,by rw[a2,List.length_append,List.length_append,rE,kk,o0],a3,a4⟩
        · obtain⟨bl,a2⟩:=pK
          exact⟨by rw[List.length_append,kk,o0];rw[List.length_append,rE] at bl;exact bl,a2⟩⟩
       (hdr:=Nat.le_add_right _ _)
      obtain⟨t1,t2⟩:=fh.grow os
      rw[zE]
      exact⟨μ,.tuple #[],he,⟨[],rfl,rfl⟩,by rw[<-lS];exact t1,by rw[<-lS];exact gg.trans af fh t2⟩
    · cases U
  · cases U
def yD(fS:Nat)(f:Nat)(args:List I)(H:J):Option (I×J):=match Nat.beq f fS with
 |false=>none
 |true=>match args with
  |[.bK,_]=>some (.aF [],H)
  |[.slice _ _ 0 _,_]=>some (.aF [],H)
  |_=>none
theorem Ox{P:Program}{ρ:Ren}(L:SlLaysF0.n6 P ρ):gN P (yD (ρ.f 6)):=by
 intro f args H v ax U μ W vs af lU aI
 unfold yD at U
 cases ad:Nat.beq f (ρ.f 6) with
 |false=>rw[ad] at U;cases U
 |true=>
  rw[ad] at U
  have vE:f=ρ.f 6:=Nat.eq_of_beq_eq_true ad
  subst vE
  have B4:∀args w,(callFunc (ρ.f 6) args).run P w=.ok (.enter (ρ.f 6) args) w:=L.f6.enters rfl
  have fin:∀{p:Option Addr} {cp:Nat} {kR:Value},vs=[.slice p 0 cp,kR]->v=.aF []->ax=H->o7 P (ρ.f 6) vs W (Ends μ H W (.ret v ax)):=λ{p cp kR} aw ar bn=>by
   subst aw;subst ar;subst bn
   refine .inr ⟨B4 _ _,(AnyF.slices_SortFunc_none L p cp kR W).mono λe fF ⟨he,hw⟩=>?_⟩
   subst hw
   exact⟨μ,.tuple #[],he,⟨[],rfl,rfl⟩,af,bE.refl μ ax fF⟩
  simp only at U
  split at U
  · cases U
    obtain⟨v1,GL,rfl,aK,v2,GM,rfl,a_,rfl⟩:=aI
    have:v1=.slice none 0 0:=aK
    subst this
    exact fin rfl rfl rfl
  · rename_i b off c y
    cases U
    obtain⟨v1,GL,rfl,⟨i,_,aK⟩,v2,GM,rfl,a_,rfl⟩:=aI
    cases c with
    |exact c=>have:v1=_:=aK;subst this;exact fin rfl rfl rfl
    |aE e=>obtain⟨c,aw,_⟩:=aK;subst aw;exact fin rfl rfl rfl
    |dead=>obtain⟨_,a,c,aw⟩:=aK;subst aw;exact fin rfl rfl rfl
  · cases U
def yE(i j:Nat->List I->J->Option (I×J))(f:Nat)(args:List I)(H:J):Option (I×J):=match i f args H with
 |some x=>some x
 |none=>j f args H
theorem Oy{P:Program}{i j:Nat->List I->J->Option (I×J)}(ag:gN P i)(aG:gN P j):gN P (yE i j):=by
 intro f args H v ax U
 unfold yE at U
 split at U
 · rename_i x B5
   cases U
   exact ag f args H v ax B5
 · exact aG f args H v ax U
end
end aU
