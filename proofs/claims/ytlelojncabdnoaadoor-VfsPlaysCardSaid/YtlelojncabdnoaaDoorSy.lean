/-
  PROVED HERE: contracts of functions (Sy). No condition beside each statement's own.
-/
import Derived.Test.YtlelojncabdnoaaDoorAed
import Derived.Test.YtlelojncabdnoaaDoorSxb
import Derived.Shelf.SlSortCmp.NoneTotal
set_option linter.unusedVariables false
set_option linter.unusedSimpArgs false
namespace aS
open Go Go.Sort Go.Proofs Go.Shelf
section
variable {D:Type}
def HW(enc:D->List I)(H:J)(b len:Nat)(x:List D×List I×Nat×e3):Prop:=
 H.get b=some (.cells (cc enc x.1++x.2.1) x.2.2.1 x.2.2.2 0 0)/\x.1.length=len/\(x.2.2.2=.own\/x.2.2.2=.aH)
open Classical in
noncomputable def wN(enc:D->List I)(srt:List D->List D)(fS g:Nat)(f:Nat)(args:List I)(H:J):Option (I×J):=match Nat.beq f fS with
 |false=>none
 |true=>match args with
  |[.slice b off len _,.fn ct [] []]=>
   if h:off=0/\ct=g/\0<len/\len<4611686018427387904/\∃x,HW enc H b len x then
    some (.aF [],H.set b (some (.cells (cc enc (srt h.2.2.2.2.choose.1)++h.2.2.2.2.choose.2.1) h.2.2.2.2.choose.2.2.1 h.2.2.2.2.choose.2.2.2 0 0)))
   else none
  |_=>none
theorem PL{enc:D->List I}{srt:List D->List D}{w:Nat}(hw:∀d,(enc d).length=w)(ag:∀d d',enc d=enc d'->d=d'){fS g b len:Nat}{cap:cb}{H:J}{ds:List D}{rest:List I}{el:Nat}{k:e3}
  (aA:0<len)(h1:len<4611686018427387904)(an:H.get b=some (.cells (cc enc ds++rest) el k 0 0))(ar:ds.length=len)(hk:k=.own\/k=.aH):
  wN enc srt fS g fS [.slice b 0 len cap,.fn g [] []] H=some (.aF [],H.set b (some (.cells (cc enc (srt ds)++rest) el k 0 0))):=by
 have ae:Nat.beq fS fS=true:=by simp
 have U:∃x,HW enc H b len x:=⟨(ds,rest,el,k),an,ar,hk⟩
 unfold wN
 simp only[ae]
 rw[dif_pos ⟨rfl,rfl,aA,h1,U⟩]
 obtain⟨c1,c2,c3⟩:=U.choose_spec
 generalize U.choose=x at c1 c2 c3
 obtain⟨iZ,XL,oT,gA⟩:=x
 simp only at c1 c2 c3
 rw[an] at c1
 simp only[Option.some.injEq,b8.cells.injEq] at c1
 obtain⟨av,au,bm,_⟩:=c1
 obtain⟨rfl,rfl⟩:=G6 hw ag _ _ _ _ (by omega) av
 subst au;subst bm;rfl
end
section
variable {P:Program} {μ:bd} {H:J}
theorem bg.grow{w:World}(h:bg μ H w)(os:Array Obj):bg μ H (Go.Sort.grow w os)/\bN μ H w μ H (Go.Sort.grow w os):=by
 have hold:∀r,r<w.heap.size->(Go.Sort.grow w os).heap[r]? =w.heap[r]? :=λr aj=>heap_grow_old w os aj
 refine⟨⟨λb o i ae ag=>(h.rel b o i ae ag).mono (dB.refl μ) (hold _ (h.lt b i ag).2),h.inj,λb i ag=>⟨(h.lt b i ag).1,by have:=(h.lt b i ag).2;simp;omega⟩,h.bound⟩,?_⟩
 exact⟨dB.refl μ,by simp,Nat.le_refl _,λ_ _ ar=>ar,λ_ _ _=>rfl,λr aj _=>hold r aj,λb i h1 aa=>(by rw[h1] at aa;cases aa),λb o i ae _ ag=>⟨ae,hold _ (h.lt b i ag).2⟩,rfl,rfl,rfl,Nat.le_refl _⟩
theorem grown_of{w w':World}(ad:w.heap.size<=w'.heap.size)(aQ:∀r,r<w.heap.size->w'.heap[r]? =w.heap[r]?)(h1:w'.os=w.os)(aa:w'.output=w.output)(ao:w'.tape=w.tape)(aI:w.drawn<=w'.drawn):
  ∃q PM,w'=Go.Sort.grow (w.drewN q) PM:=by
 refine⟨w'.drawn-w.drawn,w'.heap.extract w.heap.size w'.heap.size,?_⟩
 have af:w'.heap=w.heap++w'.heap.extract w.heap.size w'.heap.size:=by
  apply Array.ext_getElem?
  intro k
  rw[Array.getElem?_append]
  by_cases hk:k<w.heap.size
  · rw[if_pos hk,aQ k hk]
  · rw[if_neg hk,Array.getElem?_extract]
    by_cases bl:k<w'.heap.size
    · rw[if_pos (by omega)];congr 1;omega
    · rw[if_neg (by omega),Array.getElem?_eq_none (by omega)]
 have ak:w'.drawn=w.drawn+(w'.drawn-w.drawn):=by omega
 cases w'
 simp only at h1 aa ao af ak
 subst h1;subst aa;subst ao
 unfold Go.Sort.grow World.drewN
 simp only[<-ak,<-af]
variable {D:Type} [Inhabited D] {ρ:Ren}
theorem PN(hf:Fit P)(L:SlLaysF0.n6 P ρ){w:Nat}(y8:0<w)(PO:∀W,(isAgg (ρ.t 24)).run P W=.ok true W)(PQ:∀W,(Go.sizeOf (ρ.t 24)).run P W=.ok w W)
  {encA:D->List I}{encV:D->List Value}(ff:∀d,(encA d).length=w)(qo:∀d,(encV d).length=w)
  (PR:∀(μ:bd) d (t:Nat) a u,(encA d)[t]? =some a->a1 μ a u->(encV d)[t]? =some u)(oU:∀(μ:bd) d (t:Nat) a u,(encA d)[t]? =some a->(encV d)[t]? =some u->a1 μ a u)
  (h1:∀d,∀v∈encV d,v.oneCell'=true)(iM:D->D->Int)(hO:SWO (ltOf iM))(nB:∀x y,(ltOf iM) x y=false->(ltOf iM) y x=false->x=y)
  {g:Nat}{CX:Func}{zt:Code}(an:P.funcs[g]? =some CX)(iK:CX.body=some zt)
  {intr:Nat->List I->J->Option (I×J)}(ag:hy P intr)(AR:∀x y,∃n aD,cF P intr n (.fn g) [.agg (encA x),.agg (encA y)] (ml P.globals.size)=.ret (.int .i64 (iM x y)) aD):
  hy P (wN encA (λl=>l.mergeSort λx y=>!(ltOf iM) y x) (ρ.f 6) g):=by
 intro f args H v aD U μ W vs af lf aM
 unfold wN at U
 cases ae:Nat.beq f (ρ.f 6) with
 |false=>rw[ae] at U;cases U
 |true=>
  rw[ae] at U
  have wO:f=ρ.f 6:=Nat.eq_of_beq_eq_true ae
  subst wO
  simp only at U
  split at U
  · rename_i b off len cap ct
    split at U
    · rename_i ab
      cases U
      obtain⟨rfl,rfl,aA,bx,hex⟩:=ab
      obtain⟨ba,bH,dv⟩:=hex.choose_spec
      generalize hex.choose=x at ba bH dv
      obtain⟨ds,rest,el,k⟩:=x
      simp only at ba bH dv⊢
      obtain⟨v1,HX,rfl,aT,v2,HY,rfl,bb,rfl⟩:=aM
      obtain⟨i,gg,k5⟩:=aT
      obtain⟨cp,rfl⟩:∃cp,v1=.slice (some ⟨i.a6,i.base,none⟩) len cp:=by
       cases cap with
       |exact c=>exact⟨c,k5⟩
       |aH e=>obtain⟨c,av,_⟩:=k5;exact⟨c,av⟩
       |dead=>exact absurd k5.1 (by omega)
      obtain⟨ax,cs,rfl,bP,gP⟩:=bb
      have PS:ax=[]:=bP
      have PT:cs=[]:=gP
      subst PS;subst PT
      obtain⟨c,eK,eL,dO,ef,sC,mO⟩:=af.rel b _ i ba gg
      have bp:ds.length*w<=i.size:=by
       have ar:=oh ff ds
       rcases dv with rfl|rfl
       · obtain⟨bO,a2,_⟩:=mO;rw[a2,List.length_append,ar];omega
       · obtain⟨bO,_⟩:=mO;rw[List.length_append,ar] at bO;omega
      have Ax:∀j,j<ds.length*w->W.frozen? ⟨i.a6,i.base+j,none⟩=false:=λj aG=>by
       simp only[World.frozen?,dO]
       rcases dv with rfl|rfl
       · obtain⟨bO,a2,a3,a4⟩:=mO
         subst a3;subst a4;simp
       · obtain⟨bO,a2⟩:=mO
         cases h1:decide (eK<=i.base+j) with
         |false=>rfl
         |true=>
          cases aa:decide (i.base+j<eL) with
          |false=>rfl
          |true=>
           have:=a2 j (by omega) (of_decide_eq_true h1) (of_decide_eq_true aa)
           omega
      have q_:∀j,j<ds.length*w->c[i.base+j]? =some (flatK encV w ds.toArray)[j]! :=λj aG=>by
       have wP:j/w<ds.length:=Nat.div_lt_of_lt_mul (by rw[Nat.mul_comm];exact aG)
       have hm:j %w<w:=Nat.mod_lt _ y8
       have gE:(cc encA ds++rest)[j]? =(encA ds[j/w])[j %w]? :=by
        rw[List.getElem?_append_left (by rw[oh ff];exact aG)]
        show(ds.flatMap encA)[j]? =_
        rw[o9 ff,if_pos aG,List.getElem?_eq_getElem wP];rfl
       have hlen:j %w<(encA ds[j/w]).length:=by rw[ff];exact hm
       rw[List.getElem?_eq_getElem hlen] at gE
       obtain⟨u,hu,aj⟩:=ef j _ gE
       have:=PR μ _ _ _ u (List.getElem?_eq_getElem hlen) aj
       rw[hu,get_flatK _ _ _ _ (by simpa using aG)]
       congr 1
       have au:ds.toArray[j/w]! =ds[j/w]:=by rw[getElem!_pos _ _ (by simpa using wP)];simp
       rw[au,List.getElem!_eq_getElem?_getD,this];rfl
      have hH:HoldsK encV w W i.a6 i.base ds.toArray:=λj aG=>by
       rw[size_flatK] at aG
       have pO:j<ds.length*w:=by simpa using aG
       refine⟨?_,Ax j pO⟩
       simp only[World.cell?,dO]
       exact q_ j pO
      have hblk:=(af.lt b i gg).2
      have XM:P.globals.size<=W.heap.size:=by
       cases bp:P.globals.size with
       |zero=>exact Nat.zero_le _
       |succ PU=>
        obtain⟨rO,av,au,bm⟩:=lf PU (by omega)
        have:=(af.lt _ rO av).2
        omega
      obtain⟨_,PV⟩:=hf.code ct CX zt an iK
      have gK:∀args w,(callFunc ct args).run P w=.ok (.enter ct args) w:=λargs w=>vD an iK PV args w
      have PW:CmpLays P ct #[] encV w iM i.a6 i.base ds.toArray.size W:=λm os HZ _ x y=>by
       obtain⟨n,aD,de⟩:=AR x y
       have o3:P.globals.size<=(sortWorldK encV w W i.a6 i.base m HZ os).heap.size:=by
        have:(sortWorldK encV w W i.a6 i.base m HZ os).heap.size=W.heap.size+os.size:=by
         simp[sortWorldK,putRowK,putRow,mapBlock,Go.Sort.ahead]
        omega
       obtain⟨s1,s2,bz⟩:=BM (P:=P) o3
       have yG:∀z,bL (tK P.globals.size) (encA z) (encV z):=λz=>bL.tb (by rw[ff,qo]) λj a aJ=>by
        have aG:j<(encV z).length:=by rw[qo,<-ff z];exact(List.getElem?_eq_some_iff.1 aJ).1
        exact⟨_,List.getElem?_eq_getElem aG,oU _ z j a _ aJ (List.getElem?_eq_getElem aG)⟩
       refine(Gn hf ag an iK de s1 s2 (vs:=[.agg ⟨encV x⟩,.agg ⟨encV y⟩]) ⟨_,_,rfl,⟨_,rfl,yG x⟩,_,_,rfl,⟨_,rfl,yG y⟩,rfl⟩).mono λe gr ⟨aL,u,av,au,bm,cN⟩=>?_
       have CY:u=.int .i64 (iM x y):=au
       subst CY
       refine⟨av,grown_of cN.size (λr aj=>cN.old r aj λb i ar=>absurd rfl ar) cN.os cN.out cN.tape cN.drawn⟩
      have key:=AnyQ.slices_SortFunc_total L w PO PQ encV qo h1 iM hO ct #[] i.a6 i.base cp ds.toArray W gK PW hH hblk (by simpa[bH] using bx) nB
      have CZ:∀args w,(callFunc (ρ.f 6) args).run P w=.ok (.enter (ρ.f 6) args) w:=L.f6.enters rfl
      refine .inr ⟨CZ _ _,?_⟩
      have AI:ds.toArray.size=len:=by simpa using bH
      rw[AI] at key
      refine key.mono λe gr ⟨he,n,os,rS⟩=>?_
      obtain⟨d',mD⟩:∃d',d'=(ds.mergeSort λx y=>!(ltOf iM) y x):=⟨_,rfl⟩
      have p6:d'.length=ds.length:=by rw[mD,List.length_mergeSort]
      have AO:gr=Go.Sort.grow (putRowK encV w (Go.Sort.ahead W n) i.a6 i.base d'.toArray) os:=by rw[rS,mD];rfl
      have zu:=oh ff ds
      have mB:=oh ff d'
      obtain⟨eF,fG⟩:=af.update (w':=putRowK encV w (Go.Sort.ahead W n) i.a6 i.base d'.toArray) (o':=.cells (cc encA d'++rest) el k 0 0) ba (by rcases dv with rfl|rfl<;>rfl) gg
       (by simp[putRowK,putRow,mapBlock,Go.Sort.ahead]) (λr aj=>by
        simp only[putRowK,putRow,mapBlock,Go.Sort.ahead,Array.getElem?_modify]
        rw[if_neg (λe=>aj e.symm)]) rfl rfl rfl
       ⟨Go.Sort.putCells id i.base (flatK encV w d'.toArray) c,eK,eL,by
        simp only[putRowK,putRow,mapBlock,Go.Sort.ahead,Array.getElem?_modify,if_true,dO,Option.map_some,onCells],λj a aG=>by
         simp only[Go.Sort.putCells,Array.getElem?_mapIdx,size_flatK,List.size_toArray]
         by_cases oS:j<d'.length*w
         · have wP:j/w<d'.length:=Nat.div_lt_of_lt_mul (by rw[Nat.mul_comm];exact oS)
           have hm:j %w<w:=Nat.mod_lt _ y8
           have gE:(cc encA d'++rest)[j]? =(encA d'[j/w])[j %w]? :=by
            rw[List.getElem?_append_left (by rw[mB];exact oS)]
            show(d'.flatMap encA)[j]? =_
            rw[o9 ff,if_pos oS,List.getElem?_eq_getElem wP];rfl
           rw[gE] at aG
           have H0:j %w<(encV d'[j/w]).length:=by rw[qo];exact hm
           rw[q_ j (by rw[<-p6];exact oS)]
           refine⟨(encV d'[j/w])[j %w],?_,oU μ _ _ _ _ aG (List.getElem?_eq_getElem H0)⟩
           simp only[Option.map_some]
           rw[if_pos ⟨by omega,by omega⟩,Nat.add_sub_cancel_left,get_flatK _ _ _ _ (by simpa using oS)]
           have au:d'.toArray[j/w]! =d'[j/w]:=by rw[getElem!_pos _ _ (by simpa using wP)];simp
           rw[au,getElem!_pos (encV d'[j/w]) (j %w) H0];rfl
         · have gE:(cc encA d'++rest)[j]? =(cc encA ds++rest)[j]? :=by
             rw[List.getElem?_append_right (by omega),List.getElem?_append_right (by rw[zu,<-p6];omega),zu,mB,p6]
           rw[gE] at aG
           obtain⟨u,hu,aj⟩:=ef j a aG
           refine⟨u,?_,aj⟩
           rw[hu]
           simp only[Option.map_some]
           rw[if_neg (by omega)],by simp[Go.Sort.putCells,sC],by
        rcases dv with rfl|rfl
        · obtain⟨bO,a2,a3,a4⟩:=mO
          exact⟨bO,by rw[a2,List.length_append,List.length_append,zu,mB,p6],a3,a4⟩
        · obtain⟨bO,a2⟩:=mO
          exact⟨by rw[List.length_append,mB,p6];rw[List.length_append,zu] at bO;exact bO,a2⟩⟩
       (hdr:=Nat.le_add_right _ _)
      obtain⟨t1,t2⟩:=eF.grow os
      rw[AO]
      exact⟨μ,.tuple #[],he,⟨[],rfl,rfl⟩,by rw[<-mD];exact t1,by rw[<-mD];exact fG.trans af eF t2⟩
    · cases U
  · cases U
def zv(fS:Nat)(f:Nat)(args:List I)(H:J):Option (I×J):=match Nat.beq f fS with
 |false=>none
 |true=>match args with
  |[.bn,_]=>some (.aF [],H)
  |[.slice _ _ 0 _,_]=>some (.aF [],H)
  |_=>none
theorem PX{P:Program}{ρ:Ren}(L:SlLaysF0.n6 P ρ):hy P (zv (ρ.f 6)):=by
 intro f args H v aD U μ W vs af lf aM
 unfold zv at U
 cases ae:Nat.beq f (ρ.f 6) with
 |false=>rw[ae] at U;cases U
 |true=>
  rw[ae] at U
  have wO:f=ρ.f 6:=Nat.eq_of_beq_eq_true ae
  subst wO
  have CZ:∀args w,(callFunc (ρ.f 6) args).run P w=.ok (.enter (ρ.f 6) args) w:=L.f6.enters rfl
  have fin:∀{p:Option Addr} {cp:Nat} {lO:Value},vs=[.slice p 0 cp,lO]->v=.aF []->aD=H->qc P (ρ.f 6) vs W (Ends μ H W (.ret v aD)):=λ{p cp lO} av au bm=>by
   subst av;subst au;subst bm
   refine .inr ⟨CZ _ _,(AnyF.slices_SortFunc_none L p cp lO W).mono λe gr ⟨he,hw⟩=>?_⟩
   subst hw
   exact⟨μ,.tuple #[],he,⟨[],rfl,rfl⟩,af,bN.refl μ aD gr⟩
  simp only at U
  split at U
  · cases U
    obtain⟨v1,HX,rfl,aT,v2,HY,rfl,bb,rfl⟩:=aM
    have:v1=.slice none 0 0:=aT
    subst this
    exact fin rfl rfl rfl
  · rename_i b off c y
    cases U
    obtain⟨v1,HX,rfl,⟨i,_,aT⟩,v2,HY,rfl,bb,rfl⟩:=aM
    cases c with
    |exact c=>have:v1=_:=aT;subst this;exact fin rfl rfl rfl
    |aH e=>obtain⟨c,av,_⟩:=aT;subst av;exact fin rfl rfl rfl
    |dead=>obtain⟨_,a,c,av⟩:=aT;subst av;exact fin rfl rfl rfl
  · cases U
def zw(i j:Nat->List I->J->Option (I×J))(f:Nat)(args:List I)(H:J):Option (I×J):=match i f args H with
 |some x=>some x
 |none=>j f args H
theorem PY{P:Program}{i j:Nat->List I->J->Option (I×J)}(ag:hy P i)(aG:hy P j):hy P (zw i j):=by
 intro f args H v aD U
 unfold zw at U
 split at U
 · rename_i x C0
   cases U
   exact ag f args H v aD C0
 · exact aG f args H v aD U
end
end aS
