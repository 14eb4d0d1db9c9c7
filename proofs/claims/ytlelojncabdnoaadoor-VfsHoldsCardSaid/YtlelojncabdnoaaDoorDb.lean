/-
  PROVED HERE: contracts of functions (Db). No condition beside each statement's own.
-/
import Derived.Test.YtlelojncabdnoaaDoorDa
import Derived.Test.YtlelojncabdnoaaDoorTx
import Derived.Test.YtlelojncabdnoaaDoorAx
set_option linter.unusedVariables false
set_option linter.unusedSimpArgs false
set_option maxRecDepth 100000
set_option maxHeartbeats 1000000
namespace Go.Proofs.h3
open Go aU Go.Proofs
variable {Q:bh->aQ->Prop} {R:bL->Prop}
structure dh(α:Type) where
 k:List UInt8
 v:α
 born:Nat
def fa{α:Type}(enc:α->I)(x:dh α):df:=⟨.str x.k,enc x.v,x.born⟩
def iz{α:Type}(p:List UInt8)(x:dh α):Bool:=decide (p=x.k)
def pQ{α:Type}(q:α->Bool):List α->Nat->Option (Nat×α)
 |[],_=>none
 |x::l,j=>if q x=true then some (j,x) else pQ q l (j+1)
theorem Ch{α:Type}{q:α->Bool}:∀{l:List α} {j:Nat},(∀x∈l,q x=false)->pQ q l j=none
 |[],_,_=>rfl
 |x::l,j,h=>by
  rw[pQ,if_neg (by rw[h x (List.mem_cons_self ..)];simp)]
  exact Ch λy bc=>h y (List.mem_cons_of_mem _ bc)
theorem yM{α:Type}{enc:α->I}{x:dh α}:∀{l:List (dh α)} {j:Nat},x∈l->(l.map (·.k)).Nodup->∃i,pQ (iz x.k) l j=some (j+i,x)/\tI i (l.map (fa enc))=(l.filter λy=>!iz x.k y).map (fa enc)/\(∀v:α,nM (enc v) (.str x.k) i (l.map (fa enc))=(l.map λy=>if y.k=x.k then⟨y.k,v,y.born⟩ else y).map (fa enc))/\p3 i (l.map (fa enc))=.str x.k
 |[],_,h,_=>by cases h
 |y::l,j,h,aZ=>by
  rw[List.map_cons,List.nodup_cons] at aZ
  by_cases bc:x.k=y.k
  · have U:x=y:=by
      rcases List.mem_cons.1 h with h|h
      · exact h
      · exact absurd (List.mem_map.2 ⟨x,h,bc⟩) aZ.1
    subst U
    have cj:∀z∈l,z.k≠x.k:=λz aL e=>aZ.1 (List.mem_map.2 ⟨z,aL,e⟩)
    refine⟨0,by rw[pQ,if_pos (show iz x.k x=true from decide_eq_true rfl)];rfl,?_,λv=>?_,rfl⟩
    · rw[List.filter_cons_of_neg (by simp[iz])]
      have:l.filter (λy=>!iz x.k y)=l:=List.filter_eq_self.2 λz aL=>by
       have:¬x.k=z.k:=λe=>cj z aL e.symm
       simp[iz,this]
      rw[this];rfl
    · rw[List.map_cons,List.map_cons,if_pos rfl,List.map_cons]
      have:(l.map λy=>if y.k=x.k then(⟨y.k,v,y.born⟩:dh α) else y)=l:=by
       conv=>rhs;rw[<-List.map_id l]
       exact List.map_congr_left λz aL=>by rw[if_neg (cj z aL)];rfl
      rw[this];rfl
  · have U:x∈l:=by
      rcases List.mem_cons.1 h with h|h
      · rw[h] at bc;exact absurd rfl bc
      · exact h
    obtain⟨i,h1,aa,ao,aM⟩:=yM (enc:=enc) (j:=j+1) U aZ.2
    refine⟨i+1,by rw[pQ,if_neg (by simpa[iz] using bc),h1];congr 2;omega,?_,λv=>?_,aM⟩
    · rw[List.map_cons,tI,aa,List.filter_cons_of_pos (by simpa[iz] using bc)];rfl
    · rw[List.map_cons,nM,ao v,List.map_cons,if_neg λe=>bc e.symm];rfl
theorem Pv(h:J){α:Type}{enc:α->I}(p:List UInt8)(x:dh α):r3 an h 9 (.str p) (fa enc x).key=some (iz p x):=by
 have ad:cW p x.k=decide (p=x.k):=by
  apply Bool.eq_iff_iff.2
  rw[hA];simp
 show some (cW p x.k)=some (decide (p=x.k))
 rw[ad]
theorem tg{α:Type}{enc:α->I}{h:J}{p:List UInt8}:∀(l:List (dh α)) (j:Nat),iE an h 9 (.str p) (l.map (fa enc)) j=some ((pQ (iz p) l j).map λr=>(r.1,enc r.2.v))
 |[],_=>rfl
 |x::l,j=>by
  rw[List.map_cons,iE,Pv h p x,pQ]
  cases bj:iz p x with
  |true=>simp[fa]
  |false=>
   simp only[Bool.false_eq_true,if_false]
   exact tg l (j+1)
theorem vL(p:List UInt8):mb an 9 (.str p)=true:=by kernel_rfl
theorem th{T eX:TypeId}(hu:an.underlying T=some (.map 9 eX)){α:Type}{enc:α->I}{h:J}{m c:Nat}{M:List (dh α)}(hm:h.get m=some (.map (M.map (fa enc)) c))(aZ:(M.map (·.k)).Nodup){x:dh α}(U:x∈M)(ok:Bool):gq an h T (.map m) (.str x.k) ok=some (if ok=true then .aF [enc x.v,.bool true] else enc x.v):=by
 obtain⟨i,h1,_⟩:=yM (enc:=enc) (j:=0) U aZ
 simp only[gq,hu,vL,hm,tg M 0,h1,Option.map,p4]
theorem yN{T eX:TypeId}(hu:an.underlying T=some (.map 9 eX)){z:I}(aL:dV an eX=some z){α:Type}{enc:α->I}{h:J}{m c:Nat}{M:List (dh α)}(hm:h.get m=some (.map (M.map (fa enc)) c)){p:List UInt8}(aB:∀x∈M,x.k≠p)(ok:Bool):gq an h T (.map m) (.str p) ok=some (if ok=true then .aF [z,.bool false] else z):=by
 have h1:=Ch (q:=iz p) (l:=M) (j:=0) λx U=>decide_eq_false λe=>aB x U e.symm
 simp only[gq,hu,vL,hm,tg M 0,h1,Option.map,p4,aL]
theorem Pw{T eX:TypeId}(hu:an.underlying T=some (.map 9 eX)){α:Type}{enc:α->I}{h:J}{m c:Nat}{M:List (dh α)}(hm:h.get m=some (.map (M.map (fa enc)) c)){p:List UInt8}(aB:∀x∈M,x.k≠p)(v:α):jj an h T (.map m) (.str p) (enc v)=some (h.set m (some (.map ((M++[(⟨p,v,c⟩:dh α)]).map (fa enc)) (c+1)))):=by
 have h1:=Ch (q:=iz p) (l:=M) (j:=0) λx U=>decide_eq_false λe=>aB x U e.symm
 simp only[jj,hu,vL,hm,tg M 0,h1,Option.map,List.map_append,List.map_cons,List.map_nil]
 rfl
theorem Px{T eX:TypeId}(hu:an.underlying T=some (.map 9 eX)){α:Type}{enc:α->I}{h:J}{m c:Nat}{M:List (dh α)}(hm:h.get m=some (.map (M.map (fa enc)) c))(aZ:(M.map (·.k)).Nodup){x:dh α}(U:x∈M)(v:α):jj an h T (.map m) (.str x.k) (enc v)=some (h.set m (some (.map ((M.map λy=>if y.k=x.k then(⟨y.k,v,y.born⟩:dh α) else y).map (fa enc)) c))):=by
 obtain⟨i,h1,_,ao,aM⟩:=yM (enc:=enc) (j:=0) U aZ
 have ae:nL (.str x.k) (p3 i (M.map (fa enc)))=true:=by rw[aM];rfl
 simp only[jj,hu,vL,hm,tg M 0,h1,Option.map,Nat.zero_add,ae,ao]
theorem Py{T eX:TypeId}(hu:an.underlying T=some (.map 9 eX)){α:Type}{enc:α->I}{h:J}{m c:Nat}{M:List (dh α)}(hm:h.get m=some (.map (M.map (fa enc)) c))(aZ:(M.map (·.k)).Nodup){x:dh α}(U:x∈M):p5 an h T (.map m) (.str x.k)=some (.aF [],h.set m (some (.map ((M.filter λy=>!iz x.k y).map (fa enc)) c))):=by
 obtain⟨i,h1,aa,_⟩:=yM (enc:=enc) (j:=0) U aZ
 simp only[p5,hu,vL,hm,tg M 0,h1,Option.map,Nat.zero_add,aa]
def Pz:Nat->List I->J->Option (I×J):=rK
noncomputable def fK:Nat->List I->J->Option (I×J):=BW (n9 [⟨16,[],.bool true⟩]) Pz
noncomputable def Y(n:Nat):cJ:=cu an fK n
structure dd where
 pR:Int
 rL:Int
 aP:List b7
 ts:List (a1×Nat)
 ej:Int
def da(l:List b7)(p:a1):Option b7:=l.find? λf=>decide (f.p=p)
def iu(l:List b7)(g:b7):List b7:=if l.any (λf=>decide (f.p=g.p)) then l.map (λf=>if f.p=g.p then g else f) else l++[g]
def ht(l:List b7)(p:a1):List b7:=l.filter λf=>!decide (f.p=p)
def de(l:List (a1×Nat))(p:a1):Nat:=match l.find? λf=>decide (f.1=p) with
 |some f=>f.2
 |none=>0
def gu(l:List (a1×Nat))(p:a1)(n:Nat):List (a1×Nat):=if l.any (λf=>decide (f.1=p)) then l.map (λf=>if f.1=p then(p,n) else f) else l++[(p,n)]
def dJ(l:List b7)(p:a1):Nat:=match da l p with
 |some f=>f.x.length
 |none=>0
def fq(p x:a1)(s:dd):Nat×dd:=(de s.ts p+1,{s with aP:=iu s.aP ⟨p,x,de s.ts p+1⟩,ts:=gu s.ts p (de s.ts p+1),ej:=s.ej+(Int.ofNat x.length-Int.ofNat (dJ s.aP p))})
def dT(p:a1)(s:dd):dd:={s with aP:=ht s.aP p,ej:=s.ej-Int.ofNat (dJ s.aP p)}
def kz(p x:a1)(s:dd):Bool:=!(decide (min s.pR 64<Int.ofNat (s.aP.length+if(da s.aP p).isSome then 0 else 1))||decide (s.rL<s.ej-Int.ofNat (dJ s.aP p)+Int.ofNat x.length))
theorem nz{l:List b7}{p:a1}{f:b7}(h:da l p=some f):f∈l/\f.p=p:=⟨List.mem_of_find?_eq_some h,by have:=List.find?_some h;simpa using this⟩
theorem ti{l:List b7}{p:a1}(h:da l p=none):∀f∈l,f.p≠p:=λf hf e=>by
 have:=List.find?_eq_none.1 h f hf
 simp[e] at this
theorem PA{l:List b7}(aB:(l.map (·.p)).Nodup){a b:b7}(aH:a∈l)(ad:b∈l)(e:a.p=b.p):a=b:=by
 induction l with
 |nil=>cases aH
 |cons c l a7=>
  rw[List.map_cons,List.nodup_cons] at aB
  rcases List.mem_cons.1 aH with h1|h1<;>rcases List.mem_cons.1 ad with aa|aa
  · rw[h1,aa]
  · exact absurd (List.mem_map.2 ⟨b,aa,by rw[<-e,h1]⟩) aB.1
  · exact absurd (List.mem_map.2 ⟨a,h1,by rw[e,aa]⟩) aB.1
  · exact a7 aB.2 h1 aa
theorem Hf{l:List b7}(aB:(l.map (·.p)).Nodup){f:b7}(hf:f∈l):da l f.p=some f:=by
 cases h:da l f.p with
 |none=>exact absurd rfl (ti h f hf)
 |some g=>
  obtain⟨h1,aa⟩:=nz h
  rw[PA aB h1 hf aa]
theorem Hg{l:List b7}{p:a1}:(l.any λf=>decide (f.p=p))=(da l p).isSome:=by
 cases h:da l p with
 |none=>
  have:=ti h
  simp only[Option.isSome_none,List.any_eq_false]
  intro f hf;simpa using this f hf
 |some f=>
  obtain⟨h1,aa⟩:=nz h
  simp only[Option.isSome_some,List.any_eq_true]
  exact⟨f,h1,by simpa using aa⟩
theorem rM{l:List b7}{g f:b7}:f∈iu l g<->f=g\/(f∈l/\f.p≠g.p):=by
 unfold iu
 split
 · rename_i h
   rw[List.any_eq_true] at h
   obtain⟨k,hk,he⟩:=h
   have he:k.p=g.p:=by simpa using he
   constructor
   · intro hf
     obtain⟨y,bc,e⟩:=List.mem_map.1 hf
     by_cases ab:y.p=g.p
     · rw[if_pos ab] at e;exact .inl e.symm
     · rw[if_neg ab] at e;subst e;exact .inr ⟨bc,ab⟩
   · rintro(rfl|⟨h1,aa⟩)
     · exact List.mem_map.2 ⟨k,hk,by rw[if_pos he]⟩
     · exact List.mem_map.2 ⟨f,h1,by rw[if_neg aa]⟩
 · rename_i h
   have ai:∀y∈l,y.p≠g.p:=λy bc e=>h (List.any_eq_true.2 ⟨y,bc,by simpa using e⟩)
   rw[List.mem_append,List.mem_singleton]
   constructor
   · rintro(h1|h1)
     · exact .inr ⟨h1,ai f h1⟩
     · exact .inl h1
   · rintro(h1|h1)
     · exact .inr h1
     · exact .inl h1.1
theorem rN{l:List b7}{p:a1}{f:b7}:f∈ht l p<->f∈l/\f.p≠p:=by
 unfold ht
 rw[List.mem_filter]
 simp
theorem Hh{l:List b7}{g:b7}:(iu l g).map (·.p)=if(da l g.p).isSome then l.map (·.p) else l.map (·.p)++[g.p]:=by
 unfold iu
 rw[Hg]
 split
 · rw[List.map_map]
   refine List.map_congr_left λf _=>?_
   show(if f.p=g.p then g else f).p=f.p
   split
   · rename_i h;exact h.symm
   · rfl
 · simp
theorem Hi{l:List b7}(aB:(l.map (·.p)).Nodup)(g:b7):((iu l g).map (·.p)).Nodup:=by
 rw[Hh]
 split
 · exact aB
 · rename_i h
   have ay:da l g.p=none:=by simpa using h
   rw[List.nodup_append]
   refine⟨aB,by simp,λa aH b ad=>?_⟩
   obtain⟨f,hf,rfl⟩:=List.mem_map.1 aH
   rw[List.mem_singleton.1 ad]
   exact ti ay f hf
theorem PB{l:List b7}(aB:(l.map (·.p)).Nodup)(p:a1):((ht l p).map (·.p)).Nodup:=aB.sublist (List.filter_sublist.map _)
def l6(l:List b7):Nat:=(l.map λf=>f.x.length).sum
theorem vM{l:List b7}(aB:(l.map (·.p)).Nodup)(p:a1):l6 (ht l p)+dJ l p=l6 l:=by
 induction l with
 |nil=>rfl
 |cons c l a7=>
  rw[List.map_cons,List.nodup_cons] at aB
  have a7:=a7 aB.2
  by_cases h:c.p=p
  · have al:ht (c::l) p=ht l p:=by unfold ht;rw[List.filter_cons_of_neg (by simp[h])]
    have aq:dJ (c::l) p=c.x.length:=by unfold dJ da;rw[List.find?_cons_of_pos (by simp[h])]
    have ay:ht l p=l:=List.filter_eq_self.2 λf hf=>by
     have:f.p≠p:=λe=>aB.1 (List.mem_map.2 ⟨f,hf,by rw[e,h]⟩)
     simp[this]
    rw[al,aq,ay]
    unfold l6
    rw[List.map_cons,List.sum_cons];omega
  · have al:ht (c::l) p=c::ht l p:=by unfold ht;rw[List.filter_cons_of_pos (by simp[h])]
    have aq:dJ (c::l) p=dJ l p:=by unfold dJ da;rw[List.find?_cons_of_neg (by simp[h])]
    rw[al,aq]
    unfold l6 at a7⊢
    rw[List.map_cons,List.sum_cons,List.map_cons,List.sum_cons];omega
theorem Hj{l:List b7}(aB:(l.map (·.p)).Nodup)(g:b7):l6 (iu l g)+dJ l g.p=l6 l+g.x.length:=by
 unfold iu
 rw[Hg]
 cases h:da l g.p with
 |none=>
  have aq:dJ l g.p=0:=by unfold dJ;rw[h]
  rw[aq]
  simp[l6]
 |some f=>
  have aq:dJ l g.p=f.x.length:=by unfold dJ;rw[h]
  rw[aq]
  simp only[Option.isSome_some,if_true]
  obtain⟨h1,aa⟩:=nz h
  clear h aq
  induction l with
  |nil=>cases h1
  |cons c l a7=>
   rw[List.map_cons,List.nodup_cons] at aB
   unfold l6 at a7⊢
   rw[List.map_cons,List.map_cons,List.sum_cons,List.map_cons,List.sum_cons]
   rcases List.mem_cons.1 h1 with e|h1
   · subst e
     have ay:l.map (λf=>if f.p=g.p then g else f)=l:=by
      conv=>rhs;rw[<-List.map_id l]
      refine List.map_congr_left λy bc=>?_
      rw[if_neg λe=>aB.1 (List.mem_map.2 ⟨y,bc,by rw[e,aa]⟩)];rfl
     rw[ay,if_pos aa];omega
   · have ab:c.p≠g.p:=λe=>aB.1 (List.mem_map.2 ⟨f,h1,by rw[aa,e]⟩)
     have:=a7 aB.2 h1
     rw[if_neg ab];omega
theorem Hk{l:List b7}(g:b7):(iu l g).length=l.length+if(da l g.p).isSome then 0 else 1:=by
 have:=congrArg List.length (Hh (l:=l) (g:=g))
 rw[List.length_map] at this
 rw[this]
 split<;>simp
theorem yO(l:List (a1×Nat))(p:a1)(n:Nat)(q:a1):de (gu l p n) q=if q=p then n else de l q:=by
 unfold gu
 split
 · rename_i h
   induction l with
   |nil=>simp at h
   |cons c l a7=>
    unfold de at a7⊢
    rw[List.map_cons]
    by_cases ab:c.1=p
    · rw[if_pos ab]
      by_cases bj:q=p
      · rw[List.find?_cons_of_pos (by simp[bj]),if_pos bj]
      · rw[List.find?_cons_of_neg (by simpa usingλe=>bj e.symm),if_neg bj,List.find?_cons_of_neg (by simpa[ab] usingλe=>bj e.symm)]
        by_cases aH:(l.any λf=>decide (f.1=p))=true
        · have:=a7 aH;rw[if_neg bj] at this;exact this
        · have ay:l.map (λf=>if f.1=p then(p,n) else f)=l:=by
            conv=>rhs;rw[<-List.map_id l]
            refine List.map_congr_left λy bc=>?_
            rw[if_neg λe=>aH (List.any_eq_true.2 ⟨y,bc,by simpa using e⟩)];rfl
          rw[ay]
    · rw[if_neg ab]
      have aH:(l.any λf=>decide (f.1=p))=true:=by simpa[ab] using h
      have:=a7 aH
      by_cases bj:c.1=q
      · rw[List.find?_cons_of_pos (by simpa using bj),List.find?_cons_of_pos (by simpa using bj),if_neg λe=>ab (bj.trans e)]
      · rw[List.find?_cons_of_neg (by simpa using bj),List.find?_cons_of_neg (by simpa using bj)]
        exact this
 · rename_i h
   have ai:∀y∈l,y.1≠p:=λy bc e=>h (List.any_eq_true.2 ⟨y,bc,by simpa using e⟩)
   unfold de
   rw[List.find?_append]
   by_cases bj:q=p
   · subst bj
     have:l.find? (λf=>decide (f.1=q))=none:=List.find?_eq_none.2 λy bc=>by simpa using ai y bc
     rw[this,if_pos rfl]
     simp
   · rw[if_neg bj]
     cases hf:l.find? (λf=>decide (f.1=q)) with
     |some f=>rfl
     |none=>
      have:¬p=q:=λe=>bj e.symm
      simp[this]
structure kA(s:dd):Prop where
 du:(s.aP.map (·.p)).Nodup
 bT:s.ej=Int.ofNat (l6 s.aP)
 pS:Int.ofNat s.aP.length<=max s.pR 0/\s.aP.length<=64
 fJ:s.ej<=max s.rL 0
def ha(a b:List b7)(cm:List a1):Prop:=∀f∈a,f.p∈cm\/f∈b
theorem ha.refl(a:List b7)(cm:List a1):ha a a cm:=λf hf=>.inr hf
theorem Hl{s:dd}(h:kA s){p x:a1}(ah:kz p x s=true):kA (fq p x s).2/\ha s.aP (fq p x s).2.aP [p]/\ha (fq p x s).2.aP s.aP [p]/\da (fq p x s).2.aP p=some ⟨p,x,(fq p x s).1⟩:=by
 unfold kz at ah
 simp only[Bool.not_eq_true',Bool.or_eq_false_iff,decide_eq_false_iff_not] at ah
 obtain⟨aX,bx⟩:=ah
 have hl:=Hi h.du ⟨p,x,de s.ts p+1⟩
 have ae:=Hj h.du ⟨p,x,de s.ts p+1⟩
 simp only at ae
 have aq:=Hk (l:=s.aP) ⟨p,x,de s.ts p+1⟩
 simp only at aq
 have lk:=h.bT
 have jR:s.ej+(Int.ofNat x.length-Int.ofNat (dJ s.aP p))=Int.ofNat (l6 (iu s.aP ⟨p,x,de s.ts p+1⟩)):=by
  rw[lk];simp only[Int.ofNat_eq_natCast];omega
 refine⟨⟨hl,jR,?_,?_⟩,λf hf=>?_,λf hf=>?_,Hf hl (rM.2 (.inl rfl))⟩
 · show Int.ofNat (iu s.aP ⟨p,x,de s.ts p+1⟩).length<=max s.pR 0/\(iu s.aP ⟨p,x,de s.ts p+1⟩).length<=64
   rw[aq]
   simp only[Int.ofNat_eq_natCast] at aX⊢
   split at aX<;>simp_all<;>omega
 · show s.ej+(Int.ofNat x.length-Int.ofNat (dJ s.aP p))<=max s.rL 0
   simp only[Int.ofNat_eq_natCast] at bx⊢
   omega
 · by_cases e:f.p=p
   · exact .inl (by simp[e])
   · exact .inr (rM.2 (.inr ⟨hf,e⟩))
 · rcases rM.1 hf with e|⟨e,_⟩
   · exact .inl (by rw[e];simp)
   · exact .inr e
theorem yP{s:dd}(h:kA s)(p:a1):kA (dT p s)/\ha s.aP (dT p s).aP [p]/\ha (dT p s).aP s.aP [p]/\da (dT p s).aP p=none:=by
 have ae:=vM h.du p
 have lk:=h.bT
 have u3:=h.pS
 have sh:=h.fJ
 have hle:(ht s.aP p).length<=s.aP.length:=List.length_filter_le ..
 have jR:s.ej-Int.ofNat (dJ s.aP p)=Int.ofNat (l6 (ht s.aP p)):=by
  rw[lk];simp only[Int.ofNat_eq_natCast];omega
 refine⟨⟨PB h.du p,jR,?_,?_⟩,λf hf=>?_,λf hf=>.inr (rN.1 hf).1,?_⟩
 · show Int.ofNat (ht s.aP p).length<=_/\(ht s.aP p).length<=64
   simp only[Int.ofNat_eq_natCast] at u3⊢
   have aw:(dT p s).pR=s.pR:=rfl
   rw[aw]
   omega
 · show s.ej-Int.ofNat (dJ s.aP p)<=max s.rL 0
   simp only[Int.ofNat_eq_natCast]
   omega
 · by_cases e:f.p=p
   · exact .inl (by simp[e])
   · exact .inr (rN.2 ⟨hf,e⟩)
 · cases aj:da (dT p s).aP p with
   |none=>rfl
   |some f=>
    obtain⟨h1,aa⟩:=nz aj
    exact absurd aa (rN.1 h1).2
theorem Hm{s:dd}(h:kA s){p q:a1}{f:b7}(hf:da s.aP p=some f)(bj:da s.aP q=none):kA (fq q f.x (dT p s)).2/\ha s.aP (fq q f.x (dT p s)).2.aP [p,q]/\ha (fq q f.x (dT p s)).2.aP s.aP [p,q]/\da (fq q f.x (dT p s)).2.aP q=some ⟨q,f.x,(fq q f.x (dT p s)).1⟩/\da (fq q f.x (dT p s)).2.aP p=none:=by
 obtain⟨t1,t2,t3,t4⟩:=yP h p
 obtain⟨f1,f2⟩:=nz hf
 have uL:p≠q:=λe=>by rw[e,bj] at hf;cases hf
 have Ci:dJ s.aP p=f.x.length:=by unfold dJ;rw[hf]
 have sj:da (dT p s).aP q=none:=by
  cases aj:da (dT p s).aP q with
  |none=>rfl
  |some g=>
   obtain⟨h1,aa⟩:=nz aj
   exact absurd aa (ti bj g (rN.1 h1).1)
 have PC:dJ (dT p s).aP q=0:=by unfold dJ;rw[sj]
 have hlen:(ht s.aP p).length+1<=s.aP.length:=by
  have:(ht s.aP p).length<s.aP.length:=List.length_filter_lt_length_iff_exists.2 ⟨f,f1,by simp[f2]⟩
  omega
 have u3:=h.pS
 have sh:=h.fJ
 have lk:=h.bT
 have ae:=Hj t1.du ⟨q,f.x,de (dT p s).ts q+1⟩
 simp only at ae
 have aq:=Hk (l:=(dT p s).aP) ⟨q,f.x,de (dT p s).ts q+1⟩
 simp only at aq
 have hl:=Hi t1.du ⟨q,f.x,de (dT p s).ts q+1⟩
 have PD:(dT p s).ej=s.ej-Int.ofNat f.x.length:=by show s.ej-Int.ofNat (dJ s.aP p)=_;rw[Ci]
 have PE:=t1.bT
 refine⟨⟨hl,?_,?_,?_⟩,λg aj=>?_,λg aj=>?_,Hf hl (rM.2 (.inl rfl)),?_⟩
 · show(dT p s).ej+(Int.ofNat f.x.length-Int.ofNat (dJ (dT p s).aP q))=Int.ofNat (l6 (iu (dT p s).aP ⟨q,f.x,de (dT p s).ts q+1⟩))
   rw[PE];simp only[Int.ofNat_eq_natCast];omega
 · show Int.ofNat (iu (dT p s).aP ⟨q,f.x,de (dT p s).ts q+1⟩).length<=max s.pR 0/\(iu (dT p s).aP ⟨q,f.x,de (dT p s).ts q+1⟩).length<=64
   rw[aq,sj]
   have:(dT p s).aP.length=(ht s.aP p).length:=rfl
   simp only[Int.ofNat_eq_natCast,Option.isSome_none] at u3⊢
   simp only[Bool.false_eq_true,if_false]
   omega
 · show(dT p s).ej+(Int.ofNat f.x.length-Int.ofNat (dJ (dT p s).aP q))<=max s.rL 0
   rw[PD,PC];simp only[Int.ofNat_eq_natCast];omega
 · by_cases e:g.p=p
   · exact .inl (by simp[e])
   · exact .inr (rM.2 (.inr ⟨rN.2 ⟨aj,e⟩,λb_=>ti bj g aj b_⟩))
 · rcases rM.1 aj with e|⟨e,_⟩
   · exact .inl (by rw[e];simp)
   · exact .inr (rN.1 e).1
 · cases aj:da (fq q f.x (dT p s)).2.aP p with
   |none=>rfl
   |some g=>
    obtain⟨h1,aa⟩:=nz aj
    rcases rM.1 h1 with e|⟨e,_⟩
    · rw[e] at aa;exact absurd aa.symm uL
    · exact absurd aa (rN.1 e).2
def ll(cx:List (a1×Nat))(s:dd):Prop:=∀p,de cx p<=de s.ts p
theorem Hn{cx:List (a1×Nat)}{s:dd}(h:ll cx s)(p x:a1):de cx p<(fq p x s).1/\ll (gu cx p (fq p x s).1) (fq p x s).2:=by
 refine⟨by have:=h p;show _<de s.ts p+1;omega,λq=>?_⟩
 show de (gu cx p (de s.ts p+1)) q<=de (gu s.ts p (de s.ts p+1)) q
 rw[yO,yO]
 split
 · exact Nat.le_refl _
 · exact h q
theorem Ho{cx:List (a1×Nat)}{s:dd}(h:ll cx s)(p:a1):ll cx (dT p s):=h
theorem Hp{l:List eE}(aB:(l.map (·.f.p)).Nodup){f:b7}:f∈jg l<-> ∃d∈l,d.f=f:=by
 unfold jg
 rw[List.mem_map]
 constructor
 · rintro⟨p,aZ,e⟩
   obtain⟨d,al,Hq⟩:=List.mem_map.1 ((te _).subset aZ)
   refine⟨d,al,?_⟩
   have:=yL aB d al
   rw[Hq] at this
   rw[this] at e
   rw[<-e,<-Hq]
 · rintro⟨d,al,rfl⟩
   refine⟨d.f.p,(te _).symm.subset (List.mem_map.2 ⟨d,al,rfl⟩),?_⟩
   rw[yL aB d al]
theorem Hr:∀{l:List a1},l.Pairwise (λa b=>gU a b=true)->l.Nodup->l.Pairwise (λa b=>dA a b=true)
 |[],_,_=>.nil
 |a::l,ae,aB=>by
  obtain⟨s1,s2⟩:=List.pairwise_cons.1 ae
  obtain⟨aY,bQ⟩:=List.nodup_cons.1 aB
  refine List.pairwise_cons.2 ⟨λb ad=>?_,Hr s2 bQ⟩
  have h1:=s1 b ad
  simp only[gU,Bool.not_eq_true'] at h1
  cases aa:dA a b with
  |true=>rfl
  |false=>
   have:=vK a b aa h1
   subst this
   exact absurd ad aY
theorem PF{l:List eE}(aB:(l.map (·.f.p)).Nodup):(jg l).Pairwise (λa b=>dA a.p b.p=true):=by
 unfold jg
 rw[List.pairwise_map]
 exact Hr (Ce _) ((te _).symm.nodup aB)
theorem Cj(l:List eE):(jg l).length=l.length:=by
 unfold jg
 rw[List.length_map,(te _).length_eq,List.length_map]
def Hs(a b:List b7)(cm:List a1):Prop:=(∀f∈a,f.p∈cm\/f∈b)/\a.Pairwise (λx y=>dA x.p y.p=true)
theorem Ht{l m:List eE}(aq:(l.map (·.f.p)).Nodup)(hm:(m.map (·.f.p)).Nodup){cm:List a1}(h:ha (l.map (·.f)) (m.map (·.f)) cm):Hs (jg l) (jg m) cm:=by
 refine⟨λf hf=>?_,PF aq⟩
 obtain⟨d,al,rfl⟩:=(Hp aq).1 hf
 rcases h d.f (List.mem_map.2 ⟨d,al,rfl⟩) with h|h
 · exact .inl h
 · obtain⟨e,he,vN⟩:=List.mem_map.1 h
   exact .inr ((Hp hm).2 ⟨e,he,vN⟩)
end Go.Proofs.h3
