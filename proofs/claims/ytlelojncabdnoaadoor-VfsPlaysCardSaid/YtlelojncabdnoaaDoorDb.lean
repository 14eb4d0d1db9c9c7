/-
  PROVED HERE: contracts of functions (Db). No condition beside each statement's own.
-/
import Derived.Test.YtlelojncabdnoaaDoorDa
import Derived.Test.YtlelojncabdnoaaDoorTx
import Derived.Test.YtlelojncabdnoaaDoorAx
set_option linter.unusedVariables false
set_option linter.unusedSimpArgs false
set_option maxRecDepth 100000
set_option maxHeartbeats 1000000
namespace Go.Proofs.hD
open Go aS Go.Proofs
variable {Q:aU->aB->Prop} {R:bM->Prop}
structure dz(α:Type) where
 k:List UInt8
 v:α
 born:Nat
def fw{α:Type}(enc:α->I)(x:dz α):dj:=⟨.str x.k,enc x.v,x.born⟩
def jf{α:Type}(p:List UInt8)(x:dz α):Bool:=decide (p=x.k)
def qM{α:Type}(q:α->Bool):List α->Nat->Option (Nat×α)
 |[],_=>none
 |x::l,j=>if q x=true then some (j,x) else qM q l (j+1)
theorem Da{α:Type}{q:α->Bool}:∀{l:List α} {j:Nat},(∀x∈l,q x=false)->qM q l j=none
 |[],_,_=>rfl
 |x::l,j,h=>by
  rw[qM,if_neg (by rw[h x (List.mem_cons_self ..)];simp)]
  exact Da λy aP=>h y (List.mem_cons_of_mem _ aP)
theorem zD{α:Type}{enc:α->I}{x:dz α}:∀{l:List (dz α)} {j:Nat},x∈l->(l.map (·.k)).Nodup->∃i,qM (jf x.k) l j=some (j+i,x)/\uT i (l.map (fw enc))=(l.filter λy=>!jf x.k y).map (fw enc)/\(∀v:α,oL (enc v) (.str x.k) i (l.map (fw enc))=(l.map λy=>if y.k=x.k then⟨y.k,v,y.born⟩ else y).map (fw enc))/\qZ i (l.map (fw enc))=.str x.k
 |[],_,h,_=>by cases h
 |y::l,j,h,a8=>by
  rw[List.map_cons,List.nodup_cons] at a8
  by_cases aP:x.k=y.k
  · have U:x=y:=by
      rcases List.mem_cons.1 h with h|h
      · exact h
      · exact absurd (List.mem_map.2 ⟨x,h,aP⟩) a8.1
    subst U
    have b9:∀z∈l,z.k≠x.k:=λz aW e=>a8.1 (List.mem_map.2 ⟨z,aW,e⟩)
    refine⟨0,by rw[qM,if_pos (show jf x.k x=true from decide_eq_true rfl)];rfl,?_,λv=>?_,rfl⟩
    · rw[List.filter_cons_of_neg (by simp[jf])]
      have:l.filter (λy=>!jf x.k y)=l:=List.filter_eq_self.2 λz aW=>by
       have:¬x.k=z.k:=λe=>b9 z aW e.symm
       simp[jf,this]
      rw[this];rfl
    · rw[List.map_cons,List.map_cons,if_pos rfl,List.map_cons]
      have:(l.map λy=>if y.k=x.k then(⟨y.k,v,y.born⟩:dz α) else y)=l:=by
       conv=>rhs;rw[<-List.map_id l]
       exact List.map_congr_left λz aW=>by rw[if_neg (b9 z aW)];rfl
      rw[this];rfl
  · have U:x∈l:=by
      rcases List.mem_cons.1 h with h|h
      · rw[h] at aP;exact absurd rfl aP
      · exact h
    obtain⟨i,h1,aa,ao,aI⟩:=zD (enc:=enc) (j:=j+1) U a8.2
    refine⟨i+1,by rw[qM,if_neg (by simpa[jf] using aP),h1];congr 2;omega,?_,λv=>?_,aI⟩
    · rw[List.map_cons,uT,aa,List.filter_cons_of_pos (by simpa[jf] using aP)];rfl
    · rw[List.map_cons,oL,ao v,List.map_cons,if_neg λe=>aP e.symm];rfl
theorem QU(h:J){α:Type}{enc:α->I}(p:List UInt8)(x:dz α):s7 al h 9 (.str p) (fw enc x).key=some (jf p x):=by
 have ae:cr p x.k=decide (p=x.k):=by
  apply Bool.eq_iff_iff.2
  rw[ha];simp
 show some (cr p x.k)=some (decide (p=x.k))
 rw[ae]
theorem uu{α:Type}{enc:α->I}{h:J}{p:List UInt8}:∀(l:List (dz α)) (j:Nat),jn al h 9 (.str p) (l.map (fw enc)) j=some ((qM (jf p) l j).map λr=>(r.1,enc r.2.v))
 |[],_=>rfl
 |x::l,j=>by
  rw[List.map_cons,jn,QU h p x,qM]
  cases bj:jf p x with
  |true=>simp[fw]
  |false=>
   simp only[Bool.false_eq_true,if_false]
   exact uu l (j+1)
theorem wU(p:List UInt8):mW al 9 (.str p)=true:=by kernel_rfl
theorem wV{T fq:TypeId}(hu:al.underlying T=some (.map 9 fq)){α:Type}{enc:α->I}{h:J}{m c:Nat}{M:List (dz α)}(hm:h.get m=some (.map (M.map (fw enc)) c))(a8:(M.map (·.k)).Nodup){x:dz α}(U:x∈M)(ok:Bool):hF al h T (.map m) (.str x.k) ok=some (if ok=true then .aF [enc x.v,.bool true] else enc x.v):=by
 obtain⟨i,h1,_⟩:=zD (enc:=enc) (j:=0) U a8
 simp only[hF,hu,wU,hm,uu M 0,h1,Option.map,q0]
theorem Db{T fq:TypeId}(hu:al.underlying T=some (.map 9 fq)){z:I}(aW:ek al fq=some z){α:Type}{enc:α->I}{h:J}{m c:Nat}{M:List (dz α)}(hm:h.get m=some (.map (M.map (fw enc)) c)){p:List UInt8}(aC:∀x∈M,x.k≠p)(ok:Bool):hF al h T (.map m) (.str p) ok=some (if ok=true then .aF [z,.bool false] else z):=by
 have h1:=Da (q:=jf p) (l:=M) (j:=0) λx U=>decide_eq_false λe=>aC x U e.symm
 simp only[hF,hu,wU,hm,uu M 0,h1,Option.map,q0,aW]
theorem QV{T fq:TypeId}(hu:al.underlying T=some (.map 9 fq)){α:Type}{enc:α->I}{h:J}{m c:Nat}{M:List (dz α)}(hm:h.get m=some (.map (M.map (fw enc)) c)){p:List UInt8}(aC:∀x∈M,x.k≠p)(v:α):lG al h T (.map m) (.str p) (enc v)=some (h.set m (some (.map ((M++[(⟨p,v,c⟩:dz α)]).map (fw enc)) (c+1)))):=by
 have h1:=Da (q:=jf p) (l:=M) (j:=0) λx U=>decide_eq_false λe=>aC x U e.symm
 simp only[lG,hu,wU,hm,uu M 0,h1,Option.map,List.map_append,List.map_cons,List.map_nil]
 rfl
theorem QW{T fq:TypeId}(hu:al.underlying T=some (.map 9 fq)){α:Type}{enc:α->I}{h:J}{m c:Nat}{M:List (dz α)}(hm:h.get m=some (.map (M.map (fw enc)) c))(a8:(M.map (·.k)).Nodup){x:dz α}(U:x∈M)(v:α):lG al h T (.map m) (.str x.k) (enc v)=some (h.set m (some (.map ((M.map λy=>if y.k=x.k then(⟨y.k,v,y.born⟩:dz α) else y).map (fw enc)) c))):=by
 obtain⟨i,h1,_,ao,aI⟩:=zD (enc:=enc) (j:=0) U a8
 have ad:oK (.str x.k) (qZ i (M.map (fw enc)))=true:=by rw[aI];rfl
 simp only[lG,hu,wU,hm,uu M 0,h1,Option.map,Nat.zero_add,ad,ao]
theorem QX{T fq:TypeId}(hu:al.underlying T=some (.map 9 fq)){α:Type}{enc:α->I}{h:J}{m c:Nat}{M:List (dz α)}(hm:h.get m=some (.map (M.map (fw enc)) c))(a8:(M.map (·.k)).Nodup){x:dz α}(U:x∈M):q1 al h T (.map m) (.str x.k)=some (.aF [],h.set m (some (.map ((M.filter λy=>!jf x.k y).map (fw enc)) c))):=by
 obtain⟨i,h1,aa,_⟩:=zD (enc:=enc) (j:=0) U a8
 simp only[q1,hu,wU,hm,uu M 0,h1,Option.map,Nat.zero_add,aa]
def QY:Nat->List I->J->Option (I×J):=sM
noncomputable def fl:Nat->List I->J->Option (I×J):=CR (o7 [⟨16,[],.bool true⟩]) QY
noncomputable def Y(n:Nat):cJ:=cF al fl n
structure cj where
 nL:Int
 nM:Int
 ax:List bV
 ts:List (bf×Nat)
 e1:Int
def cM(l:List bV)(p:bf):Option bV:=l.find? λf=>decide (f.p=p)
def iL(l:List bV)(g:bV):List bV:=if l.any (λf=>decide (f.p=g.p)) then l.map (λf=>if f.p=g.p then g else f) else l++[g]
def dZ(l:List bV)(p:bf):List bV:=l.filter λf=>!decide (f.p=p)
def cE(l:List (bf×Nat))(p:bf):Nat:=match l.find? λf=>decide (f.1=p) with
 |some f=>f.2
 |none=>0
def e9(l:List (bf×Nat))(p:bf)(n:Nat):List (bf×Nat):=if l.any (λf=>decide (f.1=p)) then l.map (λf=>if f.1=p then(p,n) else f) else l++[(p,n)]
def dE(l:List bV)(p:bf):Nat:=match cM l p with
 |some f=>f.x.length
 |none=>0
def fg(p x:bf)(s:cj):Nat×cj:=(cE s.ts p+1,{s with ax:=iL s.ax ⟨p,x,cE s.ts p+1⟩,ts:=e9 s.ts p (cE s.ts p+1),e1:=s.e1+(Int.ofNat x.length-Int.ofNat (dE s.ax p))})
def d_(p:bf)(s:cj):cj:={s with ax:=dZ s.ax p,e1:=s.e1-Int.ofNat (dE s.ax p)}
def iq(p x:bf)(s:cj):Bool:=!(decide (min s.nL 64<Int.ofNat (s.ax.length+if(cM s.ax p).isSome then 0 else 1))||decide (s.nM<s.e1-Int.ofNat (dE s.ax p)+Int.ofNat x.length))
theorem lx{l:List bV}{p:bf}{f:bV}(h:cM l p=some f):f∈l/\f.p=p:=⟨List.mem_of_find?_eq_some h,by have:=List.find?_some h;simpa using this⟩
theorem qN{l:List bV}{p:bf}(h:cM l p=none):∀f∈l,f.p≠p:=λf hf e=>by
 have:=List.find?_eq_none.1 h f hf
 simp[e] at this
theorem QZ{l:List bV}(aC:(l.map (·.p)).Nodup){a b:bV}(aJ:a∈l)(ae:b∈l)(e:a.p=b.p):a=b:=by
 induction l with
 |nil=>cases aJ
 |cons c l bc=>
  rw[List.map_cons,List.nodup_cons] at aC
  rcases List.mem_cons.1 aJ with h1|h1<;>rcases List.mem_cons.1 ae with aa|aa
  · rw[h1,aa]
  · exact absurd (List.mem_map.2 ⟨b,aa,by rw[<-e,h1]⟩) aC.1
  · exact absurd (List.mem_map.2 ⟨a,h1,by rw[e,aa]⟩) aC.1
  · exact bc aC.2 h1 aa
theorem Dc{l:List bV}(aC:(l.map (·.p)).Nodup){f:bV}(hf:f∈l):cM l f.p=some f:=by
 cases h:cM l f.p with
 |none=>exact absurd rfl (qN h f hf)
 |some g=>
  obtain⟨h1,aa⟩:=lx h
  rw[QZ aC h1 hf aa]
theorem It{l:List bV}{p:bf}:(l.any λf=>decide (f.p=p))=(cM l p).isSome:=by
 cases h:cM l p with
 |none=>
  have:=qN h
  simp only[Option.isSome_none,List.any_eq_false]
  intro f hf;simpa using this f hf
 |some f=>
  obtain⟨h1,aa⟩:=lx h
  simp only[Option.isSome_some,List.any_eq_true]
  exact⟨f,h1,by simpa using aa⟩
theorem qO{l:List bV}{g f:bV}:f∈iL l g<->f=g\/(f∈l/\f.p≠g.p):=by
 unfold iL
 split
 · rename_i h
   rw[List.any_eq_true] at h
   obtain⟨k,hk,he⟩:=h
   have he:k.p=g.p:=by simpa using he
   constructor
   · intro hf
     obtain⟨y,aP,e⟩:=List.mem_map.1 hf
     by_cases ab:y.p=g.p
     · rw[if_pos ab] at e;exact .inl e.symm
     · rw[if_neg ab] at e;subst e;exact .inr ⟨aP,ab⟩
   · rintro(rfl|⟨h1,aa⟩)
     · exact List.mem_map.2 ⟨k,hk,by rw[if_pos he]⟩
     · exact List.mem_map.2 ⟨f,h1,by rw[if_neg aa]⟩
 · rename_i h
   have ah:∀y∈l,y.p≠g.p:=λy aP e=>h (List.any_eq_true.2 ⟨y,aP,by simpa using e⟩)
   rw[List.mem_append,List.mem_singleton]
   constructor
   · rintro(h1|h1)
     · exact .inr ⟨h1,ah f h1⟩
     · exact .inl h1
   · rintro(h1|h1)
     · exact .inr h1
     · exact .inl h1.1
theorem nN{l:List bV}{p:bf}{f:bV}:f∈dZ l p<->f∈l/\f.p≠p:=by
 unfold dZ
 rw[List.mem_filter]
 simp
theorem Iu{l:List bV}{g:bV}:(iL l g).map (·.p)=if(cM l g.p).isSome then l.map (·.p) else l.map (·.p)++[g.p]:=by
 unfold iL
 rw[It]
 split
 · rw[List.map_map]
   refine List.map_congr_left λf _=>?_
   show(if f.p=g.p then g else f).p=f.p
   split
   · rename_i h;exact h.symm
   · rfl
 · simp
theorem Iv{l:List bV}(aC:(l.map (·.p)).Nodup)(g:bV):((iL l g).map (·.p)).Nodup:=by
 rw[Iu]
 split
 · exact aC
 · rename_i h
   have aA:cM l g.p=none:=by simpa using h
   rw[List.nodup_append]
   refine⟨aC,by simp,λa aJ b ae=>?_⟩
   obtain⟨f,hf,rfl⟩:=List.mem_map.1 aJ
   rw[List.mem_singleton.1 ae]
   exact qN aA f hf
theorem Q0{l:List bV}(aC:(l.map (·.p)).Nodup)(p:bf):((dZ l p).map (·.p)).Nodup:=aC.sublist (List.filter_sublist.map _)
def gj(l:List bV):Nat:=(l.map λf=>f.x.length).sum
theorem wW{l:List bV}(aC:(l.map (·.p)).Nodup)(p:bf):gj (dZ l p)+dE l p=gj l:=by
 induction l with
 |nil=>rfl
 |cons c l bc=>
  rw[List.map_cons,List.nodup_cons] at aC
  have bc:=bc aC.2
  by_cases h:c.p=p
  · have ak:dZ (c::l) p=dZ l p:=by unfold dZ;rw[List.filter_cons_of_neg (by simp[h])]
    have ar:dE (c::l) p=c.x.length:=by unfold dE cM;rw[List.find?_cons_of_pos (by simp[h])]
    have aA:dZ l p=l:=List.filter_eq_self.2 λf hf=>by
     have:f.p≠p:=λe=>aC.1 (List.mem_map.2 ⟨f,hf,by rw[e,h]⟩)
     simp[this]
    rw[ak,ar,aA]
    unfold gj
    rw[List.map_cons,List.sum_cons];omega
  · have ak:dZ (c::l) p=c::dZ l p:=by unfold dZ;rw[List.filter_cons_of_pos (by simp[h])]
    have ar:dE (c::l) p=dE l p:=by unfold dE cM;rw[List.find?_cons_of_neg (by simp[h])]
    rw[ak,ar]
    unfold gj at bc⊢
    rw[List.map_cons,List.sum_cons,List.map_cons,List.sum_cons];omega
theorem Iw{l:List bV}(aC:(l.map (·.p)).Nodup)(g:bV):gj (iL l g)+dE l g.p=gj l+g.x.length:=by
 unfold iL
 rw[It]
 cases h:cM l g.p with
 |none=>
  have ar:dE l g.p=0:=by unfold dE;rw[h]
  rw[ar]
  simp[gj]
 |some f=>
  have ar:dE l g.p=f.x.length:=by unfold dE;rw[h]
  rw[ar]
  simp only[Option.isSome_some,if_true]
  obtain⟨h1,aa⟩:=lx h
  clear h ar
  induction l with
  |nil=>cases h1
  |cons c l bc=>
   rw[List.map_cons,List.nodup_cons] at aC
   unfold gj at bc⊢
   rw[List.map_cons,List.map_cons,List.sum_cons,List.map_cons,List.sum_cons]
   rcases List.mem_cons.1 h1 with e|h1
   · subst e
     have aA:l.map (λf=>if f.p=g.p then g else f)=l:=by
      conv=>rhs;rw[<-List.map_id l]
      refine List.map_congr_left λy aP=>?_
      rw[if_neg λe=>aC.1 (List.mem_map.2 ⟨y,aP,by rw[e,aa]⟩)];rfl
     rw[aA,if_pos aa];omega
   · have ab:c.p≠g.p:=λe=>aC.1 (List.mem_map.2 ⟨f,h1,by rw[aa,e]⟩)
     have:=bc aC.2 h1
     rw[if_neg ab];omega
theorem Ix{l:List bV}(g:bV):(iL l g).length=l.length+if(cM l g.p).isSome then 0 else 1:=by
 have:=congrArg List.length (Iu (l:=l) (g:=g))
 rw[List.length_map] at this
 rw[this]
 split<;>simp
theorem uv(l:List (bf×Nat))(p:bf)(n:Nat)(q:bf):cE (e9 l p n) q=if q=p then n else cE l q:=by
 unfold e9
 split
 · rename_i h
   induction l with
   |nil=>simp at h
   |cons c l bc=>
    unfold cE at bc⊢
    rw[List.map_cons]
    by_cases ab:c.1=p
    · rw[if_pos ab]
      by_cases bj:q=p
      · rw[List.find?_cons_of_pos (by simp[bj]),if_pos bj]
      · rw[List.find?_cons_of_neg (by simpa usingλe=>bj e.symm),if_neg bj,List.find?_cons_of_neg (by simpa[ab] usingλe=>bj e.symm)]
        by_cases aJ:(l.any λf=>decide (f.1=p))=true
        · have:=bc aJ;rw[if_neg bj] at this;exact this
        · have aA:l.map (λf=>if f.1=p then(p,n) else f)=l:=by
            conv=>rhs;rw[<-List.map_id l]
            refine List.map_congr_left λy aP=>?_
            rw[if_neg λe=>aJ (List.any_eq_true.2 ⟨y,aP,by simpa using e⟩)];rfl
          rw[aA]
    · rw[if_neg ab]
      have aJ:(l.any λf=>decide (f.1=p))=true:=by simpa[ab] using h
      have:=bc aJ
      by_cases bj:c.1=q
      · rw[List.find?_cons_of_pos (by simpa using bj),List.find?_cons_of_pos (by simpa using bj),if_neg λe=>ab (bj.trans e)]
      · rw[List.find?_cons_of_neg (by simpa using bj),List.find?_cons_of_neg (by simpa using bj)]
        exact this
 · rename_i h
   have ah:∀y∈l,y.1≠p:=λy aP e=>h (List.any_eq_true.2 ⟨y,aP,by simpa using e⟩)
   unfold cE
   rw[List.find?_append]
   by_cases bj:q=p
   · subst bj
     have:l.find? (λf=>decide (f.1=q))=none:=List.find?_eq_none.2 λy aP=>by simpa using ah y aP
     rw[this,if_pos rfl]
     simp
   · rw[if_neg bj]
     cases hf:l.find? (λf=>decide (f.1=q)) with
     |some f=>rfl
     |none=>
      have:¬p=q:=λe=>bj e.symm
      simp[this]
structure ir(s:cj):Prop where
 dG:(s.ax.map (·.p)).Nodup
 ia:s.e1=Int.ofNat (gj s.ax)
 wX:Int.ofNat s.ax.length<=max s.nL 0/\s.ax.length<=64
 lv:s.e1<=max s.nM 0
def mP(a b:List bV)(Ba:List bf):Prop:=∀f∈a,f.p∈Ba\/f∈b
theorem Iy{s:cj}(h:ir s){p x:bf}(aj:iq p x s=true):ir (fg p x s).2/\mP s.ax (fg p x s).2.ax [p]/\mP (fg p x s).2.ax s.ax [p]/\cM (fg p x s).2.ax p=some ⟨p,x,(fg p x s).1⟩:=by
 unfold iq at aj
 simp only[Bool.not_eq_true',Bool.or_eq_false_iff,decide_eq_false_iff_not] at aj
 obtain⟨ba,bH⟩:=aj
 have iW:=Iv h.dG ⟨p,x,cE s.ts p+1⟩
 have ad:=Iw h.dG ⟨p,x,cE s.ts p+1⟩
 simp only at ad
 have ar:=Ix (l:=s.ax) ⟨p,x,cE s.ts p+1⟩
 simp only at ar
 have kO:=h.ia
 have kB:s.e1+(Int.ofNat x.length-Int.ofNat (dE s.ax p))=Int.ofNat (gj (iL s.ax ⟨p,x,cE s.ts p+1⟩)):=by
  rw[kO];simp only[Int.ofNat_eq_natCast];omega
 refine⟨⟨iW,kB,?_,?_⟩,λf hf=>?_,λf hf=>?_,Dc iW (qO.2 (.inl rfl))⟩
 · show Int.ofNat (iL s.ax ⟨p,x,cE s.ts p+1⟩).length<=max s.nL 0/\(iL s.ax ⟨p,x,cE s.ts p+1⟩).length<=64
   rw[ar]
   simp only[Int.ofNat_eq_natCast] at ba⊢
   split at ba<;>simp_all<;>omega
 · show s.e1+(Int.ofNat x.length-Int.ofNat (dE s.ax p))<=max s.nM 0
   simp only[Int.ofNat_eq_natCast] at bH⊢
   omega
 · by_cases e:f.p=p
   · exact .inl (by simp[e])
   · exact .inr (qO.2 (.inr ⟨hf,e⟩))
 · rcases qO.1 hf with e|⟨e,_⟩
   · exact .inl (by rw[e];simp)
   · exact .inr e
theorem zE{s:cj}(h:ir s)(p:bf):ir (d_ p s)/\mP s.ax (d_ p s).ax [p]/\mP (d_ p s).ax s.ax [p]/\cM (d_ p s).ax p=none:=by
 have ad:=wW h.dG p
 have kO:=h.ia
 have vY:=h.wX
 have tk:=h.lv
 have hle:(dZ s.ax p).length<=s.ax.length:=List.length_filter_le ..
 have kB:s.e1-Int.ofNat (dE s.ax p)=Int.ofNat (gj (dZ s.ax p)):=by
  rw[kO];simp only[Int.ofNat_eq_natCast];omega
 refine⟨⟨Q0 h.dG p,kB,?_,?_⟩,λf hf=>?_,λf hf=>.inr (nN.1 hf).1,?_⟩
 · show Int.ofNat (dZ s.ax p).length<=_/\(dZ s.ax p).length<=64
   simp only[Int.ofNat_eq_natCast] at vY⊢
   have av:(d_ p s).nL=s.nL:=rfl
   rw[av]
   omega
 · show s.e1-Int.ofNat (dE s.ax p)<=max s.nM 0
   simp only[Int.ofNat_eq_natCast]
   omega
 · by_cases e:f.p=p
   · exact .inl (by simp[e])
   · exact .inr (nN.2 ⟨hf,e⟩)
 · cases an:cM (d_ p s).ax p with
   |none=>rfl
   |some f=>
    obtain⟨h1,aa⟩:=lx an
    exact absurd aa (nN.1 h1).2
theorem Iz{s:cj}(h:ir s){p q:bf}{f:bV}(hf:cM s.ax p=some f)(bj:cM s.ax q=none):ir (fg q f.x (d_ p s)).2/\mP s.ax (fg q f.x (d_ p s)).2.ax [p,q]/\mP (fg q f.x (d_ p s)).2.ax s.ax [p,q]/\cM (fg q f.x (d_ p s)).2.ax q=some ⟨q,f.x,(fg q f.x (d_ p s)).1⟩/\cM (fg q f.x (d_ p s)).2.ax p=none:=by
 obtain⟨t1,t2,t3,t4⟩:=zE h p
 obtain⟨f1,f2⟩:=lx hf
 have vH:p≠q:=λe=>by rw[e,bj] at hf;cases hf
 have Dd:dE s.ax p=f.x.length:=by unfold dE;rw[hf]
 have k8:cM (d_ p s).ax q=none:=by
  cases an:cM (d_ p s).ax q with
  |none=>rfl
  |some g=>
   obtain⟨h1,aa⟩:=lx an
   exact absurd aa (qN bj g (nN.1 h1).1)
 have Q1:dE (d_ p s).ax q=0:=by unfold dE;rw[k8]
 have hlen:(dZ s.ax p).length+1<=s.ax.length:=by
  have:(dZ s.ax p).length<s.ax.length:=List.length_filter_lt_length_iff_exists.2 ⟨f,f1,by simp[f2]⟩
  omega
 have vY:=h.wX
 have tk:=h.lv
 have kO:=h.ia
 have ad:=Iw t1.dG ⟨q,f.x,cE (d_ p s).ts q+1⟩
 simp only at ad
 have ar:=Ix (l:=(d_ p s).ax) ⟨q,f.x,cE (d_ p s).ts q+1⟩
 simp only at ar
 have iW:=Iv t1.dG ⟨q,f.x,cE (d_ p s).ts q+1⟩
 have Q2:(d_ p s).e1=s.e1-Int.ofNat f.x.length:=by show s.e1-Int.ofNat (dE s.ax p)=_;rw[Dd]
 have Q3:=t1.ia
 refine⟨⟨iW,?_,?_,?_⟩,λg an=>?_,λg an=>?_,Dc iW (qO.2 (.inl rfl)),?_⟩
 · show(d_ p s).e1+(Int.ofNat f.x.length-Int.ofNat (dE (d_ p s).ax q))=Int.ofNat (gj (iL (d_ p s).ax ⟨q,f.x,cE (d_ p s).ts q+1⟩))
   rw[Q3];simp only[Int.ofNat_eq_natCast];omega
 · show Int.ofNat (iL (d_ p s).ax ⟨q,f.x,cE (d_ p s).ts q+1⟩).length<=max s.nL 0/\(iL (d_ p s).ax ⟨q,f.x,cE (d_ p s).ts q+1⟩).length<=64
   rw[ar,k8]
   have:(d_ p s).ax.length=(dZ s.ax p).length:=rfl
   simp only[Int.ofNat_eq_natCast,Option.isSome_none] at vY⊢
   simp only[Bool.false_eq_true,if_false]
   omega
 · show(d_ p s).e1+(Int.ofNat f.x.length-Int.ofNat (dE (d_ p s).ax q))<=max s.nM 0
   rw[Q2,Q1];simp only[Int.ofNat_eq_natCast];omega
 · by_cases e:g.p=p
   · exact .inl (by simp[e])
   · exact .inr (qO.2 (.inr ⟨nN.2 ⟨an,e⟩,λcw=>qN bj g an cw⟩))
 · rcases qO.1 an with e|⟨e,_⟩
   · exact .inl (by rw[e];simp)
   · exact .inr (nN.1 e).1
 · cases an:cM (fg q f.x (d_ p s)).2.ax p with
   |none=>rfl
   |some g=>
    obtain⟨h1,aa⟩:=lx an
    rcases qO.1 h1 with e|⟨e,_⟩
    · rw[e] at aa;exact absurd aa.symm vH
    · exact absurd aa (nN.1 e).2
def nO(iO:List (bf×Nat))(s:cj):Prop:=∀p,cE iO p<=cE s.ts p
theorem IA{iO:List (bf×Nat)}{s:cj}(h:nO iO s)(p x:bf):cE iO p<(fg p x s).1/\nO (e9 iO p (fg p x s).1) (fg p x s).2:=by
 refine⟨by have:=h p;show _<cE s.ts p+1;omega,λq=>?_⟩
 show cE (e9 iO p (cE s.ts p+1)) q<=cE (e9 s.ts p (cE s.ts p+1)) q
 rw[uv,uv]
 split
 · exact Nat.le_refl _
 · exact h q
theorem IB{iO:List (bf×Nat)}{s:cj}(h:nO iO s)(p:bf):nO iO (d_ p s):=h
theorem Q4{l:List e0}(aC:(l.map (·.f.p)).Nodup){f:bV}:f∈mb l<-> ∃d∈l,d.f=f:=by
 unfold mb
 rw[List.mem_map]
 constructor
 · rintro⟨p,a8,e⟩
   obtain⟨d,ak,IC⟩:=List.mem_map.1 ((sL _).subset a8)
   refine⟨d,ak,?_⟩
   have:=wT aC d ak
   rw[IC] at this
   rw[this] at e
   rw[<-e,<-IC]
 · rintro⟨d,ak,rfl⟩
   refine⟨d.f.p,(sL _).symm.subset (List.mem_map.2 ⟨d,ak,rfl⟩),?_⟩
   rw[wT aC d ak]
theorem ID:∀{l:List bf},l.Pairwise (λa b=>hE a b=true)->l.Nodup->l.Pairwise (λa b=>c7 a b=true)
 |[],_,_=>.nil
 |a::l,ad,aC=>by
  obtain⟨s1,s2⟩:=List.pairwise_cons.1 ad
  obtain⟨aE,a_⟩:=List.nodup_cons.1 aC
  refine List.pairwise_cons.2 ⟨λb ae=>?_,ID s2 a_⟩
  have h1:=s1 b ae
  simp only[hE,Bool.not_eq_true'] at h1
  cases aa:c7 a b with
  |true=>rfl
  |false=>
   have:=uq a b aa h1
   subst this
   exact absurd ae aE
theorem Q5{l:List e0}(aC:(l.map (·.f.p)).Nodup):(mb l).Pairwise (λa b=>c7 a.p b.p=true):=by
 unfold mb
 rw[List.pairwise_map]
 exact ID (C9 _) ((sL _).symm.nodup aC)
theorem Q6(l:List e0):(mb l).length=l.length:=by
 unfold mb
 rw[List.length_map,(sL _).length_eq,List.length_map]
end Go.Proofs.hD
