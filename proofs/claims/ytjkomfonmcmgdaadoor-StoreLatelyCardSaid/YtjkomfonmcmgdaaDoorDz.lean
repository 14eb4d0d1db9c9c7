/-
  PROVED HERE: contracts of functions (Dz). No condition beside each statement's own.
-/
import Derived.Test.YtjkomfonmcmgdaaDoorDy
import Derived.Test.YtjkomfonmcmgdaaDoorDa
set_option linter.unusedVariables false
set_option linter.unusedSimpArgs false
set_option maxRecDepth 100000
set_option maxHeartbeats 1000000
namespace Go.Proofs.hJ
open Go a8 Go.Proofs gp Go.Proofs.hK
section
variable {D:Type} {P:Program} {enc:D->List I} {w:Nat} {el sT:TypeId}
end
open Go a8 Go.Proofs gp Go.Proofs.hK Go.ChangeShapes Go.WideShapes Go.ChangeAt Go.RowKit Go.ChangeMaps
theorem WX{H:Type}{enc:TypeId×Value->H}{W:World}{base:Nat}{sp:Nat->Bool}{held:Bool}{fuel:Nat}{v:Value}{x:DataW H×List MemPlace}(aD:Cell.okWide Tryd.prog W .any base 22 v)(h:DataW.trod enc Tryd.prog W 0 sp held fuel 22 [v]=some x):
  ∃(hE:a5) (rows:List (ee×List I×Nat)),∀B,∃u,∀(μ:bb) (g:ab),sK rows μ g B->(∀x∈rows,EF μ W x.1 x.2.1 x.2.2)/\z2 g.n g u hE/\a2 μ u v:=by
 have hu:Tryd.prog.underlying 5=some (.int .u8):=by kernel_rfl
 rcases open_ints Ay hu (by kernel_rfl) h with⟨e,_⟩|⟨a,len,cap,jY,e,_⟩
 · cases e
   exact⟨[],[],λB=>⟨.bd,λμ g _=>⟨by simp,.inl ⟨rfl,rfl⟩,rfl⟩⟩⟩
 · cases e
   obtain⟨c,el,fz,ae⟩:=WA Ay aD
   obtain⟨hE,rows,ai,an⟩:=WE h
   refine⟨hE,(⟨a.block,0,c.size⟩,[],el)::rows,λB=>?_⟩
   obtain⟨z,aP⟩:=an (B+1) B
   refine⟨z,λμ g LA=>?_⟩
   obtain⟨aa,ad,aq⟩:=LA 0 _ rfl
   simp only[Nat.add_zero] at aa ad aq
   have WY:sK rows μ g (B+1):=(Wy (r1:=[(⟨a.block,0,c.size⟩,[],el)]) (r2:=rows) (by rw[List.singleton_append];exact LA)).2
   obtain⟨bJ,bR⟩:=aP μ g _ aa aq WY
   refine⟨λx J=>?_,bJ,bR⟩
   rcases List.mem_cons.1 J with rfl|J
   · exact⟨c,fz,ae,λj v aF=>by simp at aF,Nat.zero_add _⟩
   · exact WC (ai x J) _
def kx(k:Nat):a5:=[109,46,84]++[UInt8.ofNat (97+k %26),UInt8.ofNat (97+k/26)]
abbrev hy(k:Nat):aZ:=.mk 6 (kx k) [] [] none
theorem WZ{a b:Nat}(aw:a<40)(ae:b<40)(h:kx a=kx b):a=b:=by
 unfold kx at h
 simp only[List.cons_append,List.nil_append,List.cons.injEq,and_true,true_and] at h
 have aa:=congrArg UInt8.toNat h.1
 have ad:=congrArg UInt8.toNat h.2
 rw[UInt8.toNat_ofNat',UInt8.toNat_ofNat'] at aa ad
 omega
theorem EL{k:Nat}(an:k<40):hY (some (hy k))=0:=by
 have h:(List.range 40).all (λk=>Nat.beq (hY (some (hy k))) 0)=true:=by kernel_rfl
 exact Nat.eq_of_beq_eq_true (List.all_eq_true.1 h k (List.mem_range.2 an))
def d_(k:Nat)(O:List Nat):List Nat:=O.filter λj=>decide (j≠k)
theorem nh{k j:Nat}{O:List Nat}:j∈d_ k O<->j∈O/\j≠k:=by simp[d_]
theorem EM{k:Nat}{O:List Nat}(h:k∉O):d_ k O=O:=List.filter_eq_self.2 λj aF=>by
 rw[decide_eq_true_iff];intro e;subst e;exact h aF
def uN(cap:Nat)(V:List Nat)(k:Nat):List Nat:=if k∈V then d_ k V++[k] else if V.length<cap then V++[k] else(V++[k]).drop 1
theorem EN{k:Nat}:∀{V:List Nat},V.Nodup->k∈V->(d_ k V++[k]).Perm V
 |[],_,h=>by cases h
 |v::V,aH,h=>by
  obtain⟨aa,ad⟩:=List.nodup_cons.1 aH
  by_cases e:v=k
  · subst e
    have:d_ v (v::V)=V:=by
     show List.filter _ _=_
     rw[List.filter_cons_of_neg (by simp)]
     exact EM aa
    rw[this]
    exact List.perm_append_comm (l₂:=[v])
  · have:d_ k (v::V)=v::d_ k V:=List.filter_cons_of_pos (by simpa using e)
    rw[this]
    refine List.Perm.cons v (EN ad ?_)
    rcases List.mem_cons.1 h with h|h
    · exact absurd h.symm e
    · exact h
theorem W0{cap k:Nat}{O:List Nat}(aH:O.Nodup):uN cap (O.drop (O.length-cap)) k=(d_ k O++[k]).drop ((d_ k O++[k]).length-cap):=by
 obtain⟨A,V,h8,fY,e⟩:∃A V,A=O.take (O.length-cap)/\V=O.drop (O.length-cap)/\O=A++V:=⟨_,_,rfl,rfl,(List.take_append_drop _ _).symm⟩
 have YS:A.length=O.length-cap:=by rw[h8,List.length_take];omega
 have YT:V.length=O.length-(O.length-cap):=by rw[fY,List.length_drop]
 rw[<-fY]
 rw[e] at aH
 obtain⟨aM,bo,bF⟩:=List.nodup_append.1 aH
 unfold uN
 have ai:d_ k O=d_ k A++d_ k V:=by rw[e];exact List.filter_append ..
 by_cases an:k∈V
 · rw[if_pos an]
   have W1:k∉A:=λh=>bF k h k an rfl
   rw[ai,EM W1,List.append_assoc]
   have:=(EN bo an).length_eq
   have ak:(A++(d_ k V++[k])).length-cap=A.length:=by rw[List.length_append,this];omega
   rw[ak,List.drop_left]
 · rw[if_neg an,ai,EM an,List.append_assoc]
   by_cases af:V.length<cap
   · rw[if_pos af]
     have:A=[]:=List.eq_nil_of_length_eq_zero (by omega)
     rw[this]
     show _=(([]:List Nat)++(V++[k])).drop _
     have h0:(d_ k ([]:List Nat)++(V++[k])).length-cap=0:=by
      show(([]:List Nat)++(V++[k])).length-cap=0
      simp;omega
     rw[h0];rfl
   · rw[if_neg af]
     have ak:(d_ k A++(V++[k])).length-cap=(d_ k A).length+1:=by rw[List.length_append,List.length_append,List.length_singleton];omega
     rw[ak,<-List.drop_drop,List.drop_left]
theorem room_le{cap n:Nat}{l:List bI}(h:l.length<=cap):hM cap n l=l:=by
 cases n with
 |zero=>rfl
 |succ n=>rw[hM,if_neg (by omega)]
theorem W2(i:Nat)(e:bI):hN i (fK i e)=e:=by
 unfold fK
 by_cases h:e.id=i
 · rw[if_pos h];unfold hN;rw[if_pos h];rfl
 · rw[if_neg h];unfold hN;rw[if_neg h]
theorem W3{i:Nat}{e:bI}(h:e.id≠i):hN i e=e:=by unfold hN;rw[if_neg h]
theorem W4{i:Nat}{e:bI}(h:e.id≠i):fK i e=e:=by unfold fK;rw[if_neg h]
structure jf(s:b7)(V O:List Nat)(bl:Nat->Nat):Prop where
 ok:dG s
 a9:∀e∈s.l,e.pins=0/\e.args=[]/\e.ret=0/\e.ns=[]/\e.k=6/\∃k∈V,e.id=bl k/\e.nm=kx k
 ids:(s.l.map (·.id)).Perm (V.map bl)
 ord:V.Pairwise λa b=>∀x∈s.l,∀y∈s.l,x.id=bl a->y.id=bl b->x.used<y.used
 inj:∀a∈O,∀b∈O,bl a=bl b->a=b
 aY:∀a∈O,bl a<=s.given
 sub:∀a∈V,a∈O
 er:V.Nodup
 up:∀a∈O,a<40
 len:V.length<=s.cap
theorem jf.at{s:b7}{V O:List Nat}{bl:Nat->Nat}(bT:jf s V O bl){k:Nat}(h:k∈V):∃e∈s.l,e.id=bl k:=by
 have:bl k∈s.l.map (·.id):=bT.ids.mem_iff.2 (List.mem_map.2 ⟨k,h,rfl⟩)
 obtain⟨e,he,aa⟩:=List.mem_map.1 this
 exact⟨e,he,aa⟩
theorem jf.size{s:b7}{V O:List Nat}{bl:Nat->Nat}(bT:jf s V O bl):s.l.length=V.length:=by
 have:=bT.ids.length_eq
 simpa using this
theorem LB(k:Nat)(s:b7):cC (hy k) s=ic 6 (kx k) [] [] 0 s:=by
 rw[cC];rfl
theorem jf.is{s:b7}{V O:List Nat}{bl:Nat->Nat}(bT:jf s V O bl){k:Nat}(an:k<40){e:bI}(he:e∈s.l):bI.is 6 (kx k) [] [] 0 e=true<->k∈V/\e.id=bl k:=by
 obtain⟨_,ad,aq,aC,bC,j,fX,hk,nI⟩:=bT.a9 e he
 unfold bI.is
 rw[ad,aq,aC,bC,nI]
 constructor
 · intro h
   have:kx j=kx k:=by simpa using h
   have:=WZ (bT.up _ (bT.sub _ fX)) an this
   subst this
   exact⟨fX,hk⟩
 · rintro⟨aa,dd⟩
   have:j=k:=bT.inj _ (bT.sub _ fX) _ (bT.sub _ aa) (by rw[<-hk,dd])
   subst this;simp
theorem jf.lt{s:b7}{V O:List Nat}{bl:Nat->Nat}(bT:jf s V O bl):∀e∈s.l,e.id≠s.given+1/\e.used<s.clock+1:=λe he=>by
 have:=bT.ok.aY e he
 exact⟨by omega,by omega⟩
theorem W5{bl:Nat->Nat}{k:Nat}:(λj=>if j=k then bl k else bl j)=bl:=by
 funext j
 by_cases h:j=k
 · subst h;simp
 · rw[if_neg h]
theorem W6{s:b7}{V O:List Nat}{bl:Nat->Nat}{k:Nat}(bT:jf s V O bl)(an:k<40)(fY:k∈V):
  ∃a6,(dF (hy k) s).1=bl k/\gq (bl k) (dF (hy k) s).2=(0,a6)/\a6.cap=s.cap/\jf a6 (d_ k V++[k]) (d_ k O++[k]) bl:=by
 obtain⟨e,he,gU⟩:=bT.at fY
 obtain⟨q,aE⟩:∃q,s.l.find? (bI.is 6 (kx k) [] [] 0)=some q:=by
  cases J:s.l.find? (bI.is 6 (kx k) [] [] 0) with
  |some q=>exact⟨q,rfl⟩
  |none=>exact absurd ((bT.is an he).2 ⟨fY,gU⟩) (by simpa using List.find?_eq_none.1 J e he)
 have W7:=List.mem_of_find?_eq_some aE
 have lF:q.id=bl k:=((bT.is an W7).1 (List.find?_some aE)).2
 have EO:cC (hy k) s=(bl k,{s with clock:=s.clock+1,l:=s.l.map (eL (bl k) (s.clock+1))}):=by
  rw[LB];unfold ic;rw[aE];simp only[lF]
 have hlen:=bT.size
 have ar:=bT.len
 have hint:dF (hy k) s=(bl k,{s with clock:=s.clock+1,l:=(s.l.map (eL (bl k) (s.clock+1))).map (fK (bl k))}):=by
  unfold dF
  rw[EO]
  simp only[hd]
  rw[room_le (by simp;omega)]
 have tid:∀x:bI,(eL (bl k) (s.clock+1) x).id=x.id:=λx=>by unfold eL;split<;>rfl
 have W8:∃z,mn (bl k) ((s.l.map (eL (bl k) (s.clock+1))).map (fK (bl k)))=some z/\z.pins≠0:=by
  obtain⟨z,aP⟩:=WH (i:=bl k) (l:=(s.l.map (eL (bl k) (s.clock+1))).map (fK (bl k))) ⟨_,List.mem_map.2 ⟨_,List.mem_map.2 ⟨e,he,rfl⟩,rfl⟩,by rw[(qI _).id,tid,gU]⟩
  refine⟨z,aP,?_⟩
  obtain⟨dk,eB⟩:=D4 aP
  obtain⟨x,J,rfl⟩:=List.mem_map.1 dk
  rw[WG,if_pos (by rw[<-eB,(qI _).id])]
  omega
 obtain⟨z,aP,W9⟩:=W8
 have nN:((s.l.map (eL (bl k) (s.clock+1))).map (fK (bl k))).map (hN (bl k))=s.l.map (eL (bl k) (s.clock+1)):=by
  rw[List.map_map]
  conv=>rhs;rw[<-List.map_id (s.l.map _)]
  exact List.map_congr_left λx _=>W2 _ x
 have gz:gq (bl k) (dF (hy k) s).2=(0,{s with clock:=s.clock+1,l:=s.l.map (eL (bl k) (s.clock+1))}):=by
  rw[hint]
  unfold gq
  simp only[aP,if_neg W9,hd,nN]
  rw[room_le (by simp;omega)]
 have EP:dG {s with clock:=s.clock+1,l:=s.l.map (eL (bl k) (s.clock+1))}:=by
  have:=JY (bl k) (D3 (hy k) bT.ok)
  rw[gz] at this;exact this
 have xC:=EN bT.er fY
 have AA:∀x∈s.l,(x.id=bl k->(eL (bl k) (s.clock+1) x).used=s.clock+1)/\(x.id≠bl k->(eL (bl k) (s.clock+1) x).used=x.used):=λx _=>by
  unfold eL
  exact⟨λh=>by rw[if_pos h],λh=>by rw[if_neg h]⟩
 have mem:∀a∈d_ k O++[k],a∈O:=λa aw=>by
  rcases List.mem_append.1 aw with aw|aw
  · exact(nh.1 aw).1
  · rw[List.mem_singleton.1 aw];exact bT.sub _ fY
 refine⟨_,by rw[hint],gz,rfl,⟨EP,?_,?_,?_,?_,?_,?_,?_,?_,?_⟩⟩
 · intro x J
   obtain⟨y,aO,rfl⟩:=List.mem_map.1 J
   obtain⟨aa,ad,aq,aC,bC,j,fX,hk,nI⟩:=bT.a9 y aO
   have a9:(eL (bl k) (s.clock+1) y).pins=y.pins/\(eL (bl k) (s.clock+1) y).args=y.args/\(eL (bl k) (s.clock+1) y).ret=y.ret/\(eL (bl k) (s.clock+1) y).ns=y.ns/\(eL (bl k) (s.clock+1) y).k=y.k/\(eL (bl k) (s.clock+1) y).nm=y.nm:=by
    unfold eL;split<;>exact⟨rfl,rfl,rfl,rfl,rfl,rfl⟩
   obtain⟨b8,cG,dw,gF,gf,m1⟩:=a9
   exact⟨b8.trans aa,cG.trans ad,dw.trans aq,gF.trans aC,gf.trans bC,j,xC.mem_iff.2 fX,(tid y).trans hk,m1.trans nI⟩
 · have:(s.l.map (eL (bl k) (s.clock+1))).map (·.id)=s.l.map (·.id):=by
     rw[List.map_map];exact List.map_congr_left λx _=>tid x
   show((s.l.map (eL (bl k) (s.clock+1))).map (·.id)).Perm _
   rw[this]
   exact bT.ids.trans (xC.map bl).symm
 · refine List.pairwise_append.2 ⟨?_,List.pairwise_singleton ..,λa aw b ae=>?_⟩
   · refine(bT.ord.filter _).imp_of_mem λ{a b} aw ae h x J y aO aa ad=>?_
     obtain⟨x,jS,rfl⟩:=List.mem_map.1 J
     obtain⟨y,AB,rfl⟩:=List.mem_map.1 aO
     rw[tid] at aa ad
     obtain⟨b8,cG⟩:=nh.1 (show a∈d_ k V from aw)
     obtain⟨bn,cJ⟩:=nh.1 (show b∈d_ k V from ae)
     rw[(AA x jS).2 λe=>cG (bT.inj _ (bT.sub _ b8) _ (bT.sub _ fY) (by rw[<-aa,e])),(AA y AB).2 λe=>cJ (bT.inj _ (bT.sub _ bn) _ (bT.sub _ fY) (by rw[<-ad,e]))]
     exact h x jS y AB aa ad
   · rw[List.mem_singleton.1 ae]
     intro x J y aO aa ad
     obtain⟨x,jS,rfl⟩:=List.mem_map.1 J
     obtain⟨y,AB,rfl⟩:=List.mem_map.1 aO
     rw[tid] at aa ad
     obtain⟨b8,cG⟩:=nh.1 aw
     rw[(AA x jS).2 λe=>cG (bT.inj _ (bT.sub _ b8) _ (bT.sub _ fY) (by rw[<-aa,e])),(AA y AB).1 ad]
     exact(bT.lt x jS).2
 · exactλa aw b ae=>bT.inj a (mem a aw) b (mem b ae)
 · exactλa aw=>bT.aY a (mem a aw)
 · intro a aw
   by_cases h:a=k
   · exact List.mem_append_right _ (by rw[h];exact List.mem_singleton.2 rfl)
   · exact List.mem_append_left _ (nh.2 ⟨bT.sub _ (xC.mem_iff.1 aw),h⟩)
 · exact xC.nodup_iff.2 bT.er
 · exactλa aw=>bT.up a (mem a aw)
 · rw[xC.length_eq];exact ar
def iy(k:Nat)(s:b7):bI:=⟨s.given+1,6,kx k,[],[],0,0,s.clock+1⟩
def gu(k:Nat)(s:b7):bI:=⟨s.given+1,6,kx k,[],[],0,1,s.clock+1⟩
theorem ER{s:b7}{k:Nat}{L:List bI}(fS:∀e∈L,e.id≠s.given+1):gq (s.given+1) {s with given:=s.given+1,clock:=s.clock+1,l:=L++[gu k s]}=(0,hd {s with given:=s.given+1,clock:=s.clock+1,l:=L++[iy k s]}):=by
 have aa:mn (s.given+1) (L++[gu k s])=some (gu k s):=by
  unfold mn
  rw[List.find?_append]
  have:L.find? (λe=>Nat.beq e.id (s.given+1))=none:=List.find?_eq_none.2 λe he h=>fS e he (Nat.eq_of_beq_eq_true h)
  rw[this,Option.none_or,List.find?_singleton,if_pos (by show Nat.beq (s.given+1) (s.given+1)=true;exact Nat.beq_refl _)]
 have ad:(L++[gu k s]).map (hN (s.given+1))=L++[iy k s]:=by
  rw[List.map_append]
  congr 1
  · conv=>rhs;rw[<-List.map_id L]
    exact List.map_congr_left λx J=>W3 (fS x J)
  · show[hN (s.given+1) (gu k s)]=[iy k s]
    unfold hN
    rw[if_pos (show(gu k s).id=s.given+1 from rfl)];rfl
 unfold gq
 simp only[aa,ad]
 rw[if_neg (by show¬1=0;omega)]
theorem W_(d:Nat)(l:List bI):(eF d l).map (·.id)=d_ d (l.map (·.id)):=by
 unfold eF d_
 rw[List.filter_map]
 congr 1
 refine List.filter_congr λe _=>?_
 show(!Nat.beq e.id d)=decide (e.id≠d)
 by_cases h:e.id=d
 · rw[h,Nat.beq_refl,decide_eq_false (λh=>h rfl)];rfl
 · rw[decide_eq_true h]
   cases ae:Nat.beq e.id d with
   |false=>rfl
   |true=>exact absurd (Nat.eq_of_beq_eq_true ae) h
theorem Xa{s:b7}{V O:List Nat}{bl:Nat->Nat}{k:Nat}(bT:jf s V O bl)(an:k<40)(fY:k∉V):dF (hy k) s=(s.given+1,hd {s with given:=s.given+1,clock:=s.clock+1,l:=s.l++[gu k s]}):=by
 have aE:s.l.find? (bI.is 6 (kx k) [] [] 0)=none:=List.find?_eq_none.2 λe he h=>fY ((bT.is an he).1 h).1
 have EO:cC (hy k) s=(s.given+1,{s with given:=s.given+1,clock:=s.clock+1,l:=s.l++[iy k s]}):=by
  rw[LB];unfold ic;rw[aE];rfl
 unfold dF
 rw[EO]
 have:(s.l++[iy k s]).map (fK (s.given+1))=s.l++[gu k s]:=by
  rw[List.map_append]
  congr 1
  · conv=>rhs;rw[<-List.map_id s.l]
    exact List.map_congr_left λx J=>W4 (bT.lt x J).1
  · show[fK (s.given+1) (iy k s)]=[gu k s]
    unfold fK
    rw[if_pos (show(iy k s).id=s.given+1 from rfl)];rfl
 simp only[this]
theorem LC{s:b7}{V O:List Nat}{bl:Nat->Nat}{k:Nat}(bT:jf s V O bl)(an:k<40):(∀a∈d_ k O++[k],∀b∈d_ k O++[k],(if a=k then s.given+1 else bl a)=(if b=k then s.given+1 else bl b)->a=b)/\(∀a∈d_ k O++[k],(if a=k then s.given+1 else bl a)<=s.given+1)/\∀a∈d_ k O++[k],a<40:=by
 refine⟨?_,?_,?_⟩
 · intro a aw b ae h
   have LD:∀c∈d_ k O++[k],(c∈O/\c≠k)\/c=k:=λc af=>by
    rcases List.mem_append.1 af with af|af
    · exact .inl (nh.1 af)
    · exact .inr (List.mem_singleton.1 af)
   rcases LD a aw with⟨b8,cG⟩|rfl<;>rcases LD b ae with⟨bn,cJ⟩|rfl
   · simp only[if_neg cG,if_neg cJ] at h
     exact bT.inj a b8 b bn h
   · simp only[if_neg cG,if_true] at h
     have:=bT.aY a b8;omega
   · simp only[if_neg cJ,if_true] at h
     have:=bT.aY b bn;omega
   · rfl
 · intro a aw
   show(if a=k then s.given+1 else bl a)<=s.given+1
   by_cases e:a=k
   · rw[if_pos e];exact Nat.le_refl _
   · rw[if_neg e]
     rcases List.mem_append.1 aw with aw|aw
     · have:=bT.aY a (nh.1 aw).1;omega
     · exact absurd (List.mem_singleton.1 aw) e
 · intro a aw
   rcases List.mem_append.1 aw with aw|aw
   · exact bT.up a (nh.1 aw).1
   · rw[List.mem_singleton.1 aw];exact an
theorem LF{s:b7}{V O W:List Nat}{bl:Nat->Nat}{k:Nat}{L:List bI}(bT:jf s V O bl)(an:k<40)(fY:k∉V)(fS:∀e∈L,e∈s.l)(iH:W.Sublist V)(LG:(L.map (·.id)).Perm (W.map bl))(af:W.length+1<=s.cap)(EP:dG {s with given:=s.given+1,clock:=s.clock+1,l:=L++[iy k s]}):
  jf {s with given:=s.given+1,clock:=s.clock+1,l:=L++[iy k s]} (W++[k]) (d_ k O++[k]) (λj=>if j=k then s.given+1 else bl j):=by
 have AD:∀a∈W,a∈V:=λa aw=>iH.subset aw
 have ES:∀a∈W,a≠k:=λa aw e=>fY (e▸AD a aw)
 have ET:∀a∈W,(if a=k then s.given+1 else bl a)=bl a:=λa aw=>if_neg (ES a aw)
 have LH:(if k=k then s.given+1 else bl k)=s.given+1:=if_pos rfl
 obtain⟨aM,bo,bF⟩:=LC bT an
 have ids:((L++[iy k s]).map (·.id)).Perm ((W++[k]).map λj=>if j=k then s.given+1 else bl j):=by
  rw[List.map_append,List.map_append]
  refine List.Perm.append ?_ ?_
  · have:(W.map λj=>if j=k then s.given+1 else bl j)=W.map bl:=List.map_congr_left ET
    rw[this];exact LG
  · show[s.given+1].Perm [if k=k then s.given+1 else bl k]
    rw[LH]
 refine⟨EP,?_,ids,?_,?_,?_,?_,?_,?_,?_⟩
 · intro e he
   rcases List.mem_append.1 he with he|he
   · obtain⟨aa,ad,aq,aC,bC,j,fX,hk,nI⟩:=bT.a9 e (fS e he)
     have:e.id∈W.map bl:=LG.mem_iff.1 (List.mem_map.2 ⟨e,he,rfl⟩)
     obtain⟨a,aw,Xb⟩:=List.mem_map.1 this
     have:a=j:=bT.inj _ (bT.sub _ (AD a aw)) _ (bT.sub _ fX) (by rw[Xb,hk])
     subst this
     exact⟨aa,ad,aq,aC,bC,a,List.mem_append_left _ aw,by rw[ET a aw];exact hk,nI⟩
   · rw[List.mem_singleton.1 he]
     exact⟨rfl,rfl,rfl,rfl,rfl,k,List.mem_append_right _ (List.mem_singleton.2 rfl),LH.symm,rfl⟩
 · have old:∀a∈W,∀x∈L++[iy k s],x.id=(if a=k then s.given+1 else bl a)->x∈s.l/\x.id=bl a:=λa aw x J h=>by
     rw[ET a aw] at h
     rcases List.mem_append.1 J with J|J
     · exact⟨fS x J,h⟩
     · rw[List.mem_singleton.1 J] at h
       have h:s.given+1=bl a:=h
       have:=bT.aY a (bT.sub _ (AD a aw))
       omega
   refine List.pairwise_append.2 ⟨?_,List.pairwise_singleton ..,λa aw b ae=>?_⟩
   · refine(bT.ord.sublist iH).imp_of_mem λ{a b} aw ae h x J y aO aa ad=>?_
     obtain⟨bM,cU⟩:=old a aw x J aa
     obtain⟨hV,iX⟩:=old b ae y aO ad
     exact h x bM y hV cU iX
   · rw[List.mem_singleton.1 ae]
     intro x J y aO aa ad
     obtain⟨bM,cU⟩:=old a aw x J aa
     rw[if_pos rfl] at ad
     rcases List.mem_append.1 aO with aO|aO
     · exact absurd ad (bT.lt y (fS y aO)).1
     · rw[List.mem_singleton.1 aO]
       exact(bT.lt x bM).2
 · exact aM
 · exact bo
 · intro a aw
   rcases List.mem_append.1 aw with aw|aw
   · exact List.mem_append_left _ (nh.2 ⟨bT.sub _ (AD a aw),ES a aw⟩)
   · exact List.mem_append_right _ aw
 · refine List.nodup_append.2 ⟨bT.er.sublist iH,by simp,λa aw b ae e=>ES a aw (by rw[e];exact List.mem_singleton.1 ae)⟩
 · exact bF
 · rw[List.length_append,List.length_singleton];exact af
theorem Xc{s:b7}{V O:List Nat}{bl:Nat->Nat}{k:Nat}(bT:jf s V O bl)(an:k<40):
  ∃id a6,(dF (hy k) s).1=id/\gq id (dF (hy k) s).2=(0,a6)/\a6.cap=s.cap/\jf a6 (uN s.cap V k) (d_ k O++[k]) (λj=>if j=k then id else bl j):=by
 by_cases fY:k∈V
 · obtain⟨a6,aa,ad,aq,aC⟩:=W6 bT an fY
   refine⟨bl k,a6,aa,ad,aq,?_⟩
   unfold uN
   rw[if_pos fY,W5];exact aC
 have hint:=Xa bT an fY
 have bh:=bT.size
 have hle:=bT.len
 refine⟨s.given+1,?_⟩
 have EU:∀a6,gq (s.given+1) (dF (hy k) s).2=(0,a6)->dG a6:=λa6 h=>by
  have:=JY (s.given+1) (D3 (hy k) bT.ok)
  rw[h] at this;exact this
 by_cases af:V.length<s.cap
 · have ax:hd {s with given:=s.given+1,clock:=s.clock+1,l:=s.l++[gu k s]}={s with given:=s.given+1,clock:=s.clock+1,l:=s.l++[gu k s]}:=by
     simp only[hd];rw[room_le (by simp;omega)]
   have av:hd {s with given:=s.given+1,clock:=s.clock+1,l:=s.l++[iy k s]}={s with given:=s.given+1,clock:=s.clock+1,l:=s.l++[iy k s]}:=by
    simp only[hd];rw[room_le (by simp;omega)]
   have gz:gq (s.given+1) (dF (hy k) s).2=(0,{s with given:=s.given+1,clock:=s.clock+1,l:=s.l++[iy k s]}):=by
    rw[hint,ax,ER λe he=>(bT.lt e he).1,av]
   refine⟨_,by rw[hint],gz,rfl,?_⟩
   unfold uN
   rw[if_neg fY,if_pos af]
   exact LF bT an fY (λe he=>he) (List.Sublist.refl _) bT.ids (by omega) (EU _ gz)
 · have EV:V.length=s.cap:=by omega
   unfold uN
   rw[if_neg fY,if_neg af]
   cases V with
   |nil=>
    have LI:s.cap=0:=by rw[<-EV];rfl
    have xW:s.l=[]:=List.eq_nil_of_length_eq_zero (by rw[bh];rfl)
    have ax:hd {s with given:=s.given+1,clock:=s.clock+1,l:=s.l++[gu k s]}={s with given:=s.given+1,clock:=s.clock+1,l:=[]++[gu k s]}:=by
     simp only[hd,xW,LI]
     congr 1
    have av:hd {s with given:=s.given+1,clock:=s.clock+1,l:=[]++[iy k s]}={s with given:=s.given+1,clock:=s.clock+1,l:=[]}:=by
     simp only[hd,LI]
     congr 1
     have ld:dG {s with given:=s.given+1,clock:=s.clock+1,l:=[iy k s]}:=by
      refine⟨List.pairwise_singleton ..,λe he=>?_,λe he i ag=>?_,λa aw b ae _=>?_,List.pairwise_singleton ..⟩
      · rw[List.mem_singleton.1 he];exact⟨Nat.succ_pos _,Nat.le_refl _,Nat.le_refl _⟩
      · rw[List.mem_singleton.1 he] at ag;exact .inl (List.mem_singleton.1 ag)
      · rw[List.mem_singleton.1 aw,List.mem_singleton.1 ae]
     exact D2 (s:={s with given:=s.given+1,clock:=s.clock+1,l:=[iy k s]}) _ _ ld (λe he=>by rw[List.mem_singleton.1 he];rfl) (Nat.le_refl _)
    have gz:gq (s.given+1) (dF (hy k) s).2=(0,{s with given:=s.given+1,clock:=s.clock+1,l:=[]}):=by
     rw[hint,ax,ER λe he=>(by cases he),av]
    obtain⟨aM,bo,bF⟩:=LC bT an
    exact⟨_,by rw[hint],gz,rfl,EU _ gz,λe he=>(by cases he),.nil,.nil,aM,bo,λa aw=>(by cases aw),.nil,bF,Nat.zero_le _⟩
   |cons v W=>
    have YU:W.length+1=s.cap:=by rw[<-EV];rfl
    obtain⟨cz,cA⟩:=List.nodup_cons.1 bT.er
    have aD:v∈v::W:=List.mem_cons_self ..
    obtain⟨x,J,nf⟩:=bT.at aD
    have hlen:(s.l++[gu k s]).length=s.cap+1:=by rw[List.length_append,bh,EV];rfl
    have LJ:((eF (bl v) s.l).map (·.id)).Perm (W.map bl):=by
     rw[W_]
     have aa:=bT.ids.filter λj=>decide (j≠bl v)
     have ad:((v::W).map bl).filter (λj=>decide (j≠bl v))=W.map bl:=by
      rw[List.map_cons,List.filter_cons_of_neg (by simp)]
      refine List.filter_eq_self.2 λj aF=>?_
      obtain⟨a,aw,rfl⟩:=List.mem_map.1 aF
      rw[decide_eq_true_iff]
      intro e
      have:=bT.inj _ (bT.sub _ (List.mem_cons_of_mem _ aw)) _ (bT.sub _ aD) e
      subst this;exact cz aw
     rw[ad] at aa
     exact aa
    have iq:(eF (bl v) s.l).length=W.length:=by
     have:=LJ.length_eq
     simpa using this
    have sub:∀e∈eF (bl v) s.l,e∈s.l:=λe he=>(mo.1 he).1
    have ax:hd {s with given:=s.given+1,clock:=s.clock+1,l:=s.l++[gu k s]}={s with given:=s.given+1,clock:=s.clock+1,l:=eF (bl v) s.l++[gu k s]}:=by
     simp only[hd]
     congr 1
     rw[hlen,hM,if_pos (by omega)]
     have parts:∀y∈s.l++[gu k s],y.parts=[0]:=λy aO=>by
      rcases List.mem_append.1 aO with aO|aO
      · obtain⟨_,ad,aq,_⟩:=bT.a9 y aO
        show y.ret::y.args=_
        rw[ad,aq]
      · rw[List.mem_singleton.1 aO];rfl
     have LK:lI (s.l++[gu k s]) x=true:=sn.2 ⟨(bT.a9 x J).1,λy aO h=>by
      rw[parts y aO] at h
      have:=(bT.ok.aY x J).1
      have:=List.mem_singleton.1 h
      omega⟩
     have Xd:lI (s.l++[gu k s]) (gu k s)=false:=by
      cases ae:lI (s.l++[gu k s]) (gu k s) with
      |false=>rfl
      |true=>exact absurd (sn.1 ae).1 (by show¬1=0;omega)
     cases ae:ie (s.l++[gu k s]) (s.l++[gu k s]) with
     |none=>
      have:=w_.1 ae x (List.mem_append_left _ J)
      rw[LK] at this;cases this
     |some b=>
      obtain⟨bn,cJ,dr⟩:=so ae
      have CM:b∈s.l:=by
       rcases List.mem_append.1 bn with h|h
       · exact h
       · rw[List.mem_singleton.1 h,Xd] at cJ;cases cJ
      have bi:b.id=bl v:=by
       obtain⟨_,_,_,_,_,j,fX,hk,_⟩:=bT.a9 b CM
       rcases List.mem_cons.1 fX with rfl|fX
       · exact hk
       · have aa:=(List.pairwise_cons.1 bT.ord).1 j fX x J b CM nf hk
         have ad:=dr x (List.mem_append_left _ J) LK
         omega
      show hM s.cap s.cap (eF b.id (s.l++[gu k s]))=_
      have ak:eF b.id (s.l++[gu k s])=eF (bl v) s.l++[gu k s]:=by
       rw[bi]
       unfold eF
       rw[List.filter_append]
       congr 1
       refine List.filter_cons_of_pos ?_
       have aa:=bT.aY v (bT.sub _ aD)
       cases aE:Nat.beq (gu k s).id (bl v) with
       |false=>rfl
       |true=>
        have ad:s.given+1=bl v:=Nat.eq_of_beq_eq_true aE
        omega
      rw[ak,room_le (by rw[List.length_append,iq];show W.length+1<=_;omega)]
    have av:hd {s with given:=s.given+1,clock:=s.clock+1,l:=eF (bl v) s.l++[iy k s]}={s with given:=s.given+1,clock:=s.clock+1,l:=eF (bl v) s.l++[iy k s]}:=by
     simp only[hd];rw[room_le (by rw[List.length_append,iq];show W.length+1<=_;omega)]
    have gz:gq (s.given+1) (dF (hy k) s).2=(0,{s with given:=s.given+1,clock:=s.clock+1,l:=eF (bl v) s.l++[iy k s]}):=by
     rw[hint,ax,ER λe he=>(bT.lt e (sub e he)).1,av]
    exact⟨_,by rw[hint],gz,rfl,LF bT an fY sub (List.sublist_cons_self ..) LJ (by omega) (EU _ gz)⟩
theorem LL{s:b7}{V O:List Nat}{bl:Nat->Nat}(bT:jf s V O bl)(aH:O.Nodup)(fY:V=O.drop (O.length-s.cap)){i:Nat}(ag:i<O.length):if O.length-s.cap<=i then qJ s.l (bl O[i]) (hy O[i]) else∀e∈s.l,e.id≠bl O[i]:=by
 have jM:O[i]∈O:=List.getElem_mem ag
 split
 · rename_i h
   have hm:O[i]∈V:=by
    rw[fY]
    refine List.mem_drop_iff_getElem.2 ⟨i-(O.length-s.cap),by omega,?_⟩
    congr 1;omega
   obtain⟨e,he,aa⟩:=bT.at hm
   obtain⟨_,ad,aq,aC,bC,j,fX,hk,nI⟩:=bT.a9 e he
   have:j=O[i]:=bT.inj _ (bT.sub _ fX) _ jM (by rw[<-hk,aa])
   subst this
   rw[qJ]
   exact⟨e,he,aa,bC,nI,aC,by rw[qK];exact ad,by rw[zZ];exact aq⟩
 · rename_i h
   intro e he aa
   obtain⟨_,_,_,_,_,j,fX,hk,_⟩:=bT.a9 e he
   have:j=O[i]:=bT.inj _ (bT.sub _ fX) _ jM (by rw[<-hk,aa])
   subst this
   rw[fY] at fX
   obtain⟨a,aw,aq⟩:=List.mem_drop_iff_getElem.1 fX
   exact List.pairwise_iff_getElem.1 aH i _ ag (by omega) (by omega) aq.symm
theorem Xe(m c k:Nat)(h:ab){R:a7->Prop}(H:∃aM:Nat,aB (h.room 23) c (0+0)=some (.ptr aM 0)/\∃bo:Nat,arith .rem .i64 (.ofNat k) (.ofNat 26)=some (.int .i64 (.ofNat bo))/\97+bo<9223372036854775808/\∃bF:Nat,e8 Tryd.prog 3 5 (.int .i64 (.ofNat (97+bo))) (h.room 23)=fW.val (.int .u8 (.ofNat bF)) (h.room 23)/\∃b4:Nat,arith .quo .i64 (.ofNat k) (.ofNat 26)=some (.int .i64 (.ofNat b4))/\97+b4<9223372036854775808/\∃cy:Nat,e8 Tryd.prog 3 5 (.int .i64 (.ofNat (97+b4))) (h.room 23)=fW.val (.int .u8 (.ofNat cy)) (h.room 23)/\∃s1:List UInt8,e8 Tryd.prog 22 9 (.slice (h.n+12) 0 2 (.exact 2)) (ab.set (h.room 23) (h.n+12) (some (.cells [.int .u8 (.ofNat bF),.int .u8 (.ofNat cy)] 5 .own 0 0)))=fW.val (.str s1) (ab.set (h.room 23) (h.n+12) (some (.cells [.int .u8 (.ofNat bF),.int .u8 (.ofNat cy)] 5 .own 0 0)))/\3+List.length s1<=1000000000000/\∃cO:Nat,∃di:Nat,∃al:ab,(Y m) (.fn 9) [.ptr aM 0,.ptr (h.n+16) 0] (ab.set (ab.set (h.room 23) (h.n+12) (some (.cells [.int .u8 (.ofNat bF),.int .u8 (.ofNat cy)] 5 .own 0 0))) (h.n+16) (some (.cells [.int .i64 (.ofNat 6),.str ([109,46,84]++s1),.bd,.bd,.br] 43 .own 0 0)))=.ret (.aJ [.int .u64 (.ofNat cO),.int .i64 (.ofNat di)]) al/\aB (ab.set (ab.set (h.room 23) (h.n+12) (some (.cells [.int .u8 (.ofNat bF),.int .u8 (.ofNat cy)] 5 .own 0 0))) (h.n+16) (some (.cells [.int .i64 (.ofNat 6),.str ([109,46,84]++s1),.bd,.bd,.br] 43 .own 0 0))) c (0+0)=some (.ptr aM 0)/\e8 Tryd.prog 3 5 (.int .i64 (.ofNat (97+bo))) (ab.set (ab.set (h.room 23) (h.n+12) (some (.cells [.int .u8 (.ofNat bF),.int .u8 (.ofNat cy)] 5 .own 0 0))) (h.n+16) (some (.cells [.int .i64 (.ofNat 6),.str ([109,46,84]++s1),.bd,.bd,.br] 43 .own 0 0)))=fW.val (.int .u8 (.ofNat bF)) (ab.set (ab.set (h.room 23) (h.n+12) (some (.cells [.int .u8 (.ofNat bF),.int .u8 (.ofNat cy)] 5 .own 0 0))) (h.n+16) (some (.cells [.int .i64 (.ofNat 6),.str ([109,46,84]++s1),.bd,.bd,.br] 43 .own 0 0)))/\e8 Tryd.prog 3 5 (.int .i64 (.ofNat (97+b4))) (ab.set (ab.set (h.room 23) (h.n+12) (some (.cells [.int .u8 (.ofNat bF),.int .u8 (.ofNat cy)] 5 .own 0 0))) (h.n+16) (some (.cells [.int .i64 (.ofNat 6),.str ([109,46,84]++s1),.bd,.bd,.br] 43 .own 0 0)))=fW.val (.int .u8 (.ofNat cy)) (ab.set (ab.set (h.room 23) (h.n+12) (some (.cells [.int .u8 (.ofNat bF),.int .u8 (.ofNat cy)] 5 .own 0 0))) (h.n+16) (some (.cells [.int .i64 (.ofNat 6),.str ([109,46,84]++s1),.bd,.bd,.br] 43 .own 0 0)))/\e8 Tryd.prog 22 9 (.slice (h.n+12) 0 2 (.exact 2)) (ab.set (ab.set (h.room 23) (h.n+12) (some (.cells [.int .u8 (.ofNat bF),.int .u8 (.ofNat cy)] 5 .own 0 0))) (h.n+16) (some (.cells [.int .i64 (.ofNat 6),.str ([109,46,84]++s1),.bd,.bd,.br] 43 .own 0 0)))=fW.val (.str s1) (ab.set (ab.set (h.room 23) (h.n+12) (some (.cells [.int .u8 (.ofNat bF),.int .u8 (.ofNat cy)] 5 .own 0 0))) (h.n+16) (some (.cells [.int .i64 (.ofNat 6),.str ([109,46,84]++s1),.bd,.bd,.br] 43 .own 0 0)))/\a4 Tryd.prog Tryd.f7 (Y m) [1,1,1,0,1,0] (au.mk [(0,.ptr c 0),(1,.int .i64 (.ofNat k)),(5,.int .u64 (.ofNat cO)),(6,.int .i64 (.ofNat di)),(7,.bd),(8,.int .i64 (.ofNat 0))] [] .none al) (λca ck=>∃fu:Nat,∃gJ:Nat,∃v1:I,∃aA:ab,∃bW:Env,ca=.exit 0/\ck=au.mk bW [] .none aA/\cd [(0,.ptr c 0),(1,.int .i64 (.ofNat k)),(5,.int .u64 (.ofNat fu)),(6,.int .i64 (.ofNat gJ)),(7,v1)] bW/\∃v2:I,∃aU:ab,eh Tryd.prog (ab.push aA (.cells [.int .i64 (.ofNat k)] 3 .own 0 0)) 27 (some 27) v1 (.slice aA.n 0 1 (.exact 1))=some (v2,aU)/\I.cw v2=true/\∃bB:ab,a8.storeCells aU c (0+1) [v2]=some bB/\k<40/\∃bO:ab,a8.storeCells bB c (0+2+k*1) [.int .u64 (.ofNat fu)]=some bO/\(gJ=0->∃fT:Nat,aB bO c (0+0)=some (.ptr fT 0)/\∃ib:Nat,∃dK:ab,(Y m) (.fn 10) [.ptr fT 0,.int .u64 (.ofNat fu)] bO=.ret (.int .i64 (.ofNat ib)) dK/\R (.ret (.bool (cW (.ofNat ib) (.ofNat 0))) dK))/\(¬gJ=0->R (.ret (.bool false) bO)))):
  R (Y (m+1) (.fn 7) [.ptr c 0,.int .i64 (.ofNat k)] h):=
 dq (intr:=b5) [(13,.a9 .p),(15,.a9 (.n .i64)),(17,.a9 (.n .u8)),(19,.a9 (.n .i64)),(21,.a9 (.n .u8)),(23,.a9 .st),(1081,.t),(34,.a9 .o),(4000,.hH [0,1,5,6,7,8] [(.exit 0,[(0,.is (.ptr c 0)),(1,.is (.int .i64 (.ofNat k))),(5,.n .u64),(6,.n .i64),(7,.o)])])] [(0,.v (.ptr c 0)),(1,.v (.int .i64 (.ofNat k)))] Tryd.func7 (by kernel_rfl) (by kernel_rfl) (by kernel_rfl) rfl (Eq.mp (by kernel_rfl) H)
theorem Xf(call:bt)(c k id i:Nat)(w:I)(h:ab){Q:bk->au->Prop}(H:∃v1:I,aB h c (0+1)=some v1/\∃aM:Nat,cr Tryd.prog h 27 v1=some (.int .i64 (.ofNat aM))/\(i<aM->∃bo:Nat,∃bF:Nat,aB h c (0+1)=some (.slice bo 0 bF (.aS 1))/\i<bF/\∃b4:Nat,aB h bo (0+i*1)=some (.int .i64 (.ofNat b4))/\(b4=k->i+1<9223372036854775808/\Q .nrm (au.mk [(0,.ptr c 0),(1,.int .i64 (.ofNat k)),(5,.int .u64 (.ofNat id)),(6,.int .i64 (.ofNat 0)),(7,w),(8,.int .i64 (.ofNat (i+1)))] [] .none h))/\(¬b4=k->∃cy:Nat,∃cO:Nat,aB h c (0+1)=some (.slice cy 0 cO (.aS 1))/\i<cO/\∃di:Nat,aB h cy (0+i*1)=some (.int .i64 (.ofNat di))/\∃v2:I,∃al:ab,eh Tryd.prog (ab.push h (.cells [.int .i64 (.ofNat di)] 3 .own 0 0)) 27 (some 27) w (.slice h.n 0 1 (.exact 1))=some (v2,al)/\i+1<9223372036854775808/\Q .nrm (au.mk [(0,.ptr c 0),(1,.int .i64 (.ofNat k)),(5,.int .u64 (.ofNat id)),(6,.int .i64 (.ofNat 0)),(7,v2),(8,.int .i64 (.ofNat (i+1)))] [] .none al)))/\(¬i<aM->Q (.exit 0) (au.mk [(0,.ptr c 0),(1,.int .i64 (.ofNat k)),(5,.int .u64 (.ofNat id)),(6,.int .i64 (.ofNat 0)),(7,w),(8,.int .i64 (.ofNat i))] [] .none h))):
  a4 Tryd.prog Tryd.f7 call [1,1,1,0,1,0,0] ⟨[(0,.ptr c 0),(1,.int .i64 (.ofNat k)),(5,.int .u64 (.ofNat id)),(6,.int .i64 (.ofNat 0)),(7,w),(8,.int .i64 (.ofNat i))],[],.none,h⟩ Q:=
 dZ [(34,.a9 .o),(42,.a9 (.tJ (.aS 1))),(52,.a9 (.tJ (.aS 1)))] [0,1,5,6,7,8] [(0,.v (.ptr c 0)),(1,.v (.int .i64 (.ofNat k))),(5,.v (.int .u64 (.ofNat id))),(6,.v (.int .i64 (.ofNat 0))),(7,.o w),(8,.v (.int .i64 (.ofNat i)))] rfl (Eq.mp (by kernel_rfl) H)
theorem Xg(m a b:Nat)(v:I)(h:ab){R:a7->Prop}(H:∃bn:Bool,∃al:ab,(Y m) (.fn 5) [] h=.ret (.bool bn) al/\bn=true/\∃aM:Nat,arith .rem .u8 (.ofNat a) (.ofNat 40)=some (.int .u8 (.ofNat aM))/\∃bo:Nat,e8 Tryd.prog 5 3 (.int .u8 (.ofNat aM)) al=fW.val (.int .i64 (.ofNat bo)) al/\1+bo<9223372036854775808/\∃bF:Nat,arith .rem .u8 (.ofNat b) (.ofNat 40)=some (.int .u8 (.ofNat bF))/\∃b4:Nat,e8 Tryd.prog 5 3 (.int .u8 (.ofNat bF)) al=fW.val (.int .i64 (.ofNat b4)) al/\∃cy:Nat,∃aA:ab,(Y m) (.fn 6) [.int .i64 (.ofNat b4)] al=.ret (.ptr cy 0) aA/\a4 Tryd.prog Tryd.f3 (Y m) [1,1,1,1,1,0,1,0] (au.mk [(2,v),(7,.int .i64 (.ofNat (1+bo))),(8,.int .i64 (.ofNat b4)),(9,.ptr cy 0),(10,.ptr aA.n 0),(11,.int .i64 (.ofNat 0))] [] .none (ab.push aA (.cells [.ptr cy 0,.bd,.int .u64 (.ofNat 0),.int .u64 (.ofNat 0),.int .u64 (.ofNat 0),.int .u64 (.ofNat 0),.int .u64 (.ofNat 0),.int .u64 (.ofNat 0),.int .u64 (.ofNat 0),.int .u64 (.ofNat 0),.int .u64 (.ofNat 0),.int .u64 (.ofNat 0),.int .u64 (.ofNat 0),.int .u64 (.ofNat 0),.int .u64 (.ofNat 0),.int .u64 (.ofNat 0),.int .u64 (.ofNat 0),.int .u64 (.ofNat 0),.int .u64 (.ofNat 0),.int .u64 (.ofNat 0),.int .u64 (.ofNat 0),.int .u64 (.ofNat 0),.int .u64 (.ofNat 0),.int .u64 (.ofNat 0),.int .u64 (.ofNat 0),.int .u64 (.ofNat 0),.int .u64 (.ofNat 0),.int .u64 (.ofNat 0),.int .u64 (.ofNat 0),.int .u64 (.ofNat 0),.int .u64 (.ofNat 0),.int .u64 (.ofNat 0),.int .u64 (.ofNat 0),.int .u64 (.ofNat 0),.int .u64 (.ofNat 0),.int .u64 (.ofNat 0),.int .u64 (.ofNat 0),.int .u64 (.ofNat 0),.int .u64 (.ofNat 0),.int .u64 (.ofNat 0),.int .u64 (.ofNat 0),.int .u64 (.ofNat 0)] 31 .own 0 0))) (λca ck=>∃cO:Nat,∃di:Nat,∃fu:Nat,∃gJ:Nat,∃aU:ab,∃bW:Env,ca=.exit 0/\ck=au.mk bW [] .none aU/\cd [(2,v),(7,.int .i64 (.ofNat cO)),(8,.int .i64 (.ofNat di)),(9,.ptr fu 0),(10,.ptr gJ 0)] bW/\a4 Tryd.prog Tryd.f3 (Y m) [1,1,1,1,1,1,0,1,0] (au.mk [(2,v),(7,.int .i64 (.ofNat cO)),(8,.int .i64 (.ofNat di)),(9,.ptr fu 0),(10,.ptr gJ 0),(12,.int .i64 (.ofNat 0))] [] .none aU) (λca ck=>∃fT:Nat,∃ib:Nat,∃iw:Nat,∃bB:ab,∃cM:Env,ca=.exit 2/\ck=au.mk cM [] .none bB/\cd [(8,.int .i64 (.ofNat fT)),(9,.ptr ib 0),(10,.ptr iw 0)] cM/\a4 Tryd.prog Tryd.f3 (Y m) [1,1,1,1,1,1,1,0,1,0] (au.mk [(8,.int .i64 (.ofNat fT)),(9,.ptr ib 0),(10,.ptr iw 0),(13,.int .i64 (.ofNat 0))] [] .none bB) (λca ck=>∃bO:ab,∃eW:Env,ca=.exit 4/\ck=au.mk eW [] .none bO/\cd [] eW/\R (.ret (.bool true) bO))))):
  R (Y (m+1) (.fn 3) [.int .u8 (.ofNat a),.int .u8 (.ofNat b),v] h):=
 dq (intr:=b5) [(1017,.f),(19,.a9 (.n .u8)),(20,.a9 (.n .i64)),(23,.a9 (.n .u8)),(24,.a9 (.n .i64)),(4000,.hH [2,7,8,9,10,11] [(.exit 0,[(2,.io v),(7,.n .i64),(8,.n .i64),(9,.p),(10,.p)])]),(4002,.hH [2,7,8,9,10,12] [(.exit 2,[(8,.n .i64),(9,.p),(10,.p)])]),(4004,.hH [8,9,10,13] [(.exit 4,[])])] [(0,.v (.int .u8 (.ofNat a))),(1,.v (.int .u8 (.ofNat b))),(2,.o v)] Tryd.func3 (by kernel_rfl) (by kernel_rfl) (by kernel_rfl) rfl (Eq.mp (by kernel_rfl) H)
theorem Xh(call:bt)(n g1 p c k:Nat)(v:I)(h:ab){Q:bk->au->Prop}(H:(k<n->∃al:ab,call (.fn 7) [.ptr c 0,.int .i64 (.ofNat k)] h=.ret (.bool true) al/\k+1<9223372036854775808/\Q .nrm (au.mk [(2,v),(7,.int .i64 (.ofNat n)),(8,.int .i64 (.ofNat g1)),(9,.ptr p 0),(10,.ptr c 0),(11,.int .i64 (.ofNat (k+1)))] [] .none al))/\(¬k<n->Q (.exit 0) (au.mk [(2,v),(7,.int .i64 (.ofNat n)),(8,.int .i64 (.ofNat g1)),(9,.ptr p 0),(10,.ptr c 0),(11,.int .i64 (.ofNat k))] [] .none h))):
  a4 Tryd.prog Tryd.f3 call [1,1,1,1,1,0,1,0,0] ⟨[(2,v),(7,.int .i64 (.ofNat n)),(8,.int .i64 (.ofNat g1)),(9,.ptr p 0),(10,.ptr c 0),(11,.int .i64 (.ofNat k))],[],.none,h⟩ Q:=
 dZ [(1038,.f),(37,.a9 (.is (.bool true)))] [2,7,8,9,10,11] [(2,.o v),(7,.v (.int .i64 (.ofNat n))),(8,.v (.int .i64 (.ofNat g1))),(9,.v (.ptr p 0)),(10,.v (.ptr c 0)),(11,.v (.int .i64 (.ofNat k)))] rfl (Eq.mp (by kernel_rfl) H)
theorem Xi(call:bt)(b off N n g1 p c i:Nat)(cp:c7)(h:ab){Q:bk->au->Prop}(H:(i<N->(i<40->i<N/\∃aM:Nat,aB h b (off+i*1)=some (.int .u8 (.ofNat aM))/\∃bo:Nat,e8 Tryd.prog 5 3 (.int .u8 (.ofNat aM)) h=fW.val (.int .i64 (.ofNat bo)) h/\∃bF:Nat,arith .rem .i64 (.ofNat bo) (.ofNat n)=some (.int .i64 (.ofNat bF))/\∃al:ab,call (.fn 7) [.ptr c 0,.int .i64 (.ofNat bF)] h=.ret (.bool true) al/\i+1<9223372036854775808/\Q .nrm (au.mk [(2,.slice b off N cp),(7,.int .i64 (.ofNat n)),(8,.int .i64 (.ofNat g1)),(9,.ptr p 0),(10,.ptr c 0),(12,.int .i64 (.ofNat (i+1)))] [] .none al))/\(¬i<40->Q (.exit 2) (au.mk [(2,.slice b off N cp),(7,.int .i64 (.ofNat n)),(8,.int .i64 (.ofNat g1)),(9,.ptr p 0),(10,.ptr c 0),(12,.int .i64 (.ofNat i))] [] .none h)))/\(¬i<N->Q (.exit 2) (au.mk [(2,.slice b off N cp),(7,.int .i64 (.ofNat n)),(8,.int .i64 (.ofNat g1)),(9,.ptr p 0),(10,.ptr c 0),(12,.int .i64 (.ofNat i))] [] .none h))):
  a4 Tryd.prog Tryd.f3 call [1,1,1,1,1,1,0,1,0,0] ⟨[(2,.slice b off N cp),(7,.int .i64 (.ofNat n)),(8,.int .i64 (.ofNat g1)),(9,.ptr p 0),(10,.ptr c 0),(12,.int .i64 (.ofNat i))],[],.none,h⟩ Q:=
 dZ [(1058,.f),(56,.a9 (.n .i64)),(57,.a9 (.is (.bool true)))] [2,7,8,9,10,12] [(2,.v (.slice b off N cp)),(7,.v (.int .i64 (.ofNat n))),(8,.v (.int .i64 (.ofNat g1))),(9,.v (.ptr p 0)),(10,.v (.ptr c 0)),(12,.v (.int .i64 (.ofNat i)))] rfl (Eq.mp (by kernel_rfl) H)
theorem Xj(call:bt)(n g1 p c i:Nat)(v:I)(h:ab){Q:bk->au->Prop}(H:∃aM:Nat,cr Tryd.prog h 22 v=some (.int .i64 (.ofNat aM))/\¬i<aM/\Q (.exit 2) (au.mk [(2,v),(7,.int .i64 (.ofNat n)),(8,.int .i64 (.ofNat g1)),(9,.ptr p 0),(10,.ptr c 0),(12,.int .i64 (.ofNat i))] [] .none h)):
  a4 Tryd.prog Tryd.f3 call [1,1,1,1,1,1,0,1,0,0] ⟨[(2,v),(7,.int .i64 (.ofNat n)),(8,.int .i64 (.ofNat g1)),(9,.ptr p 0),(10,.ptr c 0),(12,.int .i64 (.ofNat i))],[],.none,h⟩ Q:=
 dZ [(1044,.f)] [2,7,8,9,10,12] [(2,.o v),(7,.v (.int .i64 (.ofNat n))),(8,.v (.int .i64 (.ofNat g1))),(9,.v (.ptr p 0)),(10,.v (.ptr c 0)),(12,.v (.int .i64 (.ofNat i)))] rfl (Eq.mp (by kernel_rfl) H)
theorem Xk(call:bt)(g1 p c i:Nat)(h:ab){Q:bk->au->Prop}(H:∃v1:I,aB h c (0+1)=some v1/\∃aM:Nat,cr Tryd.prog h 27 v1=some (.int .i64 (.ofNat aM))/\(i<aM->∃bo:Nat,∃bF:Nat,aB (h.room 19) c (0+1)=some (.slice bo 0 bF (.aS 1))/\i<bF/\∃b4:Nat,aB (h.room 19) bo (0+i*1)=some (.int .i64 (.ofNat b4))/\b4<40/\∃cy:Nat,aB (h.room 19) c (0+2+b4*1)=some (.int .u64 (.ofNat cy))/\∃cO:Nat,∃al:ab,call (.fn 8) [.ptr p 0,.int .u64 (.ofNat cy)] (h.room 19)=.ret (.aJ [.ptr cO 0,.bool true]) al/\∃v2:I,aB al c (0+1)=some v2/\∃di:Nat,cr Tryd.prog al 27 v2=some (.int .i64 (.ofNat di))/\∃dk:Int,arith .sub .i64 (.ofNat di) (.ofNat g1)=some (.int .i64 dk)/\hp true (gN dk (.ofNat i))=true/\i+1<9223372036854775808/\Q .nrm (au.mk [(8,.int .i64 (.ofNat g1)),(9,.ptr p 0),(10,.ptr c 0),(13,.int .i64 (.ofNat (i+1)))] [] .none al))/\(¬i<aM->Q (.exit 4) (au.mk [(8,.int .i64 (.ofNat g1)),(9,.ptr p 0),(10,.ptr c 0),(13,.int .i64 (.ofNat i))] [] .none h))):
  a4 Tryd.prog Tryd.f3 call [1,1,1,1,1,1,1,0,1,0,0] ⟨[(8,.int .i64 (.ofNat g1)),(9,.ptr p 0),(10,.ptr c 0),(13,.int .i64 (.ofNat i))],[],.none,h⟩ Q:=
 dZ [(63,.a9 .o),(74,.a9 (.tJ (.aS 1))),(77,.a9 (.n .i64)),(81,.a9 (.n .u64)),(82,.a9 (.g_ [.p,.is (.bool true)])),(90,.a9 .o),(93,.a9 (.z .i64)),(94,.a9 (.is (.bool true))),(1095,.f)] [8,9,10,13] [(8,.v (.int .i64 (.ofNat g1))),(9,.v (.ptr p 0)),(10,.v (.ptr c 0)),(13,.v (.int .i64 (.ofNat i)))] rfl (Eq.mp (by kernel_rfl) H)
theorem Xl(call:bt)(g1 p c i:Nat)(h:ab){Q:bk->au->Prop}(H:∃v1:I,aB h c (0+1)=some v1/\∃aM:Nat,cr Tryd.prog h 27 v1=some (.int .i64 (.ofNat aM))/\(i<aM->∃bo:Nat,∃bF:Nat,aB (h.room 19) c (0+1)=some (.slice bo 0 bF (.aS 1))/\i<bF/\∃b4:Nat,aB (h.room 19) bo (0+i*1)=some (.int .i64 (.ofNat b4))/\b4<40/\∃cy:Nat,aB (h.room 19) c (0+2+b4*1)=some (.int .u64 (.ofNat cy))/\∃al:ab,call (.fn 8) [.ptr p 0,.int .u64 (.ofNat cy)] (h.room 19)=.ret (.aJ [.br,.bool false]) al/\∃v2:I,aB al c (0+1)=some v2/\∃cO:Nat,cr Tryd.prog al 27 v2=some (.int .i64 (.ofNat cO))/\∃dk:Int,arith .sub .i64 (.ofNat cO) (.ofNat g1)=some (.int .i64 dk)/\hp false (gN dk (.ofNat i))=true/\i+1<9223372036854775808/\Q .nrm (au.mk [(8,.int .i64 (.ofNat g1)),(9,.ptr p 0),(10,.ptr c 0),(13,.int .i64 (.ofNat (i+1)))] [] .none al))/\(¬i<aM->Q (.exit 4) (au.mk [(8,.int .i64 (.ofNat g1)),(9,.ptr p 0),(10,.ptr c 0),(13,.int .i64 (.ofNat i))] [] .none h))):
  a4 Tryd.prog Tryd.f3 call [1,1,1,1,1,1,1,0,1,0,0] ⟨[(8,.int .i64 (.ofNat g1)),(9,.ptr p 0),(10,.ptr c 0),(13,.int .i64 (.ofNat i))],[],.none,h⟩ Q:=
 dZ [(63,.a9 .o),(74,.a9 (.tJ (.aS 1))),(77,.a9 (.n .i64)),(81,.a9 (.n .u64)),(82,.a9 (.g_ [.is .br,.is (.bool false)])),(90,.a9 .o),(93,.a9 (.z .i64)),(94,.a9 (.is (.bool false))),(1095,.f)] [8,9,10,13] [(8,.v (.int .i64 (.ofNat g1))),(9,.v (.ptr p 0)),(10,.v (.ptr c 0)),(13,.v (.int .i64 (.ofNat i)))] rfl (Eq.mp (by kernel_rfl) H)
abbrev sL(d:Nat):I:=.int .i64 (Int.ofNat d)
theorem AE:kd Tryd.prog (λd:Nat=>[sL d]) 1 3 27 where
 hu:=by kernel_rfl
 fb:=by kernel_rfl
 info:=by
  obtain⟨i,ag⟩:=Option.isSome_iff_exists.1 (show(Tryd.prog.info? 3).isSome=true by kernel_rfl)
  refine⟨i,ag,?_,?_⟩
  · have:(Tryd.prog.info? 3).map (·.size)=some 1:=by kernel_rfl
    rw[ag] at this;simpa using this
  · have:(Tryd.prog.info? 3).map (λi=>Nat.ble i.bytes 1000)=some true:=by kernel_rfl
    rw[ag] at this
    exact Nat.le_of_ble_eq_true (by simpa using this)
 zero:=⟨.int .i64 0,by kernel_rfl,rfl⟩
 size:=by kernel_rfl
 len:=λ_=>rfl
 cell:=λ_=>rfl
 pos:=by decide
abbrev EW(B:Nat)(h:ab)(v:I)(l:List Nat):Prop:=cH (λd=>[sL d]) 1 3 B h v l
def uO(B c:Nat)(dQ:I)(d:Nat):Prop:=d<B\/d=c\/∃k cp,dQ=.slice d 0 k cp
structure mq(B p c n:Nat)(y:ab)(s:b7)(O:List Nat)(bl:Nat->Nat)(dQ:I)(G:List Nat):Prop where
 st:fU (uO B c dQ) y p s
 cell:y.get c=some (.cells (.ptr p 0::dQ::G.map hO) 31 .own 0 0)
 EX:G.length=40
 EY:∀k∈O,∀(h:k<40),G[k]'(by omega)=bl k
 ro:EW B y dQ O
 aY:B<=c
 up:c<y.n
 j6:jf s (O.drop (O.length-s.cap)) O bl
 er:O.Nodup
 ol:O.length<=n
 AF:Fit (61*n) s
theorem Xm{i j:Nat}(aF:0<j)(ag:i<1000):arith BinOp.quo .i64 (Int.ofNat i) (Int.ofNat j)=some (I.int .i64 (Int.ofNat (i/j))):=by
 have h:=oz (i/j) (by have:=Nat.div_le_self i j;omega)
 have e:(Int.ofNat i).tdiv (Int.ofNat j)=((i/j:Nat):Int):=rfl
 have cF:¬(Int.ofNat j=0):=by
  have ax:Int.ofNat j=(j:Int):=rfl
  rw[ax];omega
 simp only[arith,if_neg cF,e]
 exact congrArg (λz=>some (I.int .i64 z)) h
theorem AG(n:Nat)(aH:n<256)(h:ab):e8 Tryd.prog 3 5 (.int .i64 (Int.ofNat n)) h=.val (.int .u8 (Int.ofNat n)) h:=CJ (ka:=.i64) (by kernel_rfl) (by kernel_rfl) (by
 have:=wrap_u8 n
 rw[show n %256=n by omega] at this
 exact this)
theorem LM(m:Nat)(hm:1000<=m){B p c n:Nat}{y:ab}{s:b7}{O:List Nat}{bl:Nat->Nat}{dQ:I}{G:List Nat}{k:Nat}(ch:mq B p c n y s O bl dQ G)(an:k<40)(aH:n<=80):
  ∃g a6 sM ky sN,Y (m+4) (.fn 7) [.ptr c 0,.int .i64 (Int.ofNat k)] y=.ret (.bool true) g/\mq B p c (n+1) g a6 (d_ k O++[k]) sM ky sN/\a6.cap=s.cap/\bA (λd=>d<B) y g:=by
 have uv:=ch.up
 have jF:=ch.aY
 have q5:=ch.ol
 have jH:=ch.EX
 have Xn:=cH.lt ch.ro
 obtain⟨id,a6,aa,ad,aq,aC⟩:=Xc ch.j6 an
 rw[W0 ch.er,<-aq] at aC
 obtain⟨H1,AH⟩:∃H,H=(y.room 23).set (y.n+12) (some (.cells [.int .u8 (Int.ofNat (97+k %26)),.int .u8 (Int.ofNat (97+k/26))] 5 .own 0 0)):=⟨_,rfl⟩
 obtain⟨bU,oc⟩:∃H,H=H1.set (y.n+16) (some (.cells [.int .i64 (Int.ofNat 6),.str (kx k),.bd,.bd,.br] 43 .own 0 0)):=⟨_,rfl⟩
 have Xo:H1.n=y.n+23:=by rw[AH];rfl
 have YV:bU.n=y.n+23:=by rw[oc];exact Xo
 have wK:∀d,d<y.n->H1.get d=y.get d:=λd ak=>by rw[AH];exact c5 (by omega) rfl
 have uL:∀d,d<y.n->bU.get d=y.get d:=λd ak=>by rw[oc];exact(c5 (by omega) rfl).trans (wK d ak)
 have LN:∀j,97+j<256->(UInt8.ofNat (97+j)).toNat=97+j:=λj aF=>by rw[UInt8.toNat_ofNat'];omega
 have bJ:k %26<26:=Nat.mod_lt _ (by omega)
 have bR:k/26<2:=by omega
 have Xp:cI [UInt8.ofNat (97+k %26),UInt8.ofNat (97+k/26)]=[.int .u8 (Int.ofNat (97+k %26)),.int .u8 (Int.ofNat (97+k/26))]:=by
  show[I.int .u8 (Int.ofNat (UInt8.ofNat (97+k %26)).toNat),I.int .u8 (Int.ofNat (UInt8.ofNat (97+k/26)).toNat)]=_
  rw[LN _ (by omega),LN _ (by omega)]
 have l0:∀H:ab,H.get (y.n+12)=H1.get (y.n+12)->e8 Tryd.prog 22 9 (.slice (y.n+12) 0 2 (.exact 2)) H=.val (.str [UInt8.ofNat (97+k %26),UInt8.ofNat (97+k/26)]) H:=λH e=>
  Qb (e:=5) (w:=[UInt8.ofNat (97+k %26),UInt8.ofNat (97+k/26)]) (rest:=[]) (by kernel_rfl) (by kernel_rfl) (by kernel_rfl) (.inl rfl) (by rw[e,AH,List.append_nil,Xp];exact ft rfl)
 have mP:fU (λd=>uO B c dQ d\/d=y.n+16) bU p s:=ch.st.move (by omega) (λd ak _ _=>uL d ak) λd ak h=>.inl (by
  rcases h with h|h
  · exact h
  · omega)
 have t2:fL (λd=>uO B c dQ d\/d=y.n+16) bU (hy k) (.ptr (y.n+16) 0):=⟨y.n+16,.bd,.bd,.br,[],.own,0,0,rfl,.inr rfl,by rw[oc];exact ft rfl,.inl ⟨rfl,rfl⟩,.inl ⟨rfl,rfl⟩,rfl,rfl⟩
 have EZ:∀b,uO B c dQ b->b<y.n:=λb ae=>by
  rcases ae with ae|ae|⟨k,cp,ae⟩
  · omega
  · omega
  · exact(Xn b k cp ae).2
 obtain⟨al,aT,cz,uP⟩:=Wr (m+2) (by omega) mP ch.AF (by omega) (λb ae=>by
  rcases ae with ae|ae
  · have:=EZ b ae;omega
  · omega) t2 (EL an)
 rw[aa] at aT
 have aM:=uP.n
 have E0:∀d,uO B c dQ d->al.get d=y.get d:=λd ak=>(uP.get d (by have:=EZ d ak;omega) (.inl ak)).trans (uL d (EZ d ak))
 have LO:al.get c=some (.cells (.ptr p 0::dQ::G.map hO) 31 .own 0 0):=(E0 c (.inr (.inl rfl))).trans ch.cell
 have LP:EW B al dQ O:=cH.cL ch.ro (by omega) λq aE _=>E0 q (.inr (.inr ⟨_,_,aE⟩))
 have LQ:=ch.AF.intern (t:=hy k) (EL an)
 subst oc
 subst AH
 refine Xe (m+3) c k y (R:=λx=>∃g a6 sM ky sN,x=.ret (.bool true) g/\mq B p c (n+1) g a6 (d_ k O++[k]) sM ky sN/\a6.cap=s.cap/\bA (λd=>d<B) y g)
  ⟨p,a_ (h:=y.room 23) ch.cell rfl,k %26,zc .i64 (by omega),by omega,97+k %26,AG _ (by omega) _,k/26,Xm (by omega) (by omega),by omega,97+k/26,AG _ (by omega) _,[UInt8.ofNat (97+k %26),UInt8.ofNat (97+k/26)],l0 _ rfl,by simp,id,0,al,aT,a_ ((uL c uv).trans ch.cell) rfl,AG _ (by omega) _,AG _ (by omega) _,l0 _ (c5 (by omega) rfl),?_⟩
 refine a4.loop (by kernel_rfl) (λj st=>∃i z w Γ,st=⟨Γ,[],.none,z⟩/\cd [(0,.ptr c 0),(1,.int .i64 (Int.ofNat k)),(5,.int .u64 (Int.ofNat id)),(6,.int .i64 (Int.ofNat 0)),(7,w),(8,.int .i64 (Int.ofNat i))] Γ/\O.length-i=j/\i<=O.length/\EW al.n z w (d_ k (O.take i))/\Ext al.n al z) ?_ O.length _ (by omega) ⟨0,al,.bd,_,rfl,⟨rfl,rfl,rfl,rfl,rfl,rfl,trivial⟩,by omega,by omega,.inl ⟨rfl,rfl⟩,Ext.refl _ _⟩
 rintro j st ⟨i,z,w,Γ,rfl,cR,aF,ag,AI,aP⟩
 have YW:=aP.n
 have gL:z.get c=some (.cells (.ptr p 0::dQ::G.map hO) 31 .own 0 0):=(aP.get c (by omega)).trans LO
 have Xq:cr Tryd.prog z 27 dQ=some (.int .i64 (Int.ofNat O.length)):=cH.len (P:=Tryd.prog) (sT:=27) (by kernel_rfl) LP z
 have Xr:(d_ k (O.take i)).length<=n:=by
  have:=List.length_filter_le (λj=>decide (j≠k)) (O.take i)
  rw[List.length_take] at this
  show(List.filter _ _).length<=n
  omega
 refine a4.pre (Xf _ c k id i w z ⟨dQ,a_ gL rfl,O.length,Xq,λi1=>?_,λi1=>?_⟩) cR rfl rfl rfl
 · rcases LP with⟨_,e⟩|⟨q,aE,aV,ba,b1,gy⟩
   · rw[e] at i1;cases i1
   have ar:aB z q (0+i*1)=some (sL O[i]):=by
    refine mb ((aP.get q (by omega)).trans ba) ?_
    rw[kZ,List.getElem?_map,Nat.zero_add,Nat.mul_one,List.getElem?_eq_getElem i1];rfl
   have iB:aB z c (0+1)=some (.slice q 0 O.length (.aS 1)):=by rw[<-aE];exact a_ gL rfl
   have LR:O.take (i+1)=O.take i++[O[i]]:=List.take_succ_eq_append_getElem i1
   refine⟨q,O.length,iB,i1,O[i],ar,λe=>?_,λe=>?_⟩
   · refine⟨by omega,_,(by show _<j;omega),i+1,z,w,_,rfl,⟨rfl,rfl,rfl,rfl,rfl,rfl,trivial⟩,rfl,by omega,?_,aP⟩
     have:d_ k (O.take (i+1))=d_ k (O.take i):=by
      rw[LR]
      unfold d_
      rw[List.filter_append,List.filter_cons_of_neg (by simpa using e),List.filter_nil,List.append_nil]
     rw[this];exact AI
   · obtain⟨K,cZ⟩:∃K,K=z.push (.cells [sL O[i]] 3 .own 0 0):=⟨_,rfl⟩
     have Lz:K.n=z.n+1:=by rw[cZ];rfl
     have pj:Ext z.n z K:=by rw[cZ];exact Ext.push (Nat.le_refl _) _
     obtain⟨eB,b8,cG,dw,gF,gf⟩:=z1 AE (AI.mono pj (Nat.le_refl _)) (by omega) (d:=O[i]) (src:=.slice z.n 0 1 (.exact 1)) (by rw[cZ];exact wh AE z 3 O[i]) (by omega)
     subst cZ
     refine⟨q,O.length,iB,i1,O[i],ar,_,eB,b8,by omega,_,(by show _<j;omega),i+1,eB,_,_,rfl,⟨rfl,rfl,rfl,rfl,rfl,rfl,trivial⟩,rfl,by omega,?_,⟨by omega,λd ak=>(gF.get d ak).trans ((pj.get d (by omega)).trans (aP.get d ak))⟩⟩
     have:d_ k (O.take (i+1))=d_ k (O.take i)++[O[i]]:=by
      rw[LR]
      unfold d_
      rw[List.filter_append,List.filter_cons_of_pos (by simpa using e),List.filter_nil]
     rw[this]
     exact .inr ⟨_,rfl,by simp,cG,by omega,by omega⟩
 · obtain rfl:i=O.length:=by omega
   rw[List.take_length] at AI Xr
   refine⟨id,0,w,z,_,rfl,rfl,⟨rfl,rfl,rfl,rfl,rfl,trivial⟩,?_⟩
   obtain⟨K,cZ⟩:∃K,K=z.push (.cells [sL k] 3 .own 0 0):=⟨_,rfl⟩
   have Lz:K.n=z.n+1:=by rw[cZ];rfl
   have pj:Ext z.n z K:=by rw[cZ];exact Ext.push (Nat.le_refl _) _
   obtain⟨eB,b8,cG,dw,gF,gf⟩:=z1 AE (AI.mono pj (Nat.le_refl _)) (by omega) (d:=k) (src:=.slice z.n 0 1 (.exact 1)) (by rw[cZ];exact wh AE z 3 k) (by omega)
   have cU:Ext al.n al eB:=⟨by omega,λd ak=>(gF.get d ak).trans ((pj.get d (by omega)).trans (aP.get d ak))⟩
   have Xs:eB.get c=some (.cells (.ptr p 0::dQ::G.map hO) 31 .own 0 0):=(cU.get c (by omega)).trans LO
   obtain⟨ky,E1⟩:∃v,v=I.slice K.n 0 (d_ k O++[k]).length (.aS 1):=⟨_,rfl⟩
   obtain⟨hS,AJ⟩:∃hS,hS=eB.set c (some (.cells (.ptr p 0::ky::G.map hO) 31 .own 0 0)):=⟨_,rfl⟩
   obtain⟨pk,AK⟩:∃pk,pk=hS.set c (some (.cells (.ptr p 0::ky::(G.set k id).map hO) 31 .own 0 0)):=⟨_,rfl⟩
   have Xt:hS.get c=some (.cells (.ptr p 0::ky::G.map hO) 31 .own 0 0):=by rw[AJ];exact ft rfl
   have cq:a8.storeCells eB c (0+1) [ky]=some hS:=by rw[AJ,E1];exact gn Xs rfl (wS _ rfl (.ptr p 0::dQ::G.map hO) (0+1) (by simp))
   have b9:a8.storeCells hS c (0+2+k*1) [hO id]=some pk:=by
    rw[AK]
    refine gn Xt rfl ?_
    have q1:=wS (hO id) rfl (.ptr p 0::ky::G.map hO) (0+2+k*1) (by simp;omega)
    rw[q1,show 0+2+k*1=k+2 by omega,List.set_cons_succ,List.set_cons_succ,List.map_set]
   have b4:pk.n=eB.n:=by rw[AK,AJ];rfl
   have sF:∀d,d≠c->pk.get d=eB.get d:=λd ak=>by rw[AK,AJ];exact(c5 ak rfl).trans (c5 ak rfl)
   have LS:pk.get c=some (.cells (.ptr p 0::ky::(G.set k id).map hO) 31 .own 0 0):=by rw[AK];exact ft rfl
   have mN:fU (uO B c ky) pk p (dF (hy k) s).2:=cz.move (by omega) (λd ak Ca _=>(sF d λe=>Ca (.inl (.inr (.inl e)))).trans (cU.get d ak)) λd ak hf=>.inl (by
    rcases hf with hf|hf|⟨j,cp,hf⟩
    · exact .inl (.inl hf)
    · exact .inl (.inr (.inl hf))
    · rw[E1] at hf;cases hf;omega)
   obtain⟨bO,kq,pf,iF⟩:=Wu m (id:=id) mN LQ (by omega)
   rw[ad] at kq pf
   have cy:=iF.n
   have Xu:pk.get K.n=some (.cells (dS (λd=>[sL d]) (d_ k O++[k])) 3 .aS 0 0):=(sF _ (by omega)).trans cG
   subst cZ
   subst E1
   refine⟨_,eB,b8,rfl,hS,cq,an,pk,b9,λ_=>⟨p,a_ LS rfl,0,bO,kq,bO,a6,_,_,G.set k id,rfl,⟨pf,(iF.get c (by omega) (.inr (.inl rfl))).trans LS,by simp[jH],?_,.inr ⟨_,rfl,by simp,(iF.get _ (by omega) (.inr (.inr ⟨_,_,rfl⟩))).trans Xu,by omega,by omega⟩,jF,by omega,aC,?_,?_,?_⟩,aq,⟨by omega,λd ak ae=>?_⟩⟩,λh=>absurd rfl h⟩
   · intro j aF Xv
     rw[List.getElem_set]
     by_cases e:k=j
     · rw[if_pos e,if_pos e.symm]
     · rw[if_neg e,if_neg λh=>e h.symm]
       rcases List.mem_append.1 aF with aF|aF
       · exact ch.EY j (nh.1 aF).1 Xv
       · exact absurd (List.mem_singleton.1 aF).symm e
   · refine List.nodup_append.2 ⟨ch.er.sublist (List.filter_sublist ..),by simp,λa aw b ae e=>?_⟩
     exact(nh.1 aw).2 (by rw[e];exact List.mem_singleton.1 ae)
   · rw[List.length_append,List.length_singleton];omega
   · have:=LQ.rel id
     rw[ad] at this
     rw[show 61*(n+1)=61*n+61 by omega];exact this
   · have ae:d<B:=ae
     exact(iF.get d (by omega) (.inl ae)).trans ((sF d (by omega)).trans ((cU.get d (by omega)).trans (E0 d (.inl ae))))
theorem Xw{z:Int}(aa:-1000<=z)(ad:z<1000):IntKind.wrap .i64 z=z:=by
 have av:(2:Int)^64=18446744073709551616:=by rfl
 have bq:(2:Int)^63=9223372036854775808:=by rfl
 simp only[IntKind.wrap,IntKind.bits,IntKind.signed,av,bq]
 simp
 omega
theorem LU{B p c n:Nat}{y:ab}{s:b7}{O:List Nat}{bl:Nat->Nat}{dQ:I}{G:List Nat}(ch:mq B p c n y s O bl dQ G){k:Nat}(an:k∈O){g:ab}(aj:g.get c=y.get c):aB g c (0+2+k*1)=some (hO (bl k)):=by
 have aC:=ch.j6.up k an
 have jH:=ch.EX
 refine mb (aj.trans ch.cell) ?_
 rw[show 0+2+k*1=k+2 by omega,List.getElem?_cons_succ,List.getElem?_cons_succ,List.getElem?_map,List.getElem?_eq_getElem (by omega)]
 exact congrArg (λj=>some (hO j)) (ch.EY k an aC)
theorem mq.ext{B p c n:Nat}{y g:ab}{s:b7}{O:List Nat}{bl:Nat->Nat}{dQ:I}{G:List Nat}(ch:mq B p c n y s O bl dQ G)(e:Ext y.n y g):mq B p c n g s O bl dQ G:=by
 have aH:=e.n
 have uv:=ch.up
 exact⟨ch.st.ext e,(e.get c uv).trans ch.cell,ch.EX,ch.EY,cH.cL ch.ro aH λq _ aE=>e.get q aE,ch.aY,by omega,ch.j6,ch.er,ch.ol,ch.AF⟩
theorem Xx(m:Nat)(hm:1000<=m){h:ab}{a b:Nat}{v:I}{rs:a5}(aw:a<256)(ae:b<256)(aD:z2 h.n h v rs):∃g,Y (m+5) (.fn 3) [.int .u8 (Int.ofNat a),.int .u8 (Int.ofNat b),v] h=.ret (.bool true) g:=by
 obtain⟨qN,p,Az,fO,kn⟩:=Wo (m+3) (F:=λd=>d<h.n) (h:=h) (Int.ofNat (b %40)) λb ae=>ae
 have n1:=kn.n
 have YX:a %40<40:=Nat.mod_lt _ (by omega)
 have YY:b %40<40:=Nat.mod_lt _ (by omega)
 refine Xg (m+4) a b v h (R:=λx=>∃g,x=.ret (.bool true) g) ⟨true,h,Ww _ h,rfl,a %40,zc .u8 (by omega),a %40,D8 _ (by omega) h,by omega,b %40,zc .u8 (by omega),b %40,D8 _ (by omega) h,p,qN,Az,?_⟩
 obtain⟨E2,xD⟩:∃y,y=qN.push (.cells (.ptr p 0::.bd::(List.replicate 40 0).map hO) 31 .own 0 0):=⟨_,rfl⟩
 have YZ:E2.n=qN.n+1:=by rw[xD];rfl
 have xw:mq h.n p qN.n 0 E2 ⟨b %40,0,0,[]⟩ [] (λ_=>0) .bd (List.replicate 40 0):=by
  refine⟨?_,by rw[xD];exact fI rfl,by simp,λk an=>(by cases an),.inl ⟨rfl,rfl⟩,n1,by omega,?_,.nil,Nat.le_refl _,?_⟩
  · exact fO.move (by omega) (λd ak _ _=>by rw[xD];exact lp ak rfl) λd ak hf=>.inl (by
     rcases hf with hf|hf|⟨_,_,hf⟩
     · exact hf
     · omega
     · cases hf)
  · rw[List.drop_nil]
    exact⟨⟨.nil,λe he=>(by cases he),λe he=>(by cases he),λa aw=>(by cases aw),.nil⟩,λe he=>(by cases he),.nil,.nil,λa aw=>(by cases aw),λa aw=>(by cases aw),λa aw=>(by cases aw),.nil,λa aw=>(by cases aw),Nat.zero_le _⟩
  · exact⟨⟨.nil,λe he=>(by cases he),λe he=>(by cases he),λa aw=>(by cases aw),.nil⟩,λe he=>(by cases he),Nat.le_refl _,Nat.le_refl _,λe he=>(by cases he)⟩
 have pP:bA (λd=>d<h.n) h E2:=⟨by omega,λd ak _=>by rw[xD];exact(lp (by omega) rfl).trans (kn.get d ak)⟩
 obtain⟨c,af⟩:∃c,c=qN.n:=⟨_,rfl⟩
 rw[<-af] at xw
 have last:∀(n:Nat) (y:ab) (s:b7) (O:List Nat) (bl:Nat->Nat) (dQ:I) (G:List Nat) (Γ:Env),mq h.n p c n y s O bl dQ G->n<=80->s.cap=b %40->cd [(8,.int .i64 (Int.ofNat (b %40))),(9,.ptr p 0),(10,.ptr c 0)] Γ->∃fT ib iw bB cM,bk.exit 2=.exit 2/\(⟨Γ,[],.none,y⟩:au)=au.mk cM [] .none bB/\cd [(8,.int .i64 (Int.ofNat fT)),(9,.ptr ib 0),(10,.ptr iw 0)] cM/\
   a4 Tryd.prog Tryd.f3 (Y (m+4)) [1,1,1,1,1,1,1,0,1,0] (au.mk [(8,.int .i64 (Int.ofNat fT)),(9,.ptr ib 0),(10,.ptr iw 0),(13,.int .i64 (Int.ofNat 0))] [] .none bB) (λca ck=>∃bO eW,ca=.exit 4/\ck=au.mk eW [] .none bO/\cd [] eW/\∃g,a7.ret (.bool true) bO=.ret (.bool true) g):=by
  intro n y s O bl dQ G Γ ch aH hj cR
  refine⟨b %40,p,c,y,Γ,rfl,rfl,cR,?_⟩
  have q5:=ch.ol
  refine a4.loop (by kernel_rfl) (λk st=>∃i g Γ,st=⟨Γ,[],.none,g⟩/\cd [(8,.int .i64 (Int.ofNat (b %40))),(9,.ptr p 0),(10,.ptr c 0),(13,.int .i64 (Int.ofNat i))] Γ/\O.length-i=k/\i<=O.length/\Ext y.n y g) ?_ O.length _ (by omega) ⟨0,y,_,rfl,⟨rfl,rfl,rfl,rfl,trivial⟩,by omega,by omega,Ext.refl _ _⟩
  rintro k st ⟨i,g,fG,rfl,uQ,an,ag,x⟩
  have bT:=ch.ext x
  have AL:∀H:ab,cr Tryd.prog H 27 dQ=some (.int .i64 (Int.ofNat O.length)):=λH=>cH.len (P:=Tryd.prog) (sT:=27) (by kernel_rfl) bT.ro H
  have fin:¬i<O.length->∃bO eW,bk.exit 4=.exit 4/\au.mk [(8,.int .i64 (Int.ofNat (b %40))),(9,.ptr p 0),(10,.ptr c 0),(13,.int .i64 (Int.ofNat i))] [] .none g=au.mk eW [] .none bO/\cd [] eW/\∃fr,a7.ret (.bool true) bO=.ret (.bool true) fr:=λ_=>⟨g,_,rfl,rfl,trivial,g,rfl⟩
  have xA:Ext g.n g (g.room 19):=Ext.room _ _ _
  have og:=bT.ext xA
  have sub:arith BinOp.sub .i64 (Int.ofNat O.length) (Int.ofNat (b %40))=some (.int .i64 (Int.ofNat O.length-Int.ofNat (b %40))):=by
   have aa:IntKind.wrap .i64 (Int.ofNat O.length-Int.ofNat (b %40))=Int.ofNat O.length-Int.ofNat (b %40):=Xw (by simp only[Int.ofNat_eq_natCast];omega) (by simp only[Int.ofNat_eq_natCast];omega)
   exact congrArg (λz=>some (I.int .i64 z)) aa
  have LV:i<O.length->∃q,dQ=.slice q 0 O.length (.aS 1)/\∀i1:i<O.length,aB (g.room 19) q (0+i*1)=some (sL O[i]):=λi1=>by
   rcases og.ro with⟨_,e⟩|⟨q,aE,aV,ba,b1,gy⟩
   · rw[e] at i1;cases i1
   · refine⟨q,aE,λi1=>mb ba ?_⟩
     rw[kZ,List.getElem?_map,Nat.zero_add,Nat.mul_one,List.getElem?_eq_getElem i1];rfl
  by_cases hw:O.length-s.cap<=i
  · refine a4.pre (Xk _ (b %40) p c i g ⟨dQ,a_ bT.cell rfl,O.length,AL g,λi1=>?_,fin⟩) uQ rfl rfl rfl
    obtain⟨q,aE,ar⟩:=LV i1
    have jM:O[i]∈O:=List.getElem_mem i1
    have aC:=bT.j6.up _ jM
    have ai:=LL bT.j6 bT.er rfl i1
    rw[if_pos hw] at ai
    have De:=EL aC
    obtain⟨cT,dn⟩:=J3 De
    obtain⟨r,al,aT,bM,_⟩:=EI (sz (hy O[i])) (hy O[i]) (Nat.le_refl _) cT (by omega) (m+4) (by omega) _ (g.room 19) p (bl O[i]) s og.st og.AF.ok ai
    have Xy:=og.ext bM
    refine⟨q,O.length,by rw[<-aE];exact a_ og.cell rfl,i1,O[i],ar i1,aC,bl O[i],LU og jM rfl,r,al,aT,dQ,a_ Xy.cell rfl,O.length,AL al,_,sub,?_,by omega,_,(by show _<k;omega),i+1,al,_,rfl,⟨rfl,rfl,rfl,rfl,trivial⟩,rfl,by omega,x.trans x.n (xA.trans (Nat.le_refl _) (bM.le (by show g.n<=g.n+19;omega)))⟩
    have:gN (Int.ofNat O.length-Int.ofNat (b %40)) (Int.ofNat i)=true:=by
     unfold gN
     rw[decide_eq_true_iff]
     simp only[Int.ofNat_eq_natCast];omega
    rw[this];rfl
  · refine a4.pre (Xl _ (b %40) p c i g ⟨dQ,a_ bT.cell rfl,O.length,AL g,λi1=>?_,fin⟩) uQ rfl rfl rfl
    obtain⟨q,aE,ar⟩:=LV i1
    have jM:O[i]∈O:=List.getElem_mem i1
    have aC:=bT.j6.up _ jM
    have ai:=LL bT.j6 bT.er rfl i1
    rw[if_neg hw] at ai
    have aT:=Lp (m+2) og.st ai
    refine⟨q,O.length,by rw[<-aE];exact a_ og.cell rfl,i1,O[i],ar i1,aC,bl O[i],LU og jM rfl,g.room 19,aT,dQ,a_ og.cell rfl,O.length,AL _,_,sub,?_,by omega,_,(by show _<k;omega),i+1,g.room 19,_,rfl,⟨rfl,rfl,rfl,rfl,trivial⟩,rfl,by omega,x.trans x.n xA⟩
    have:gN (Int.ofNat O.length-Int.ofNat (b %40)) (Int.ofNat i)=false:=by
     unfold gN
     rw[decide_eq_false_iff_not]
     simp only[Int.ofNat_eq_natCast];omega
    rw[this];rfl
 have mid:∀(y:ab) (s:b7) (O:List Nat) (bl:Nat->Nat) (dQ:I) (G:List Nat) (Γ:Env),mq h.n p c (1+a %40) y s O bl dQ G->s.cap=b %40->bA (λd=>d<h.n) h y->cd [(2,v),(7,.int .i64 (Int.ofNat (1+a %40))),(8,.int .i64 (Int.ofNat (b %40))),(9,.ptr p 0),(10,.ptr c 0)] Γ->∃cO di fu gJ aU bW,bk.exit 0=.exit 0/\(⟨Γ,[],.none,y⟩:au)=au.mk bW [] .none aU/\cd [(2,v),(7,.int .i64 (Int.ofNat cO)),(8,.int .i64 (Int.ofNat di)),(9,.ptr fu 0),(10,.ptr gJ 0)] bW/\
   a4 Tryd.prog Tryd.f3 (Y (m+4)) [1,1,1,1,1,1,0,1,0] (au.mk [(2,v),(7,.int .i64 (Int.ofNat cO)),(8,.int .i64 (Int.ofNat di)),(9,.ptr fu 0),(10,.ptr gJ 0),(12,.int .i64 (Int.ofNat 0))] [] .none aU) (λca ck=>
    ∃fT ib iw bB cM,ca=.exit 2/\ck=au.mk cM [] .none bB/\cd [(8,.int .i64 (Int.ofNat fT)),(9,.ptr ib 0),(10,.ptr iw 0)] cM/\
    a4 Tryd.prog Tryd.f3 (Y (m+4)) [1,1,1,1,1,1,1,0,1,0] (au.mk [(8,.int .i64 (Int.ofNat fT)),(9,.ptr ib 0),(10,.ptr iw 0),(13,.int .i64 (Int.ofNat 0))] [] .none bB) (λca ck=>∃bO eW,ca=.exit 4/\ck=au.mk eW [] .none bO/\cd [] eW/\∃g,a7.ret (.bool true) bO=.ret (.bool true) g)):=by
  intro y s O bl dQ G Γ ch hj fM cR
  refine⟨1+a %40,b %40,p,c,y,Γ,rfl,rfl,cR,?_⟩
  rcases aD with⟨rfl,rfl⟩|⟨zs,ro,LW,rfl,Xz,Bz,cf⟩
  · refine a4.loop (by kernel_rfl) (λk st=>∃Γ,st=⟨Γ,[],.none,y⟩/\cd [(2,.bd),(7,.int .i64 (Int.ofNat (1+a %40))),(8,.int .i64 (Int.ofNat (b %40))),(9,.ptr p 0),(10,.ptr c 0),(12,.int .i64 (Int.ofNat 0))] Γ) ?_ 0 _ (by omega) ⟨_,rfl,rfl,rfl,rfl,rfl,rfl,rfl,trivial⟩
    rintro k st ⟨fG,rfl,uQ⟩
    exact a4.pre (Xj _ (1+a %40) (b %40) p c 0 .bd y ⟨0,rfl,by omega,last _ y s O bl dQ G _ ch (by omega) hj ⟨rfl,rfl,rfl,trivial⟩⟩) uQ rfl rfl rfl
  · refine a4.loop (by kernel_rfl) (λk st=>∃i y s O bl dQ G Γ,st=⟨Γ,[],.none,y⟩/\cd [(2,.slice zs ro rs.length LW),(7,.int .i64 (Int.ofNat (1+a %40))),(8,.int .i64 (Int.ofNat (b %40))),(9,.ptr p 0),(10,.ptr c 0),(12,.int .i64 (Int.ofNat i))] Γ/\40-i=k/\i<=40/\mq h.n p c (1+a %40+i) y s O bl dQ G/\s.cap=b %40/\bA (λd=>d<h.n) h y) ?_ 40 _ (by omega) ⟨0,y,s,O,bl,dQ,G,_,rfl,⟨rfl,rfl,rfl,rfl,rfl,rfl,trivial⟩,by omega,by omega,ch,hj,fM⟩
    rintro k st ⟨i,hV,s1,LX,LY,LZ,L0,fG,rfl,uQ,an,ag,E3,E4,uP⟩
    refine a4.pre (Xi _ zs ro rs.length (1+a %40) (b %40) p c i LW hV ⟨λi1=>⟨λi2=>?_,λ_=>last _ hV s1 LX LY LZ L0 _ E3 (by omega) E4 ⟨rfl,rfl,rfl,trivial⟩⟩,λ_=>last _ hV s1 LX LY LZ L0 _ E3 (by omega) E4 ⟨rfl,rfl,rfl,trivial⟩⟩) uQ rfl rfl rfl
    have eO:Ext h.n h hV:=⟨uP.n,λd ak=>uP.get d ak ak⟩
    have J:=UInt8.toNat_lt rs[i]
    have pS:rs[i].toNat %(1+a %40)<1+a %40:=Nat.mod_lt _ (by omega)
    obtain⟨g,a6,sM,ky,sN,aT,xy,nP,bR⟩:=LM m hm E3 (k:=rs[i].toNat %(1+a %40)) (by omega) (by omega)
    exact⟨i1,_,lr eO Xz (cf i i1),_,D8 _ (by omega) hV,_,zc .i64 (by omega),g,aT,by omega,_,(by show _<k;omega),i+1,g,a6,_,sM,ky,sN,_,rfl,⟨rfl,rfl,rfl,rfl,rfl,rfl,trivial⟩,rfl,by omega,xy,nP.trans E4,uP.trans bR⟩
 subst af
 subst xD
 refine a4.loop (by kernel_rfl) (λj st=>∃k y s O bl dQ G Γ,st=⟨Γ,[],.none,y⟩/\cd [(2,v),(7,.int .i64 (Int.ofNat (1+a %40))),(8,.int .i64 (Int.ofNat (b %40))),(9,.ptr p 0),(10,.ptr qN.n 0),(11,.int .i64 (Int.ofNat k))] Γ/\1+a %40-k=j/\k<=1+a %40/\mq h.n p qN.n k y s O bl dQ G/\s.cap=b %40/\bA (λd=>d<h.n) h y) ?_ (1+a %40) _ (by omega) ⟨0,_,_,[],_,.bd,_,_,rfl,⟨rfl,rfl,rfl,rfl,rfl,rfl,trivial⟩,by omega,by omega,xw,rfl,pP⟩
 rintro j st ⟨k,y,s,O,bl,dQ,G,Γ,rfl,cR,aF,an,ch,hj,fM⟩
 refine a4.pre (Xh _ (1+a %40) (b %40) p qN.n k v y ⟨λi1=>?_,λi1=>?_⟩) cR rfl rfl rfl
 · obtain⟨g,a6,sM,ky,sN,aT,xy,nP,bR⟩:=LM m hm ch (k:=k) (by omega) (by omega)
   exact⟨g,aT,by omega,_,(by show _<j;omega),k+1,g,a6,_,sM,ky,sN,_,rfl,⟨rfl,rfl,rfl,rfl,rfl,rfl,trivial⟩,rfl,by omega,xy,nP.trans hj,fM.trans bR⟩
 · obtain rfl:k=1+a %40:=by omega
   exact mid y s O bl dQ G _ ch hj fM ⟨rfl,rfl,rfl,rfl,rfl,trivial⟩
theorem L1{W:World}{base:Nat}{v:Value}(h:Value.okWide Tryd.prog W .any base 5 v):∃n:Nat,n<256/\v=.int .u8 (Int.ofNat n):=by
 have hu:Tryd.prog.underlying 5=some (.int .u8):=by kernel_rfl
 obtain⟨z,rfl⟩:=okWide_int hu h
 have ad:IntKind.u8.has z:=by
  simp only[Value.okWide,hu,Cell.okWide,Cell.ok] at h
  exact h.2
 have aq:(0:Int)<=z/\z<=255:=by
  have aR:IntKind.u8.min=0:=by decide
  have bD:IntKind.u8.max=255:=by decide
  unfold IntKind.has at ad
  rw[aR,bD] at ad
  exact ad
 refine⟨z.toNat,by omega,?_⟩
 have:Int.ofNat z.toNat=z:=Int.toNat_of_nonneg aq.1
 rw[this]
theorem XA{H:Type}{enc:TypeId×Value->H}{W:World}{base:Nat}{sp:Nat->Bool}{held:Bool}{fuel:Nat}{v:Value}{x:DataW H×List MemPlace}(iH:Tryd.prog.globals.size<=W.heap.size)(aD:Cell.okWide Tryd.prog W .any base 22 v)(h:DataW.trod enc Tryd.prog W 0 sp held fuel 22 [v]=some x):
  ∃(hE:a5) (μ:bb) (g:ab) (u:I),bc μ g W/\gm Tryd.prog μ/\vY g/\z2 g.n g u hE/\a2 μ u v:=by
 obtain⟨hE,rows,ai⟩:=WX aD h
 obtain⟨u,hu⟩:=ai Tryd.prog.globals.size
 obtain⟨bJ,bR,e_⟩:=hu _ _ Wz
 obtain⟨s1,s2,cq⟩:=WB (P:=Tryd.prog) iH _ bJ
 exact⟨hE,_,_,u,s1,s2,cq,bR,e_⟩
end Go.Proofs.hJ
