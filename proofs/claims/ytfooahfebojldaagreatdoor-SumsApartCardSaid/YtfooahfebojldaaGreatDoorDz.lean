/-
  PROVED HERE: contracts of functions (Dz). No condition beside each statement's own.
-/
import Derived.Test.YtfooahfebojldaaGreatDoorDw
import Derived.Test.YtfooahfebojldaaGreatDoorDy
set_option linter.unusedVariables false
set_option linter.unusedSimpArgs false
namespace Go.Proofs.cn
open Go aw Go.Proofs cu Go.Proofs.b0
open Go.Proofs.cT (cS)
open Go.Proofs.dV (b_ ea dC fS eM ih Jx DL Jw)
set_option maxRecDepth 100000
set_option maxHeartbeats 1000000
theorem oy{t:aJ}(r:aJ)(h:t.length<18446744073709551616):eM (some (cS t++r))=(t,some r):=by
 unfold cT.cS eM
 rw[List.append_assoc,ih _ _ h]
 show fS t.length (some (t++r))=_
 rw[DL (by rw[List.length_append];omega),List.take_left,List.drop_left]
theorem En{f:Q->Option (aZ×Q)}(r:aJ):∀(ts:List aZ) (bs:List aJ) (acc:List aZ) (n:Nat),(∀t∈ts,∀r gR,n<=gR->gR+sz t<=60->f (some (hX t++r),gR)=some (t,(some r,gR+sz t)))->n+eL ts<=60->k4 s4 (uJ f) ts.length ((some ((dT ts).flatten++r),n),(bs,acc))=some ((some r,n+eL ts),(bs,acc++ts))
 |[],bs,acc,n,_,_=>by simp[k4,dT,eL]
 |t::ts,bs,acc,n,hf,aG=>by
  rw[eL] at aG
  have aa:=hf t (List.mem_cons_self ..) ((dT ts).flatten++r) n (Nat.le_refl _) (by omega)
  have ad:=En r ts bs (acc++[t]) (n+sz t) (λt aQ r gR tx=>hf t (List.mem_cons_of_mem _ aQ) r gR (by omega)) (by omega)
  rw[List.length_cons,dT,List.flatten_cons,List.append_assoc,k4,if_pos (show s4 _=true from rfl)]
  unfold uJ
  simp only[aa,Option.map_some,Option.bind_some]
  refine Eq.trans ad ?_
  simp[eL,Nat.add_assoc]
theorem KF{f:Q->Option (aZ×Q)}(r:aJ):∀(ts:List aZ) (aW bs:List aJ) (acc:List aZ) (n:Nat),aW.length=ts.length->(∀x∈aW,x.length<=24)->(∀t∈ts,∀r gR,n<=gR->gR+sz t<=60->f (some (hX t++r),gR)=some (t,(some r,gR+sz t)))->n+eL ts<=60->k4 s4 (D0 f) ts.length ((some ((iG aW (dT ts)).flatten++r),n),(bs,acc))=some ((some r,n+eL ts),(bs++aW,acc++ts))
 |[],[],bs,acc,n,_,_,_,_=>by simp[k4,dT,eL,iG]
 |[],_::_,_,_,_,h,_,_,_=>by simp at h
 |_::_,[],_,_,_,h,_,_,_=>by simp at h
 |t::ts,x::aW,bs,acc,n,an,ab,hf,aG=>by
  rw[eL] at aG
  have h0:=oy (t:=x) (hX t++((iG aW (dT ts)).flatten++r)) (by have:=ab x (List.mem_cons_self ..);omega)
  have aa:=hf t (List.mem_cons_self ..) ((iG aW (dT ts)).flatten++r) n (Nat.le_refl _) (by omega)
  have ad:=KF r ts aW (bs++[x]) (acc++[t]) (n+sz t) (by simpa using an) (λy aU=>ab y (List.mem_cons_of_mem _ aU)) (λt aQ r gR tx=>hf t (List.mem_cons_of_mem _ aQ) r gR (by omega)) (by omega)
  have e:(iG (x::aW) (dT (t::ts))).flatten++r=cS x++(hX t++((iG aW (dT ts)).flatten++r)):=by
   rw[dT];simp only[iG,List.zipWith_cons_cons,List.flatten_cons,List.append_assoc]
  rw[List.length_cons,e,k4,if_pos (show s4 _=true from rfl)]
  unfold D0 uJ
  simp only[h0,aa,Option.map_some,Option.bind_some]
  refine Eq.trans ad ?_
  simp[eL,Nat.add_assoc]
theorem Wv{k N M:Nat}{s:aJ}{o:Bool}(h:uv k s N M o=true):(k≠6->s=[])/\(k≠7->N=0)/\(k<7->M=0)/\(o=decide (k=8)):=by
 unfold uv at h
 simp only[Bool.and_eq_true,Bool.not_eq_true'] at h
 obtain⟨⟨⟨aa,ad⟩,ar⟩,aM⟩:=h
 refine⟨λaq=>?_,λaq=>?_,λaq=>?_,?_⟩
 · rw[decide_eq_false aq] at aa
   cases hs:bR s [] with
   |true=>exact by simpa[mN] using hs
   |false=>rw[hs] at aa;cases aa
 · by_cases hA:0<N
   · rw[decide_eq_true hA,decide_eq_true aq] at ad;cases ad
   · omega
 · by_cases py:0<M
   · rw[decide_eq_true py,decide_eq_true aq] at ar;cases ar
   · omega
 · revert aM
   cases o<;>cases decide (k=8)<;>intro aM<;>first|rfl|cases aM
theorem KG:∀(l:List aJ) (p:Option aJ),m9 p l=true->∀x∈l,x.length<=24
 |[],_,_,x,ab=>by cases ab
 |y::l,p,h,x,ab=>by
  rw[m9] at h
  simp only[Bool.and_eq_true] at h
  rcases List.mem_cons.1 ab with rfl|ab
  · exact Im h.1
  · exact KG l _ h.2.2 x ab
theorem Eo(a9:Nat)(g2:a9<=1):∀(K:Nat) (t:aZ),sz t<=K->fQ t=true->∀j r n,sz t<=j->n+sz t<=60->pD a9 j (some (hX t++r),n)=some (t,(some r,n+sz t))
 |0,t,dj,_,_,_,_,_,_=>by have:=qN t;omega
 |K+1,.mk k bP aW xs rt,dj,hm,j,r,n,aD,aG=>by
  rw[zu] at hm
  simp only[Bool.and_eq_true,decide_eq_true_eq] at hm
  obtain⟨⟨bG,sL⟩,a6,ab,aq⟩:=hm
  obtain⟨dy,dq,iu,hL⟩:=Wv a6
  have aT:=sI k bP aW xs rt
  rw[aT] at dj aD aG⊢
  obtain⟨j,rfl⟩:∃i,j=i+1:=⟨j-1,by omega⟩
  have p6:xs.length<=eL xs:=by
   have:∀l:List aZ,l.length<=eL l:=λl=>by
    induction l with
    |nil=>exact Nat.zero_le _
    |cons t l bg=>rw[eL];have:=qN t;simp only[List.length_cons];omega
   exact this xs
  have each:∀t∈xs,∀r gR,n+1<=gR->gR+sz t<=60->pD a9 j (some (hX t++r),gR)=some (t,(some r,gR+sz t)):=λt aQ r gR _ tx=>by
   have:=m7 aQ
   exact Eo a9 g2 K t (by omega) (zt ab aQ) j r gR (by omega) tx
  have Ww:=ih k (k0 k bP aW (dT xs) (ja rt)++r) (by omega)
  rw[JK,List.append_assoc,pD,Ww,if_pos ⟨rfl,by simp only;omega,by simp only;omega,by simp only;omega⟩]
  simp only
  unfold hF at aq
  by_cases cK:k=6
  · subst cK
    obtain rfl:aW=[]:=List.length_eq_zero_iff.1 (dq (by omega))
    obtain rfl:xs=[]:=List.length_eq_zero_iff.1 (iu (by omega))
    obtain rfl:rt=none:=by cases rt<;>first|rfl|cases hL
    rw[if_pos rfl] at aq
    have an:bP.length<=161:=by
     unfold qP at aq
     simp only[Bool.and_eq_true,decide_eq_true_eq] at aq
     exact aq.1.2
    unfold uL k0
    rw[if_pos rfl,if_pos rfl,oy r (by omega)]
    simp[eL,dA]
  by_cases ew:k=7
  · subst ew
    obtain rfl:bP=[]:=dy (by omega)
    obtain rfl:rt=none:=by cases rt<;>first|rfl|cases hL
    rw[if_neg cK,if_pos rfl,Bool.and_eq_true,decide_eq_true_eq] at aq
    have aa:=KF (f:=pD a9 j) r xs aW [] [] (n+1) aq.1 (KG aW none aq.2) each (by omega)
    unfold uL k0
    rw[if_neg cK,if_pos rfl,if_neg cK,if_pos rfl]
    unfold uK
    rw[List.append_assoc,ih _ _ (by omega)]
    simp only[aq.1]
    rw[aa]
    simp[dA];omega
  by_cases iQ:k=8
  · subst iQ
    obtain rfl:bP=[]:=dy (by omega)
    obtain rfl:aW=[]:=List.length_eq_zero_iff.1 (dq (by omega))
    rw[if_neg cK,if_neg ew,if_pos rfl] at aq
    obtain⟨t,rfl⟩:∃t,rt=some t:=by cases rt with
     |none=>cases hL
     |some t=>exact⟨t,rfl⟩
    have aQ:fQ t=true:=by simpa[lD] using aq
    rw[kU] at dj aD aG⊢
    have aa:=En (f:=pD a9 j) (hX t++r) xs [] [] (n+1) each (by omega)
    have ad:=Eo a9 g2 K t (by omega) aQ j r (n+1+eL xs) (by omega) (by omega)
    unfold uL k0
    rw[if_neg cK,if_neg ew,if_pos rfl,if_neg cK,if_neg ew,if_pos rfl]
    unfold uK
    rw[ja,List.append_assoc,List.append_assoc,xc,ih _ _ (by omega)]
    simp only
    rw[aa]
    simp only[Option.bind_some,List.nil_append,ad,Option.map_some]
    simp;omega
  by_cases gQ:k=9
  · subst gQ
    obtain rfl:bP=[]:=dy (by omega)
    obtain rfl:aW=[]:=List.length_eq_zero_iff.1 (dq (by omega))
    obtain rfl:rt=none:=by cases rt<;>first|rfl|cases hL
    have aa:=En (f:=pD a9 j) r xs [] [] (n+1) each (by omega)
    unfold uL k0
    rw[if_neg cK,if_neg ew,if_neg iQ,if_pos rfl,if_neg cK,if_neg ew,if_neg iQ,if_pos rfl]
    unfold uK
    rw[List.append_assoc,xc,ih _ _ (by omega)]
    simp only
    rw[aa]
    simp[dA];omega
  · obtain rfl:bP=[]:=dy cK
    obtain rfl:aW=[]:=List.length_eq_zero_iff.1 (dq ew)
    obtain rfl:xs=[]:=List.length_eq_zero_iff.1 (iu (by omega))
    obtain rfl:rt=none:=by
     rw[decide_eq_false iQ] at hL
     cases rt<;>first|rfl|cases hL
    unfold uL k0
    rw[if_neg cK,if_neg ew,if_neg iQ,if_neg gQ,if_neg cK,if_neg ew,if_neg iQ,if_neg gQ]
    simp[eL,dA]
end Go.Proofs.cn
namespace Go.Proofs.cn
open Go aw Go.Proofs cu Go.Proofs.b0
open Go.Proofs.cT (cS)
open Go.Proofs.dV (b_ ea dC fS eM ih Jx DL Jw)
set_option maxRecDepth 100000
set_option maxHeartbeats 1000000
theorem beq_iff{a b:aJ}:bR a b=true<->a=b:=by simp[mN]
theorem KH:∀{l k:List aJ},gL l k=true->l=k
 |[],[],_=>rfl
 |[],_::_,h=>by cases h
 |_::_,[],h=>by cases h
 |x::l,y::k,h=>by
  rw[gL,Bool.and_eq_true] at h
  rw[beq_iff.1 h.1,KH h.2]
mutual
theorem KI:∀{t u:aZ},pf t u=true->t=u
 |.mk k bP aW xs rt,.mk dH pg qM od ph,h=>by
  rw[pf] at h
  simp only[Bool.and_eq_true] at h
  obtain⟨aa,ad,ar,aM,bS⟩:=h
  rw[Nat.eq_of_beq_eq_true aa,beq_iff.1 ad,KH ar,KJ aM,KK bS]
theorem KJ:∀{l k:List aZ},gk l k=true->l=k
 |[],[],_=>rfl
 |[],_::_,h=>by rw[gk] at h<;>first|cases h|simp
 |_::_,[],h=>by rw[gk] at h<;>first|cases h|simp
 |x::l,y::k,h=>by
  rw[gk,Bool.and_eq_true] at h
  rw[KI h.1,KJ h.2]
theorem KK:∀{o p:Option aZ},gU o p=true->o=p
 |none,none,_=>rfl
 |none,some _,h=>by rw[gU] at h<;>first|cases h|simp
 |some _,none,h=>by rw[gU] at h<;>first|cases h|simp
 |some t,some u,h=>by
  rw[gU] at h
  rw[KI h]
end
theorem Ep:∀{l k:List ez},lO l k=true->l=k
 |[],[],_=>rfl
 |[],_::_,h=>by cases h
 |_::_,[],h=>by cases h
 |x::l,y::k,h=>by
  rw[lO] at h
  simp only[Bool.and_eq_true,nc] at h
  have aa:=beq_iff.1 h.1
  have ad:=KK h.2.1.2.2
  have:x=y:=Prod.ext aa ad
  rw[this,Ep h.2.2]
theorem Wx{x y:hY}(h:ow x y=true):x=y:=by
 obtain⟨p,b,l,k⟩:=x
 obtain⟨p',j0,h4,dH⟩:=y
 unfold ow at h
 simp only[Bool.and_eq_true] at h
 obtain⟨aa,ad,ar,aM⟩:=h
 have:=beq_iff.1 aa
 have:=Ep ar
 have:=Ep aM
 have:b=j0:=by simpa using ad
 subst_vars
 rfl
theorem Wy{o:Option aZ}(h:lF o=0):∃t,o=some t/\sz t<=60/\fQ t=true:=by
 cases o with
 |none=>cases h
 |some t=>
  simp only[lF] at h
  split at h
  · cases h
  · split at h
    · exact⟨t,rfl,by omega,by assumption⟩
    · cases h
theorem KL{a9:Nat}(g2:a9<=1)(r:aJ):∀(l:List ez) (p:aJ) (acc:List ez),k2 p l=true->k4 (λs:ea×List ez=>s.1.isSome) (D1 (pD a9 61)) l.length (some ((l.map dE).flatten++r),acc)=some (some r,acc++l)
 |[],p,acc,_=>by simp[k4]
 |(n,o)::l,p,acc,h=>by
  rw[k2] at h
  simp only[Bool.and_eq_true,decide_eq_true_eq] at h
  obtain⟨_,ad,ar,aM⟩:=h
  obtain⟨t,rfl,bS,cK⟩:=Wy ar
  have h0:=oy (t:=n) (hX t++((l.map dE).flatten++r)) (by omega)
  have aa:=Eo a9 g2 _ t (Nat.le_refl _) cK 61 ((l.map dE).flatten++r) 0 (by omega) (by omega)
  have e:(((n,some t)::l).map dE).flatten++r=cS n++(hX t++((l.map dE).flatten++r)):=by
   simp only[List.map_cons,List.flatten_cons,dE,ja,List.append_assoc]
  rw[List.length_cons,e,k4,if_pos (by rfl)]
  unfold D1
  simp only[h0,aa,Option.map_some,Option.bind_some]
  refine Eq.trans (KL g2 r l n (acc++[(n,some t)]) aM) ?_
  simp
theorem KM{a9:Nat}(g2:a9<=1){l:List ez}{p:aJ}(r:aJ)(aG:l.length<18446744073709551616)(h:k2 p l=true):z3 a9 (some (k3 l++r))=some (some r,l):=by
 unfold z3 k3
 rw[List.append_assoc,ih _ _ aG]
 exact KL g2 r l p [] h
structure Fits(x:hY):Prop where
 p:x.path.length<18446744073709551616
 v:x.lL.length<18446744073709551616
 t:x.lM.length<18446744073709551616
theorem np.fits{x:hY}(h:np x)(a6:x.path.length<=90000):Fits x:=⟨by omega,by have:=h.c6;omega,by have:=h.lt;omega⟩
theorem KN{a9:Nat}(g2:a9<=1){x:hY}(r:aJ)(ab:Fits x)(h:ko x=true):JZ a9 (jb x++r)=some (x,some r):=by
 obtain⟨p,b,l,k⟩:=x
 unfold ko at h
 simp only[Bool.and_eq_true] at h
 obtain⟨aa,ad,ar⟩:=h
 unfold JZ jb
 simp only
 rw[List.append_assoc,oy _ ab.p]
 simp only
 cases b with
 |true=>
  simp only[Bool.not_true,Bool.false_or,decide_eq_true_eq] at ar
  obtain rfl:l=[]:=List.length_eq_zero_iff.1 (by omega)
  obtain rfl:k=[]:=List.length_eq_zero_iff.1 (by omega)
  rw[if_pos rfl,ih _ _ (by omega)]
  simp
 |false=>
  rw[if_neg (show¬false=true by simp),List.append_assoc,ih _ _ (by omega),List.append_assoc]
  rw[if_pos ⟨rfl,Nat.zero_le 1⟩,if_neg (show¬0=1 by omega)]
  unfold JY
  rw[KM g2 (k3 k++r) ab.v aa]
  simp only[Option.bind_some]
  rw[KM g2 r ab.t ad]
  rfl
theorem Wz{x y:hY}{r r':aJ}(ab:Fits x)(aU:Fits y)(mx:ko x=true)(uT:ko y=true)(h:jb x++r=jb y++r'):x=y/\r=r':=by
 have aa:=KN (Nat.zero_le 1) r ab mx
 rw[h,KN (Nat.zero_le 1) r' aU uT] at aa
 simp only[Option.some.injEq,Prod.mk.injEq] at aa
 exact⟨aa.1.symm,aa.2.symm⟩
def je(a b:e0):Bool:=bR a.path b.path&&((a.fU==b.fU)&&(!a.fU||ow a.fc b.fc))
def jf:List e0->List e0->Bool
 |[],[]=>true
 |a::l,b::k=>je a b&&jf l k
 |_,_=>false
structure oz(x:e0):Prop where
 p:x.path.length<18446744073709551616
 s:Fits x.fc
theorem WA{x y:e0}{r r':aJ}(xp:oz x)(KO:oz y)(mx:gD x=true)(uT:gD y=true)(h:gC x++r=gC y++r'):je x y=true/\r=r':=by
 unfold gC at h
 rw[List.append_assoc,List.append_assoc] at h
 have t1:=oy (t:=x.path) ((if x.fU=true then b_ 1++jb x.fc else b_ 0)++r) xp.p
 rw[h,oy _ KO.p] at t1
 simp only[Prod.mk.injEq,Option.some.injEq] at t1
 obtain⟨aC,ax⟩:=t1
 unfold je
 rw[aC,tU,Bool.true_and]
 unfold gD at mx uT
 cases ab:x.fU with
 |true=>
  cases aU:y.fU with
  |true=>
   rw[ab,aU,if_pos rfl,if_pos rfl,List.append_assoc,List.append_assoc] at ax
   have aI:=ih 1 (jb x.fc++r) (by omega)
   rw[<-ax,ih _ _ (by omega)] at aI
   simp only[Prod.mk.injEq,Option.some.injEq,true_and] at aI
   rw[ab] at mx
   rw[aU] at uT
   obtain⟨bG,bF⟩:=Wz xp.s KO.s (by simpa using mx) (by simpa using uT) aI.symm
   refine⟨?_,bF⟩
   rw[bG,U8 (by simpa using uT)];rfl
  |false=>
   rw[ab,aU,if_pos rfl,if_neg (by simp),List.append_assoc] at ax
   have aI:=ih 1 (jb x.fc++r) (by omega)
   rw[<-ax,ih _ _ (by omega)] at aI
   simp at aI
 |false=>
  cases aU:y.fU with
  |true=>
   rw[ab,aU,if_pos rfl,if_neg (by simp),List.append_assoc] at ax
   have aI:=ih 0 r (by omega)
   rw[<-ax,ih _ _ (by omega)] at aI
   simp at aI
  |false=>
   rw[ab,aU,if_neg (by simp),if_neg (by simp)] at ax
   have aI:=ih 0 r (by omega)
   rw[<-ax,ih _ _ (by omega)] at aI
   simp only[Prod.mk.injEq,Option.some.injEq,true_and] at aI
   exact⟨rfl,aI.symm⟩
theorem KP:∀{l k:List e0} {r r':aJ},l.length=k.length->(∀x∈l,oz x/\gD x=true)->(∀x∈k,oz x/\gD x=true)->(l.map gC).flatten++r=(k.map gC).flatten++r'->jf l k=true/\r=r'
 |[],[],r,r',_,_,_,h=>⟨rfl,by simpa using h⟩
 |[],_::_,_,_,h,_,_,_=>by simp at h
 |_::_,[],_,_,h,_,_,_=>by simp at h
 |a::l,b::k,r,r',aG,an,aq,h=>by
  simp only[List.map_cons,List.flatten_cons,List.append_assoc] at h
  obtain⟨f1,cm⟩:=an a (List.mem_cons_self ..)
  obtain⟨f2,fY⟩:=aq b (List.mem_cons_self ..)
  obtain⟨aa,ad⟩:=WA f1 f2 cm fY h
  obtain⟨ar,aM⟩:=KP (by simpa using aG) (λx ab=>an x (List.mem_cons_of_mem _ ab)) (λx ab=>aq x (List.mem_cons_of_mem _ ab)) ad
  exact⟨by rw[jf,aa,ar];rfl,aM⟩
theorem WB{a b:e0}(h:je a b=true):gC a=gC b:=by
 unfold je at h
 simp only[Bool.and_eq_true,Bool.or_eq_true,Bool.not_eq_true',beq_iff_eq] at h
 obtain⟨aa,ad,ar⟩:=h
 unfold gC
 rw[beq_iff.1 aa,<-ad]
 rcases ar with ar|ar
 · rw[ar,if_neg (by simp),if_neg (by simp)]
 · rw[Wx ar]
theorem KQ:∀{l k:List e0},jf l k=true->l.length=k.length/\l.map gC=k.map gC
 |[],[],_=>⟨rfl,rfl⟩
 |[],_::_,h=>by cases h
 |_::_,[],h=>by cases h
 |a::l,b::k,h=>by
  rw[jf,Bool.and_eq_true] at h
  obtain⟨aa,ad⟩:=KQ h.2
  exact⟨by simp[aa],by simp[ad,WB h.1]⟩
theorem WC{p p' q q':aJ}{l k:List e0}(a6:p.length<18446744073709551616)(qk:p'.length<18446744073709551616)(bh:q.length<18446744073709551616)(yj:q'.length<18446744073709551616)(nl:l.length<18446744073709551616)(Er:k.length<18446744073709551616)
  (an:∀x∈l,oz x/\gD x=true)(aq:∀x∈k,oz x/\gD x=true):bR (nu p q l) (nu p' q' k)=(bR p p'&&(bR q q'&&jf l k)):=by
 apply Bool.eq_iff_iff.2
 rw[beq_iff,Bool.and_eq_true,Bool.and_eq_true,beq_iff,beq_iff]
 constructor
 · intro h
   unfold nu at h
   have t1:=oy (t:=p) (cS q++(b_ l.length++(l.map gC).flatten)) a6
   rw[h,oy _ qk] at t1
   simp only[Prod.mk.injEq,Option.some.injEq] at t1
   have t2:=oy (t:=q) (b_ l.length++(l.map gC).flatten) bh
   rw[<-t1.2,oy _ yj] at t2
   simp only[Prod.mk.injEq,Option.some.injEq] at t2
   have t3:=ih l.length (l.map gC).flatten nl
   rw[<-t2.2,ih _ _ Er] at t3
   simp only[Prod.mk.injEq,Option.some.injEq] at t3
   exact⟨t1.1.symm,t2.1.symm,(KP (r:=[]) (r':=[]) t3.1.symm an aq (by rw[t3.2])).1⟩
 · rintro⟨rfl,rfl,h⟩
   obtain⟨aa,ad⟩:=KQ h
   unfold nu
   rw[aa,ad]
end Go.Proofs.cn
namespace Go.Proofs.cn
open Go aw Go.Proofs cu Go.Proofs.b0
open Go.Proofs.cT (cS)
open Go.Proofs.dV (b_)
set_option maxRecDepth 100000
set_option maxHeartbeats 1000000
theorem WD(m:Nat)(v:I)(w:I)(h:J){R:av->Prop}(H:∃aI:Nat,cb Tryz.prog h 33 v=some (.int .i64 (.ofNat aI))/\∃bw:Nat,cb Tryz.prog h 33 w=some (.int .i64 (.ofNat bw))/\(aI=bw->bm Tryz.prog Tryz.f20 (Y m) [1,1,0,1,0] (ao.mk [(0,v),(1,w),(5,.int .i64 (.ofNat 0))] [] .none h) (λcE cF=>((∃al:J,∃bq:Env,cE=.exit 0/\cF=ao.mk bq [] .none al/\cl [] bq/\R (.ret (.bool true) al))\/(∃a4:Bool,∃au:J,∃bT:Env,cE=.ret/\cF=ao.mk bT [] .none au/\cl [(4,.bool a4)] bT/\R (.ret (.bool a4) au)))))/\(¬aI=bw->R (.ret (.bool false) h))):
  R (Y (m+1) (.fn 20) [v,w] h):=
 dd (intr:=bW) [(4000,.gw [0,1,5] [(.exit 0,[]),(.ret,[(4,.b)])])] [(0,.o v),(1,.o w)] Tryz.func20 (by kernel_rfl) (by kernel_rfl) (by kernel_rfl) rfl (Eq.mp (by kernel_rfl) H)
theorem WE(call:aP->List I->J->av)(b:Nat)(off:Nat)(N:Nat)(i:Nat)(aE:cf)(c:Nat)(cc:Nat)(M:Nat)(cy:cf)(h:J){Q:bu->ao->Prop}(H:(i<N->i<N/\∃s1:List UInt8,ay (h.room 45) b (off+i*6+0)=some (.str s1)/\i<M/\∃s2:List UInt8,ay (h.room 45) c (cc+i*6+0)=some (.str s2)/\((!bR s1 s2)=true->Q .ret (ao.mk [(0,.slice b off N aE),(1,.slice c cc M cy),(4,.bool false),(5,.int .i64 (.ofNat i))] [] .none (h.room 45)))/\((!bR s1 s2)=false->i<N/\∃a4:Bool,ay (h.room 45) b (off+i*6+1)=some (.bool a4)/\i<M/\∃a_:Bool,ay (h.room 45) c (cc+i*6+1)=some (.bool a_)/\(fe a4 a_=true->i<N/\∃cO:Bool,ay (h.room 45) b (off+i*6+1)=some (.bool cO)/\(cO=true->i<N/\∃bI:List UInt8,∃hD:Bool,∃v1:I,∃v2:I,aw.loadCells (h.room 45) b (off+i*6+2) 4=some [.str bI,.bool hD,v1,v2]/\i<M/\∃cq:List UInt8,∃n8:Bool,∃cX:I,∃v4:I,aw.loadCells (h.room 45) c (cc+i*6+2) 4=some [.str cq,.bool n8,cX,v4]/\∃iC:Bool,∃al:J,call (.fn 19) [.agg [.str bI,.bool hD,v1,v2],.agg [.str cq,.bool n8,cX,v4]] (h.room 45)=.ret (.bool iC) al/\I.sound v1=true/\I.sound v2=true/\I.sound cX=true/\I.sound v4=true/\(iC=true->i+1<9223372036854775808/\Q .nrm (ao.mk [(0,.slice b off N aE),(1,.slice c cc M cy),(5,.int .i64 (.ofNat (i+1)))] [] .none al))/\(iC=false->Q .ret (ao.mk [(0,.slice b off N aE),(1,.slice c cc M cy),(4,.bool false),(5,.int .i64 (.ofNat i))] [] .none al)))/\(cO=false->i+1<9223372036854775808/\Q .nrm (ao.mk [(0,.slice b off N aE),(1,.slice c cc M cy),(5,.int .i64 (.ofNat (i+1)))] [] .none (h.room 45))))/\(fe a4 a_=false->Q .ret (ao.mk [(0,.slice b off N aE),(1,.slice c cc M cy),(4,.bool false),(5,.int .i64 (.ofNat i))] [] .none (h.room 45)))))/\(¬i<N->Q (.exit 0) (ao.mk [(0,.slice b off N aE),(1,.slice c cc M cy),(5,.int .i64 (.ofNat i))] [] .none h))):
  bm Tryz.prog Tryz.f20 call [1,1,0,1,0,0] ⟨[(0,.slice b off N aE),(1,.slice c cc M cy),(5,.int .i64 (.ofNat i))],[],.none,h⟩ Q:=
 e9 [(52,.b1 (.ee [.st,.b,.o,.o])),(57,.b1 (.ee [.st,.b,.o,.o]))] [0,1,4,5] [(0,.v (.slice b off N aE)),(1,.v (.slice c cc M cy)),(5,.v (.int .i64 (.ofNat i)))] rfl (Eq.mp (by kernel_rfl) H)
theorem WG(call:aP->List I->J->av)(i:Nat)(v:I)(w:I)(h:J){Q:bu->ao->Prop}(H:∃aI:Nat,cb Tryz.prog h 33 v=some (.int .i64 (.ofNat aI))/\¬i<aI/\Q (.exit 0) (ao.mk [] [] .none h)):
  bm Tryz.prog Tryz.f20 call [1,1,0,1,0,0] ⟨[(0,v),(1,w),(5,.int .i64 (.ofNat i))],[],.none,h⟩ Q:=
 e9 [(1014,.f)] [] [(0,.o v),(1,.o w),(5,.v (.int .i64 (.ofNat i)))] rfl (Eq.mp (by kernel_rfl) H)
theorem WH(m:Nat)(p:List UInt8)(p':List UInt8)(q:List UInt8)(q':List UInt8)(v:I)(v':I)(h:J){R:av->Prop}(H:I.bC v=true/\I.bC v'=true/\0<2/\∃s1:List UInt8,ay (J.room (J.push (J.push (J.push h (.cells [.str p,.str p'] 43 .own 0 0)) (.cells [.str q,.str q'] 43 .own 0 0)) (.cells [v,v'] 44 .own 0 0)) 16) h.n (0+0*1)=some (.str s1)/\0<2/\∃s2:List UInt8,ay (J.room (J.push (J.push (J.push h (.cells [.str p,.str p'] 43 .own 0 0)) (.cells [.str q,.str q'] 43 .own 0 0)) (.cells [v,v'] 44 .own 0 0)) 16) h.n (0+0*1)=some (.str s2)/\∃aI:Nat,gP hp (.int .i64 (.ofNat (List.length s2))) [.int .i64 (.ofNat 50)]=some (.int .i64 (.ofNat aI))/\∃bI:List UInt8,eu Tryz.prog (J.room (J.push (J.push (J.push h (.cells [.str p,.str p'] 43 .own 0 0)) (.cells [.str q,.str q'] 43 .own 0 0)) (.cells [v,v'] 44 .own 0 0)) 16) 9 (.str s1) none (some (.int .i64 (.ofNat aI))) none=some (.str bI)/\1<2/\∃cq:List UInt8,ay (J.room (J.push (J.push (J.push h (.cells [.str p,.str p'] 43 .own 0 0)) (.cells [.str q,.str q'] 43 .own 0 0)) (.cells [v,v'] 44 .own 0 0)) 16) h.n (0+1*1)=some (.str cq)/\1<2/\∃cN:List UInt8,ay (J.room (J.push (J.push (J.push h (.cells [.str p,.str p'] 43 .own 0 0)) (.cells [.str q,.str q'] 43 .own 0 0)) (.cells [v,v'] 44 .own 0 0)) 16) h.n (0+1*1)=some (.str cN)/\∃bw:Nat,gP hp (.int .i64 (.ofNat (List.length cN))) [.int .i64 (.ofNat 50)]=some (.int .i64 (.ofNat bw))/\∃dK:List UInt8,eu Tryz.prog (J.room (J.push (J.push (J.push h (.cells [.str p,.str p'] 43 .own 0 0)) (.cells [.str q,.str q'] 43 .own 0 0)) (.cells [v,v'] 44 .own 0 0)) 16) 9 (.str cq) none (some (.int .i64 (.ofNat bw))) none=some (.str dK)/\0<2/\∃eW:List UInt8,ay (J.room (J.room (J.push (J.push (J.push h (.cells [.str p,.str p'] 43 .own 0 0)) (.cells [.str q,.str q'] 43 .own 0 0)) (.cells [v,v'] 44 .own 0 0)) 16) 16) (J.n (J.push h (.cells [.str p,.str p'] 43 .own 0 0))) (0+0*1)=some (.str eW)/\0<2/\∃KR:List UInt8,ay (J.room (J.room (J.push (J.push (J.push h (.cells [.str p,.str p'] 43 .own 0 0)) (.cells [.str q,.str q'] 43 .own 0 0)) (.cells [v,v'] 44 .own 0 0)) 16) 16) (J.n (J.push h (.cells [.str p,.str p'] 43 .own 0 0))) (0+0*1)=some (.str KR)/\∃cH:Nat,gP hp (.int .i64 (.ofNat (List.length KR))) [.int .i64 (.ofNat 300)]=some (.int .i64 (.ofNat cH))/\∃Al:List UInt8,eu Tryz.prog (J.room (J.room (J.push (J.push (J.push h (.cells [.str p,.str p'] 43 .own 0 0)) (.cells [.str q,.str q'] 43 .own 0 0)) (.cells [v,v'] 44 .own 0 0)) 16) 16) 9 (.str eW) none (some (.int .i64 (.ofNat cH))) none=some (.str Al)/\1<2/\∃KS:List UInt8,ay (J.room (J.room (J.push (J.push (J.push h (.cells [.str p,.str p'] 43 .own 0 0)) (.cells [.str q,.str q'] 43 .own 0 0)) (.cells [v,v'] 44 .own 0 0)) 16) 16) (J.n (J.push h (.cells [.str p,.str p'] 43 .own 0 0))) (0+1*1)=some (.str KS)/\1<2/\∃KT:List UInt8,ay (J.room (J.room (J.push (J.push (J.push h (.cells [.str p,.str p'] 43 .own 0 0)) (.cells [.str q,.str q'] 43 .own 0 0)) (.cells [v,v'] 44 .own 0 0)) 16) 16) (J.n (J.push h (.cells [.str p,.str p'] 43 .own 0 0))) (0+1*1)=some (.str KT)/\∃cZ:Nat,gP hp (.int .i64 (.ofNat (List.length KT))) [.int .i64 (.ofNat 300)]=some (.int .i64 (.ofNat cZ))/\∃Am:List UInt8,eu Tryz.prog (J.room (J.room (J.push (J.push (J.push h (.cells [.str p,.str p'] 43 .own 0 0)) (.cells [.str q,.str q'] 43 .own 0 0)) (.cells [v,v'] 44 .own 0 0)) 16) 16) 9 (.str KS) none (some (.int .i64 (.ofNat cZ))) none=some (.str Am)/\0<2/\∃v1:I,ay (J.room (J.room (J.room (J.push (J.push (J.push h (.cells [.str p,.str p'] 43 .own 0 0)) (.cells [.str q,.str q'] 43 .own 0 0)) (.cells [v,v'] 44 .own 0 0)) 16) 16) 8) (J.n (J.push (J.push h (.cells [.str p,.str p'] 43 .own 0 0)) (.cells [.str q,.str q'] 43 .own 0 0))) (0+0*1)=some v1/\∃v2:I,∃al:J,(Y m) (.fn 14) [v1] (J.room (J.room (J.room (J.push (J.push (J.push h (.cells [.str p,.str p'] 43 .own 0 0)) (.cells [.str q,.str q'] 43 .own 0 0)) (.cells [v,v'] 44 .own 0 0)) 16) 16) 8)=.ret v2 al/\1<2/\∃cX:I,ay al (J.n (J.push (J.push h (.cells [.str p,.str p'] 43 .own 0 0)) (.cells [.str q,.str q'] 43 .own 0 0))) (0+1*1)=some cX/\∃v4:I,∃au:J,(Y m) (.fn 14) [cX] al=.ret v4 au/\I.sound v1=true/\I.sound cX=true/\ay (J.room (J.room (J.room (J.push (J.push (J.push h (.cells [.str p,.str p'] 43 .own 0 0)) (.cells [.str q,.str q'] 43 .own 0 0)) (.cells [v,v'] 44 .own 0 0)) 16) 16) 8) (J.n (J.push (J.push h (.cells [.str p,.str p'] 43 .own 0 0)) (.cells [.str q,.str q'] 43 .own 0 0))) (0+1*1)=some cX/\I.sound v2=true/\I.sound v4=true/\∃pI:List UInt8,∃a7:J,(Y m) (.fn 13) [.str bI,.str Al,v2] au=.ret (.str pI) a7/\∃pJ:List UInt8,∃b8:J,(Y m) (.fn 13) [.str dK,.str Am,v4] a7=.ret (.str pJ) b8/\(bR pI []=true->∃a4:Bool,∃db:J,(Y m) (.fn 12) [] b8=.ret (.bool a4) db/\R (.ret (.bool a4) db))/\(bR pI []=false->(bR pJ []=true->∃a_:Bool,∃e7:J,(Y m) (.fn 12) [] b8=.ret (.bool a_) e7/\R (.ret (.bool a_) e7))/\(bR pJ []=false->(bR bI dK=true->(bR Al Am=true->∃cO:Bool,∃hj:J,(Y m) (.fn 20) [v2,v4] b8=.ret (.bool cO) hj/\(fe (bR pI pJ) cO=true->∃hD:Bool,∃j6:J,(Y m) (.fn 12) [] hj=.ret (.bool hD) j6/\R (.ret (.bool hD) j6))/\(fe (bR pI pJ) cO=false->R (.ret (.bool false) hj)))/\(bR Al Am=false->(fe (bR pI pJ) false=true->∃n8:Bool,∃nf:J,(Y m) (.fn 12) [] b8=.ret (.bool n8) nf/\R (.ret (.bool n8) nf))/\(fe (bR pI pJ) false=false->R (.ret (.bool false) b8))))/\(bR bI dK=false->(fe (bR pI pJ) false=true->∃iC:Bool,∃ng:J,(Y m) (.fn 12) [] b8=.ret (.bool iC) ng/\R (.ret (.bool iC) ng))/\(fe (bR pI pJ) false=false->R (.ret (.bool false) b8)))))):
  R (Y (m+1) (.fn 7) [.agg [.str p,.str p'],.agg [.str q,.str q'],.agg [v,v']] h):=
 dd (intr:=bW) [] [(0,.ee [.v (.str p),.v (.str p')]),(1,.ee [.v (.str q),.v (.str q')]),(2,.ee [.o v,.o v'])] Tryz.func7 (by kernel_rfl) (by kernel_rfl) (by kernel_rfl) rfl (Eq.mp (by kernel_rfl) H)
theorem KU:∀(l k:List e0),l.length≠k.length->jf l k=false
 |[],[],h=>absurd rfl h
 |[],_::_,h=>rfl
 |_::_,[],h=>rfl
 |a::l,b::k,h=>by rw[jf,KU l k (by simpa using h)];simp
theorem KV:∀(l k:List e0),l.length=k.length->(∀j (aa:j<l.length) (ad:j<k.length),je l[j] k[j]=true)->jf l k=true
 |[],[],_,_=>rfl
 |[],_::_,h,_=>by simp at h
 |_::_,[],h,_=>by simp at h
 |a::l,b::k,h,hs=>by
  rw[jf,show je a b=true from hs 0 (by simp) (by simp),KV l k (by simpa using h) λj aa ad=>hs (j+1) (by simpa using aa) (by simpa using ad)];rfl
theorem KW:∀(l k:List e0) (j:Nat) (aa:j<l.length) (ad:j<k.length),je l[j] k[j]=false->jf l k=false
 |[],_,j,aa,_,_=>by simp at aa
 |_::_,[],j,_,ad,_=>by simp at ad
 |a::l,b::k,0,_,_,h=>by rw[jf,show je a b=false from h];rfl
 |a::l,b::k,j+1,aa,ad,h=>by rw[jf,KW l k j (by simpa using aa) (by simpa using ad) h,Bool.and_false]
theorem WI(m:Nat){B:Nat}{h:J}{v w:I}{l k:List e0}(hm:340<=m)(bM:B<=h.n)(aB:ik B h v l)(hw:ik B h w k)(KX:pE l)(WJ:pE k):bD B h (.bool (jf l k)) (Y (m+2) (.fn 20) [v,w] h):=by
 refine WD (m+1) v w h (R:=λx=>bD B h (.bool (jf l k)) x) ⟨_,aB.len h,_,hw.len h,λaG=>?_,λaG=>bD.of (dM (KU l k aG)) (Ext.refl _ _)⟩
 have Em:=KX.n
 refine bm.loop (by kernel_rfl) (λd st=>∃i x Γ,st=⟨Γ,[],.none,x⟩/\cl [(0,v),(1,w),(5,.int .i64 (Int.ofNat i))] Γ/\l.length-i=d/\i<=l.length/\Ext B h x/\∀j (aa:j<l.length) (ad:j<k.length),j<i->je l[j] k[j]=true) ?_ l.length _ (by omega) ⟨0,h,_,rfl,⟨rfl,rfl,rfl,trivial⟩,by omega,by omega,Ext.refl _ _,λj _ _ aD=>by omega⟩
 rintro d st ⟨i,x,Γ,rfl,cG,az,ae,ab,bh⟩
 by_cases aa:i<l.length
 · have ad:i<k.length:=by omega
   rcases aB with⟨_,rfl⟩|⟨b,off,aE,rfl,af,an⟩
   · simp at aa
   rcases hw with⟨_,rfl⟩|⟨c,cc,cy,rfl,ag,aq⟩
   · simp at ad
   obtain⟨cY,dr,dy,dq⟩:=an i aa
   obtain⟨a4,a_,iu,hL⟩:=aq i ad
   have pK:Ext B h (x.room 45):=ab.hC
   obtain⟨WK,nK,nM⟩:=Ah (q7 pK af dy)
   obtain⟨hQ,dp,cC⟩:=Ah (q7 pK ag iu)
   obtain⟨g,c1,bb⟩:=U5 m (by omega) (Nat.le_trans bM pK.n) (dq.bZ pK) (hL.bZ pK) (KX.f _ (List.getElem_mem aa)) (WJ.f _ (List.getElem_mem ad))
   have eh:Ext B h g:=pK.trans (Nat.le_refl _) bb
   have no:∀y bV,cl [(4,.bool false)] bV->Ext B h y->je l[i] k[i]=false->(∃(al:J) (bq:Env),bu.ret=.exit 0/\ao.mk bV [] .none y=ao.mk bq [] .none al/\cl [] bq/\bD B h (.bool (jf l k)) (.ret (.bool true) al))\/(∃(a4:Bool) (au:J) (bT:Env),bu.ret=.ret/\ao.mk bV [] .none y=ao.mk bT [] .none au/\cl [(4,.bool a4)] bT/\bD B h (.bool (jf l k)) (.ret (.bool a4) au)):=λy bV hs aU hf=>.inr ⟨false,y,bV,rfl,rfl,hs,bD.of (dM (KW l k i aa ad hf)) aU⟩
   have dn:∀y bV,cl [(0,.slice b off l.length aE),(1,.slice c cc k.length cy),(5,.int .i64 (Int.ofNat (i+1)))] bV->Ext B h y->je l[i] k[i]=true->∃e,e<d/\∃jm x Γ,ao.mk bV [] .none y=⟨Γ,[],.none,x⟩/\cl [(0,.slice b off l.length aE),(1,.slice c cc k.length cy),(5,.int .i64 (Int.ofNat jm))] Γ/\l.length-jm=e/\jm<=l.length/\Ext B h x/\∀j (aa:j<l.length) (ad:j<k.length),j<jm->je l[j] k[j]=true:=λy bV hs aU aQ=>⟨_,(by show l.length-(i+1)<d;omega),i+1,y,bV,rfl,hs,rfl,by omega,aU,λj l2 p4 aD=>by
    by_cases e:j=i
    · subst e;exact aQ
    · exact bh j l2 p4 (by omega)⟩
   refine bm.pre (WE (Y (m+1)) b off _ i aE c cc _ cy x ⟨λ_=>⟨aa,_,WK,ad,_,hQ,λe=>?_,λe=>⟨aa,_,nK,ad,_,dp,λax=>⟨aa,_,nK,λbp=>⟨aa,_,_,_,_,nM,ad,_,_,_,_,cC,_,g,c1,dq.v.snd,dq.t.snd,hL.v.snd,hL.t.snd,λds=>⟨by omega,?_⟩,λds=>?_⟩,λbp=>⟨by omega,?_⟩⟩,λax=>?_⟩⟩,λah=>absurd aa ah⟩) cG rfl rfl rfl
   · refine no _ _ ⟨rfl,trivial⟩ pK ?_
     unfold je;rw[show bR l[i].path k[i].path=false by simpa using e];rfl
   · refine dn _ _ ⟨rfl,rfl,rfl,trivial⟩ eh ?_
     have cx:bR l[i].path k[i].path=true:=by simpa using e
     have tc:(l[i].fU==k[i].fU)=true:=ax
     unfold je;rw[cx,tc,ds];simp
   · refine no _ _ ⟨rfl,trivial⟩ eh ?_
     unfold je;rw[bp,ds];simp
   · refine dn _ _ ⟨rfl,rfl,rfl,trivial⟩ pK ?_
     have cx:bR l[i].path k[i].path=true:=by simpa using e
     have tc:(l[i].fU==k[i].fU)=true:=ax
     unfold je;rw[cx,tc,bp];rfl
   · refine no _ _ ⟨rfl,trivial⟩ pK ?_
     have tc:(l[i].fU==k[i].fU)=false:=ax
     unfold je;rw[tc];simp
 · refine bm.pre (WG (Y (m+1)) i v w x ⟨l.length,aB.len x,aa,.inl ⟨x,_,rfl,rfl,trivial,bD.of (dM ?_) ab⟩⟩) cG rfl rfl rfl
   exact KV l k aG λj l2 p4=>bh j l2 p4 (by omega)
theorem jc.cell{B:Nat}{h:J}{v:I}{l:List hn}(o:jc B h v l):v.bC=true:=by rcases o with⟨rfl,_⟩|⟨b,off,aE,rfl,_⟩<;>rfl
theorem jc.snd{B:Nat}{h:J}{v:I}{l:List hn}(o:jc B h v l):I.sound v=true:=by rcases o with⟨rfl,_⟩|⟨b,off,aE,rfl,_⟩<;>rfl
theorem ik.snd{B:Nat}{h:J}{v:I}{l:List e0}(o:ik B h v l):I.sound v=true:=by rcases o with⟨rfl,_⟩|⟨b,off,aE,rfl,_⟩<;>rfl
theorem WL{l:List e0}(h:pE l)(a6:∀x∈l,x.fc.path.length<=90000):∀x∈l,oz x:=λx ab=>⟨by have:=h.p x ab;omega,(h.f x ab).fits (a6 x ab)⟩
theorem KY(l:List hn):∀x∈kr l,oz x:=WL (tb l) λx ab=>by
 obtain⟨y,_,rfl⟩:=List.mem_map.1 ab
 show(cut 50 y.p).length<=_
 simp only[cut,List.length_take];omega
theorem KZ{p q:aJ}{l:List e0}(h:bR (hq p q l) []=false):l.all gD=true/\hq p q l=nu p q l:=by
 unfold hq at h⊢
 cases e:l.all gD with
 |true=>exact⟨rfl,if_pos rfl⟩
 |false=>rw[e,if_neg (by simp)] at h;cases h
theorem WM{p p' q q':aJ}{l k:List e0}(a6:p.length<=90000)(qk:p'.length<=90000)(bh:q.length<=90000)(yj:q'.length<=90000)(nl:pE l)(Er:pE k)(an:∀x∈l,oz x)(aq:∀x∈k,oz x)(aa:bR (hq p q l) []=false)(ad:bR (hq p' q' k) []=false):bR (hq p q l) (hq p' q' k)=(bR p p'&&(bR q q'&&jf l k)):=by
 obtain⟨cm,aC⟩:=KZ aa
 obtain⟨fY,ax⟩:=KZ ad
 have aI:=nl.n
 have bw:=Er.n
 rw[aC,ax]
 exact WC (by omega) (by omega) (by omega) (by omega) (by omega) (by omega) (λx ab=>⟨an x ab,List.all_eq_true.1 cm x ab⟩) (λx ab=>⟨aq x ab,List.all_eq_true.1 fY x ab⟩)
theorem WN(m:Nat){B:Nat}{h:J}{p p' q q':aJ}{v v':I}{l k:List hn}(bM:B<=h.n)(aB:jc B h v l)(hw:jc B h v' k):∃g,Y (m+502) (.fn 7) [.agg [.str p,.str p'],.agg [.str q,.str q'],.agg [v,v']] h=.ret (.bool true) g:=by
 have gw:∀x:aJ,(cut 50 x).length<=90000:=λx=>by simp only[cut,List.length_take];omega
 have An:∀x:aJ,(cut 300 x).length<=90000:=λx=>by simp only[cut,List.length_take];omega
 obtain⟨ox,pF⟩:∃P,P=h.push (.cells [.str p,.str p'] 43 .own 0 0):=⟨_,rfl⟩
 obtain⟨pG,nv⟩:∃P,P=ox.push (.cells [.str q,.str q'] 43 .own 0 0):=⟨_,rfl⟩
 obtain⟨jg,uU⟩:∃P,P=pG.push (.cells [v,v'] 44 .own 0 0):=⟨_,rfl⟩
 have aI:ox.n=h.n+1:=by rw[pF];rfl
 have bw:pG.n=h.n+2:=by rw[nv];show ox.n+1=_;omega
 have cH:jg.n=h.n+3:=by rw[uU];show pG.n+1=_;omega
 have bb:Ext h.n h ox:=by rw[pF];exact Ext.push (Nat.le_refl _) _
 have cP:Ext h.n h jg:=by rw[uU];refine Ext.lp (by omega) ?_;rw[nv];exact Ext.lp (by omega) bb
 have aR:jg.get h.n=some (.cells [.str p,.str p'] 43 .own 0 0):=by rw[uU];refine sd (by omega) ?_;rw[nv];refine sd (by omega) ?_;rw[pF];exact eZ rfl
 have a3:jg.get ox.n=some (.cells [.str q,.str q'] 43 .own 0 0):=by rw[uU];refine sd (by omega) ?_;rw[nv];exact eZ rfl
 have ck:jg.get pG.n=some (.cells [v,v'] 44 .own 0 0):=by rw[uU];exact eZ rfl
 obtain⟨H,cR⟩:∃H,H=((jg.room 16).room 16).room 8:=⟨_,rfl⟩
 have ml:H.n=h.n+43:=by rw[cR];simp;omega
 have dG:Ext jg.n jg H:=by rw[cR];exact Ext.hC (Ext.hC (Ext.room _ _ _))
 have K0:Ext h.n h H:=cP.trans (Nat.le_refl _) (dG.le (by omega))
 obtain⟨v1,al,c1,fl,i1⟩:=Ko (m+496) (show B<=H.n by omega) (aB.ext (K0.le bM))
 have cm:=fl.n
 have c7:Ext h.n h al:=K0.trans (Nat.le_refl _) (fl.le (by omega))
 obtain⟨v2,au,c2,eE,i2⟩:=Ko (m+496) (show B<=al.n by omega) (hw.ext (c7.le bM))
 have fY:=eE.n
 have l2:ik au.n au v1 (kr l):=(i1.ext eE).le fY
 obtain⟨a7,c3,Es⟩:=Kk (m+496) (p:=cut 50 p) (q:=cut 300 q) (by omega) (Nat.le_refl _) l2 (tb l) (gw _) (An _) (Kw p q l)
 have uA:=Es.n
 obtain⟨b8,c4,K1⟩:=Kk (m+496) (p:=cut 50 p') (q:=cut 300 q') (by omega) uA (i2.ext Es) (tb k) (gw _) (An _) (Kw p' q' k)
 have IB:=K1.n
 have Et:=Es.trans (Nat.le_refl _) K1
 obtain⟨db,lJ,XY⟩:=WI (m+499) (by omega) Et.n (l2.ext Et) (i2.ext Et) (tb l) (tb k)
 have WO:∀{g},Ext jg.n jg g->ay g h.n (0+0*1)=some (.str p)/\ay g h.n (0+1*1)=some (.str p'):=λe=>⟨ba ((e.get _ (by omega)).trans aR) rfl,ba ((e.get _ (by omega)).trans aR) rfl⟩
 have WQ:∀{g},Ext jg.n jg g->ay g ox.n (0+0*1)=some (.str q)/\ay g ox.n (0+1*1)=some (.str q'):=λe=>⟨ba ((e.get _ (by omega)).trans a3) rfl,ba ((e.get _ (by omega)).trans a3) rfl⟩
 have K2:∀{g},Ext jg.n jg g->ay g pG.n (0+0*1)=some v/\ay g pG.n (0+1*1)=some v':=λe=>⟨ba ((e.get _ (by omega)).trans ck) rfl,ba ((e.get _ (by omega)).trans ck) rfl⟩
 obtain⟨cY,dr⟩:=WO (Ext.room jg.n jg 16)
 obtain⟨a4,a_⟩:=WQ (Ext.hC (k:=16) (Ext.room jg.n jg 16))
 obtain⟨d1,d2⟩:=K2 dG
 obtain⟨_,d3⟩:=K2 (dG.trans (Nat.le_refl _) (fl.le (by omega)))
 have b3:=λaa ad=>WM (gw p) (gw p') (An q) (An q') (tb l) (tb k) (KY l) (KY k) aa ad
 refine WH (m+501) p p' q q' v v' h (R:=λx=>∃g,x=.ret (.bool true) g) ?_
 rw[<-pF,<-nv,<-uU,<-cR]
 refine⟨aB.cell,hw.cell,by omega,_,cY,by omega,_,cY,_,mc _ _,_,nq 50 p,by omega,_,dr,by omega,_,dr,_,mc _ _,_,nq 50 p',by omega,_,a4,by omega,_,a4,_,mc _ _,_,nq 300 q,by omega,_,a_,by omega,_,a_,_,mc _ _,_,nq 300 q',by omega,_,d1,v1,al,c1,by omega,_,d3,v2,au,c2,aB.snd,hw.snd,d2,l2.snd,i2.snd,_,a7,c3,_,b8,c4,λe=>⟨true,b8,xo _ _,b8,rfl⟩,λaC=>⟨λe=>⟨true,b8,xo _ _,b8,rfl⟩,λax=>⟨λbp=>⟨λds=>⟨_,db,lJ,λ_=>⟨true,db,xo _ _,db,rfl⟩,λhh=>?_⟩,λds=>⟨λ_=>⟨true,b8,xo _ _,b8,rfl⟩,λhh=>?_⟩⟩,λbp=>⟨λ_=>⟨true,b8,xo _ _,b8,rfl⟩,λhh=>?_⟩⟩⟩⟩
 · rw[b3 aC ax,show bR (cut 50 p) (cut 50 p')=_ from bp,show bR (cut 300 q) (cut 300 q')=_ from ds] at hh
   simp[fe] at hh
 · rw[b3 aC ax,show bR (cut 50 p) (cut 50 p')=_ from bp,show bR (cut 300 q) (cut 300 q')=_ from ds] at hh
   simp[fe] at hh
 · rw[b3 aC ax,show bR (cut 50 p) (cut 50 p')=_ from bp] at hh
   simp[fe] at hh
end Go.Proofs.cn
