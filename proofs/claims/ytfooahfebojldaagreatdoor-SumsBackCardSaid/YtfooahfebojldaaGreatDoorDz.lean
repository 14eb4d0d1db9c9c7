/-
  PROVED HERE: contracts of functions (Dz). No condition beside each statement's own.
-/
import Derived.Test.YtfooahfebojldaaGreatDoorDw
import Derived.Test.YtfooahfebojldaaGreatDoorDy
import Derived.Test.YtfooahfebojldaaGreatDoorDx
set_option linter.unusedVariables false
set_option linter.unusedSimpArgs false
namespace Go.Proofs.cN
open Go ay Go.Proofs cS Go.Proofs.cf
open Go.Proofs.cW (dC)
open Go.Proofs.ed (cM cv a_ ff cH p2 q3 q2 wP)
set_option maxRecDepth 100000
set_option maxHeartbeats 1000000
theorem Ds{t:aL}(r:aL)(h:t.length<18446744073709551616):cH (some (dC t++r))=(t,some r):=by
 unfold cW.dC cH
 rw[List.append_assoc,p2 _ _ h]
 show ff t.length (some (t++r))=_
 rw[q2 (by rw[List.length_append];omega),List.take_left,List.drop_left]
theorem Dt{st:cv}{r:aL}(h:(cH st).2=some r):st=some (dC (cH st).1++r):=by
 unfold cH at h⊢
 cases e:(a_ st).2 with
 |none=>rw[e] at h;cases h
 |some s=>
  have k:=q3 e
  rw[e] at h
  by_cases aJ:(a_ st).1<=s.length
  · rw[q2 aJ] at h⊢
    cases h
    refine k.trans ?_
    simp only[e,cW.dC]
    rw[List.append_assoc,List.length_take,Nat.min_eq_left aJ,List.take_append_drop]
  · rw[wP aJ] at h;cases h
theorem Ig{f:Q->Option (a3×Q)}(r:aL):∀(ts:List a3) (bs:List aL) (acc:List a3) (n:Nat),(∀t∈ts,∀r ij,n<=ij->ij+sz t<=60->f (some (jd t++r),ij)=some (t,(some r,ij+sz t)))->n+dP ts<=60->eF hY (gY f) ts.length ((some ((ek ts).flatten++r),n),(bs,acc))=some ((some r,n+dP ts),(bs,acc++ts))
 |[],bs,acc,n,_,_=>by simp[eF,ek,dP]
 |t::ts,bs,acc,n,hf,aJ=>by
  rw[dP] at aJ
  have ab:=hf t (List.mem_cons_self ..) ((ek ts).flatten++r) n (Nat.le_refl _) (by omega)
  have ae:=Ig r ts bs (acc++[t]) (n+sz t) (λt a2 r ij x8=>hf t (List.mem_cons_of_mem _ a2) r ij (by omega)) (by omega)
  rw[List.length_cons,ek,List.flatten_cons,List.append_assoc,eF,if_pos (show hY _=true from rfl)]
  unfold gY
  simp only[ab,Option.map_some,Option.bind_some]
  refine Eq.trans ae ?_
  simp[dP,Nat.add_assoc]
theorem Pr{f:Q->Option (a3×Q)}(r:aL):∀(ts:List a3) (ns bs:List aL) (acc:List a3) (n:Nat),ns.length=ts.length->(∀x∈ns,x.length<=24)->(∀t∈ts,∀r ij,n<=ij->ij+sz t<=60->f (some (jd t++r),ij)=some (t,(some r,ij+sz t)))->n+dP ts<=60->eF hY (lb f) ts.length ((some ((jt ns (ek ts)).flatten++r),n),(bs,acc))=some ((some r,n+dP ts),(bs++ns,acc++ts))
 |[],[],bs,acc,n,_,_,_,_=>by simp[eF,ek,dP,jt]
 |[],_::_,_,_,_,h,_,_,_=>by simp at h
 |_::_,[],_,_,_,h,_,_,_=>by simp at h
 |t::ts,x::ns,bs,acc,n,aw,ad,hf,aJ=>by
  rw[dP] at aJ
  have h0:=Ds (t:=x) (jd t++((jt ns (ek ts)).flatten++r)) (by have:=ad x (List.mem_cons_self ..);omega)
  have ab:=hf t (List.mem_cons_self ..) ((jt ns (ek ts)).flatten++r) n (Nat.le_refl _) (by omega)
  have ae:=Pr r ts ns (bs++[x]) (acc++[t]) (n+sz t) (by simpa using aw) (λy a6=>ad y (List.mem_cons_of_mem _ a6)) (λt a2 r ij x8=>hf t (List.mem_cons_of_mem _ a2) r ij (by omega)) (by omega)
  have e:(jt (x::ns) (ek (t::ts))).flatten++r=dC x++(jd t++((jt ns (ek ts)).flatten++r)):=by
   rw[ek];simp only[jt,List.zipWith_cons_cons,List.flatten_cons,List.append_assoc]
  rw[List.length_cons,e,eF,if_pos (show hY _=true from rfl)]
  unfold lb gY
  simp only[h0,ab,Option.map_some,Option.bind_some]
  refine Eq.trans ae ?_
  simp[dP,Nat.add_assoc]
theorem ab4{k N M:Nat}{s:aL}{o:Bool}(h:wC k s N M o=true):(k≠6->s=[])/\(k≠7->N=0)/\(k<7->M=0)/\(o=decide (k=8)):=by
 unfold wC at h
 simp only[Bool.and_eq_true,Bool.not_eq_true'] at h
 obtain⟨⟨⟨ab,ae⟩,av⟩,aK⟩:=h
 refine⟨λau=>?_,λau=>?_,λau=>?_,?_⟩
 · rw[decide_eq_false au] at ab
   cases hs:cw s [] with
   |true=>exact by simpa[nk] using hs
   |false=>rw[hs] at ab;cases ab
 · by_cases im:0<N
   · rw[decide_eq_true im,decide_eq_true au] at ae;cases ae
   · omega
 · by_cases nO:0<M
   · rw[decide_eq_true nO,decide_eq_true au] at av;cases av
   · omega
 · revert aK
   cases o<;>cases decide (k=8)<;>intro aK<;>first|rfl|cases aK
theorem Ps:∀(l:List aL) (p:Option aL),oI p l=true->∀x∈l,x.length<=24
 |[],_,_,x,ad=>by cases ad
 |y::l,p,h,x,ad=>by
  rw[oI] at h
  simp only[Bool.and_eq_true] at h
  rcases List.mem_cons.1 ad with rfl|ad
  · exact Mg h.1
  · exact Ps l _ h.2.2 x ad
theorem Ih(aW:Nat)(hR:aW<=1):∀(K:Nat) (t:a3),sz t<=K->g7 t=true->∀j r n,sz t<=j->n+sz t<=60->dd aW j (some (jd t++r),n)=some (t,(some r,n+sz t))
 |0,t,dO,_,_,_,_,_,_=>by have:=ss t;omega
 |K+1,.mk k bZ ns xs rt,dO,hm,j,r,n,aI,aJ=>by
  rw[Cf] at hm
  simp only[Bool.and_eq_true,decide_eq_true_eq] at hm
  obtain⟨⟨bz,kp⟩,aY,ad,au⟩:=hm
  obtain⟨di,da,kD,kE⟩:=ab4 aY
  have a0:=uB k bZ ns xs rt
  rw[a0] at dO aI aJ⊢
  obtain⟨j,rfl⟩:∃i,j=i+1:=⟨j-1,by omega⟩
  have rL:xs.length<=dP xs:=by
   have:∀l:List a3,l.length<=dP l:=λl=>by
    induction l with
    |nil=>exact Nat.zero_le _
    |cons t l bp=>rw[dP];have:=ss t;simp only[List.length_cons];omega
   exact this xs
  have each:∀t∈xs,∀r ij,n+1<=ij->ij+sz t<=60->dd aW j (some (jd t++r),ij)=some (t,(some r,ij+sz t)):=λt a2 r ij _ x8=>by
   have:=oF a2
   exact Ih aW hR K t (by omega) (Ce ad a2) j r ij (by omega) x8
  have iJ:=p2 k (j7 k bZ ns (ek xs) (jN rt)++r) (by omega)
  rw[uW,List.append_assoc,dd,iJ,if_pos ⟨rfl,by simp only;omega,by simp only;omega,by simp only;omega⟩]
  simp only
  unfold iX at au
  by_cases cB:k=6
  · subst cB
    obtain rfl:ns=[]:=List.length_eq_zero_iff.1 (da (by omega))
    obtain rfl:xs=[]:=List.length_eq_zero_iff.1 (kD (by omega))
    obtain rfl:rt=none:=by cases rt<;>first|rfl|cases kE
    rw[if_pos rfl] at au
    have aw:bZ.length<=161:=by
     unfold sw at au
     simp only[Bool.and_eq_true,decide_eq_true_eq] at au
     exact au.1.2
    unfold hv j7
    rw[if_pos rfl,if_pos rfl,Ds r (by omega)]
    simp[dP,dw]
  by_cases eo:k=7
  · subst eo
    obtain rfl:bZ=[]:=di (by omega)
    obtain rfl:rt=none:=by cases rt<;>first|rfl|cases kE
    rw[if_neg cB,if_pos rfl,Bool.and_eq_true,decide_eq_true_eq] at au
    have ab:=Pr (f:=dd aW j) r xs ns [] [] (n+1) au.1 (Ps ns none au.2) each (by omega)
    unfold hv j7
    rw[if_neg cB,if_pos rfl,if_neg cB,if_pos rfl]
    unfold gu
    rw[List.append_assoc,p2 _ _ (by omega)]
    simp only[au.1]
    rw[ab]
    simp[dw];omega
  by_cases fG:k=8
  · subst fG
    obtain rfl:bZ=[]:=di (by omega)
    obtain rfl:ns=[]:=List.length_eq_zero_iff.1 (da (by omega))
    rw[if_neg cB,if_neg eo,if_pos rfl] at au
    obtain⟨t,rfl⟩:∃t,rt=some t:=by cases rt with
     |none=>cases kE
     |some t=>exact⟨t,rfl⟩
    have a2:g7 t=true:=by simpa[mQ] using au
    rw[lD] at dO aI aJ⊢
    have ab:=Ig (f:=dd aW j) (jd t++r) xs [] [] (n+1) each (by omega)
    have ae:=Ih aW hR K t (by omega) a2 j r (n+1+dP xs) (by omega) (by omega)
    unfold hv j7
    rw[if_neg cB,if_neg eo,if_pos rfl,if_neg cB,if_neg eo,if_pos rfl]
    unfold gu
    rw[jN,List.append_assoc,List.append_assoc,uV,p2 _ _ (by omega)]
    simp only
    rw[ab]
    simp only[Option.bind_some,List.nil_append,ae,Option.map_some]
    simp;omega
  by_cases fH:k=9
  · subst fH
    obtain rfl:bZ=[]:=di (by omega)
    obtain rfl:ns=[]:=List.length_eq_zero_iff.1 (da (by omega))
    obtain rfl:rt=none:=by cases rt<;>first|rfl|cases kE
    have ab:=Ig (f:=dd aW j) r xs [] [] (n+1) each (by omega)
    unfold hv j7
    rw[if_neg cB,if_neg eo,if_neg fG,if_pos rfl,if_neg cB,if_neg eo,if_neg fG,if_pos rfl]
    unfold gu
    rw[List.append_assoc,uV,p2 _ _ (by omega)]
    simp only
    rw[ab]
    simp[dw];omega
  · obtain rfl:bZ=[]:=di cB
    obtain rfl:ns=[]:=List.length_eq_zero_iff.1 (da eo)
    obtain rfl:xs=[]:=List.length_eq_zero_iff.1 (kD (by omega))
    obtain rfl:rt=none:=by
     rw[decide_eq_false fG] at kE
     cases rt<;>first|rfl|cases kE
    unfold hv j7
    rw[if_neg cB,if_neg eo,if_neg fG,if_neg fH,if_neg cB,if_neg eo,if_neg fG,if_neg fH]
    simp[dP,dw]
def Ii(f:Q->Option (a3×Q)):Prop:=∀q t r n,f q=some (t,(some r,n))->q.1=some (jd t++r)
theorem Ij{f:Q->Option (a3×Q)}(hf:Ii f)(r:aL):∀(N:Nat) (s a4:Acc),eF hY (gY f) N s=some a4->a4.1.1=some r->∃ts,ts.length=N/\a4.2=(s.2.1,s.2.2++ts)/\s.1.1=some ((ek ts).flatten++r)
 |0,s,a4,h,ai=>by
  cases h
  exact⟨[],rfl,by simp,by rw[ek];exact ai⟩
 |N+1,s,a4,h,ai=>by
  rw[eF] at h
  split at h
  · unfold gY at h
    cases e:f s.1 with
    |none=>rw[e] at h;cases h
    |some y=>
     obtain⟨t,q⟩:=y
     rw[e] at h
     simp only[Option.map_some,Option.bind_some] at h
     obtain⟨ts,ab,ae,av⟩:=Ij hf r N _ a4 h ai
     obtain⟨aR,aT⟩:=q
     simp only at av
     subst av
     refine⟨t::ts,by simp[ab],by rw[ae];simp,?_⟩
     rw[ek,List.flatten_cons,List.append_assoc]
     exact hf _ _ _ _ e
  · cases h
theorem Pt{f:Q->Option (a3×Q)}(hf:Ii f)(r:aL):∀(N:Nat) (s a4:Acc),eF hY (lb f) N s=some a4->a4.1.1=some r->∃ns ts,ns.length=N/\ts.length=N/\a4.2=(s.2.1++ns,s.2.2++ts)/\s.1.1=some ((jt ns (ek ts)).flatten++r)
 |0,s,a4,h,ai=>by
  cases h
  exact⟨[],[],rfl,rfl,by simp,by rw[ek];exact ai⟩
 |N+1,s,a4,h,ai=>by
  rw[eF] at h
  split at h
  · unfold lb gY at h
    cases e:f ((cH s.1.1).2,s.1.2) with
    |none=>rw[e] at h;cases h
    |some y=>
     obtain⟨t,q⟩:=y
     rw[e] at h
     simp only[Option.map_some,Option.bind_some] at h
     obtain⟨ns,ts,h0,ab,ae,av⟩:=Pt hf r N _ a4 h ai
     obtain⟨aR,aT⟩:=q
     simp only at av
     subst av
     refine⟨(cH s.1.1).1::ns,t::ts,by simp[h0],by simp[ab],by rw[ae];simp,?_⟩
     have k:=Dt (hf _ _ _ _ e)
     rw[ek]
     simp only[jt,List.zipWith_cons_cons,List.flatten_cons,List.append_assoc]
     exact k
  · cases h
theorem Pu(aW:Nat):∀j,Ii (dd aW j)
 |0,q,t,r,n,h=>by cases h
 |j+1,q,t,r,n,h=>by
  have hf:=Pu aW j
  rw[dd] at h
  split at h
  · rename_i ah
    obtain⟨s,hs⟩:=Option.isSome_iff_exists.1 ah.1
    have a1:=q3 hs
    rw[hs] at h
    revert h a1 ah
    generalize (a_ q.1).1=k
    intro ah h a1
    rw[a1]
    unfold hv at h
    by_cases cB:k=6
    · rw[if_pos cB] at h
      subst cB
      simp only[Option.some.injEq,Prod.mk.injEq] at h
      obtain⟨rfl,ae,_⟩:=h
      rw[uW,List.append_assoc]
      unfold j7
      rw[if_pos rfl,<-Option.some.inj (Dt ae)]
    rw[if_neg cB] at h
    by_cases eo:k=7
    · rw[if_pos eo] at h
      subst eo
      cases e:eF hY (lb (dd aW j)) (a_ (some s)).1 (gu (some s,q.2+1)) with
      |none=>rw[show eF hY (lb (dd aW j)) (a_ ((some s,q.2+1):Q).1).1 (gu (some s,q.2+1))=none from e] at h;cases h
      |some y=>
       rw[show eF hY (lb (dd aW j)) (a_ ((some s,q.2+1):Q).1).1 (gu (some s,q.2+1))=some y from e] at h
       simp only[Option.map_some,Option.some.injEq,Prod.mk.injEq] at h
       obtain⟨rfl,ae⟩:=h
       obtain⟨ns,ts,aE,aC,bu,cX⟩:=Pt hf r _ _ _ e (by rw[ae])
       have gJ:=q3 cX
       rw[bu,uW,List.append_assoc]
       unfold j7
       rw[if_neg cB,if_pos rfl]
       simp only[gu,List.nil_append]
       rw[List.append_assoc,aE,<-Option.some.inj gJ]
    rw[if_neg eo] at h
    by_cases fG:k=8
    · rw[if_pos fG] at h
      subst fG
      cases e:eF hY (gY (dd aW j)) (a_ (some s)).1 (gu (some s,q.2+1)) with
      |none=>rw[show eF hY (gY (dd aW j)) (a_ ((some s,q.2+1):Q).1).1 (gu (some s,q.2+1))=none from e] at h;cases h
      |some y=>
       rw[show eF hY (gY (dd aW j)) (a_ ((some s,q.2+1):Q).1).1 (gu (some s,q.2+1))=some y from e] at h
       simp only[Option.bind_some] at h
       cases dW:dd aW j y.1 with
       |none=>rw[dW] at h;cases h
       |some z=>
        rw[dW] at h
        simp only[Option.map_some,Option.some.injEq,Prod.mk.injEq] at h
        obtain⟨rfl,ae⟩:=h
        obtain⟨dI,eS⟩:=z
        simp only at ae
        subst ae
        obtain⟨ts,aC,bu,cX⟩:=Ij hf _ _ _ _ e (hf _ _ _ _ dW)
        have gJ:=q3 cX
        rw[bu,uW,List.append_assoc]
        unfold j7
        rw[if_neg cB,if_neg eo,if_pos rfl]
        simp only[gu,List.nil_append]
        rw[jN,List.append_assoc,List.append_assoc,uV,aC,<-Option.some.inj gJ]
    rw[if_neg fG] at h
    by_cases fH:k=9
    · rw[if_pos fH] at h
      subst fH
      cases e:eF hY (gY (dd aW j)) (a_ (some s)).1 (gu (some s,q.2+1)) with
      |none=>rw[show eF hY (gY (dd aW j)) (a_ ((some s,q.2+1):Q).1).1 (gu (some s,q.2+1))=none from e] at h;cases h
      |some y=>
       rw[show eF hY (gY (dd aW j)) (a_ ((some s,q.2+1):Q).1).1 (gu (some s,q.2+1))=some y from e] at h
       simp only[Option.map_some,Option.some.injEq,Prod.mk.injEq] at h
       obtain⟨rfl,ae⟩:=h
       obtain⟨ts,aC,bu,cX⟩:=Ij hf r _ _ _ e (by rw[ae])
       have gJ:=q3 cX
       rw[bu,uW,List.append_assoc]
       unfold j7
       rw[if_neg cB,if_neg eo,if_neg fG,if_pos rfl]
       simp only[gu,List.nil_append]
       rw[List.append_assoc,uV,aC,<-Option.some.inj gJ]
    rw[if_neg fH] at h
    simp only[Option.some.injEq,Prod.mk.injEq] at h
    obtain⟨rfl,ae,_⟩:=h
    cases ae
    rw[uW]
    unfold j7
    rw[if_neg cB,if_neg eo,if_neg fG,if_neg fH,List.append_nil]
  · cases h
end Go.Proofs.cN
namespace Go.Proofs.cN
open Go ay Go.Proofs cS Go.Proofs.cf
open Go.Proofs.cW (dC)
open Go.Proofs.ed (cM cv a_ ff cH p2 q3 q2 wP)
set_option maxRecDepth 100000
set_option maxHeartbeats 1000000
theorem beq_iff{a b:aL}:cw a b=true<->a=b:=by simp[nk]
theorem Pv:∀{l k:List aL},hU l k=true->l=k
 |[],[],_=>rfl
 |[],_::_,h=>by cases h
 |_::_,[],h=>by cases h
 |x::l,y::k,h=>by
  rw[hU,Bool.and_eq_true] at h
  rw[beq_iff.1 h.1,Pv h.2]
mutual
theorem Pw:∀{t u:a3},qP t u=true->t=u
 |.mk k bZ ns xs rt,.mk ew qQ sr pP qR,h=>by
  rw[qP] at h
  simp only[Bool.and_eq_true] at h
  obtain⟨ab,ae,av,aK,bU⟩:=h
  rw[Nat.eq_of_beq_eq_true ab,beq_iff.1 ae,Pv av,Px aK,Py bU]
theorem Px:∀{l k:List a3},hr l k=true->l=k
 |[],[],_=>rfl
 |[],_::_,h=>by rw[hr] at h<;>first|cases h|simp
 |_::_,[],h=>by rw[hr] at h<;>first|cases h|simp
 |x::l,y::k,h=>by
  rw[hr,Bool.and_eq_true] at h
  rw[Pw h.1,Px h.2]
theorem Py:∀{o p:Option a3},h8 o p=true->o=p
 |none,none,_=>rfl
 |none,some _,h=>by rw[h8] at h<;>first|cases h|simp
 |some _,none,h=>by rw[h8] at h<;>first|cases h|simp
 |some t,some u,h=>by
  rw[h8] at h
  rw[Pw h]
end
theorem Ik:∀{l k:List dQ},m1 l k=true->l=k
 |[],[],_=>rfl
 |[],_::_,h=>by cases h
 |_::_,[],h=>by cases h
 |x::l,y::k,h=>by
  rw[m1] at h
  simp only[Bool.and_eq_true,oM] at h
  have ab:=beq_iff.1 h.1
  have ae:=Py h.2.1.2.2
  have:x=y:=Prod.ext ab ae
  rw[this,Ik h.2.2]
theorem ab5{x y:fN}(h:p8 x y=true):x=y:=by
 obtain⟨p,b,l,k⟩:=x
 obtain⟨p',b',nt,ew⟩:=y
 unfold p8 at h
 simp only[Bool.and_eq_true] at h
 obtain⟨ab,ae,av,aK⟩:=h
 have:=beq_iff.1 ab
 have:=Ik av
 have:=Ik aK
 have:b=b':=by simpa using ae
 subst_vars
 rfl
theorem ab6{o:Option a3}(h:mS o=0):∃t,o=some t/\sz t<=60/\g7 t=true:=by
 cases o with
 |none=>cases h
 |some t=>
  simp only[mS] at h
  split at h
  · cases h
  · split at h
    · exact⟨t,rfl,by omega,by assumption⟩
    · cases h
theorem Pz{aW:Nat}(hR:aW<=1)(r:aL):∀(l:List dQ) (p:aL) (acc:List dQ),mh p l=true->eF (λs:cv×List dQ=>s.1.isSome) (m7 (dd aW 61)) l.length (some ((l.map ei).flatten++r),acc)=some (some r,acc++l)
 |[],p,acc,_=>by simp[eF]
 |(n,o)::l,p,acc,h=>by
  rw[mh] at h
  simp only[Bool.and_eq_true,decide_eq_true_eq] at h
  obtain⟨_,ae,av,aK⟩:=h
  obtain⟨t,rfl,bU,cB⟩:=ab6 av
  have h0:=Ds (t:=n) (jd t++((l.map ei).flatten++r)) (by omega)
  have ab:=Ih aW hR _ t (Nat.le_refl _) cB 61 ((l.map ei).flatten++r) 0 (by omega) (by omega)
  have e:(((n,some t)::l).map ei).flatten++r=dC n++(jd t++((l.map ei).flatten++r)):=by
   simp only[List.map_cons,List.flatten_cons,ei,jN,List.append_assoc]
  rw[List.length_cons,e,eF,if_pos (by rfl)]
  unfold m7
  simp only[h0,ab,Option.map_some,Option.bind_some]
  refine Eq.trans (Pz hR r l n (acc++[(n,some t)]) aK) ?_
  simp
theorem PA{aW:Nat}(hR:aW<=1){l:List dQ}{p:aL}(r:aL)(aJ:l.length<18446744073709551616)(h:mh p l=true):lP aW (some (k_ l++r))=some (some r,l):=by
 unfold lP k_
 rw[List.append_assoc,p2 _ _ aJ]
 exact Pz hR r l p [] h
structure Fits(x:fN):Prop where
 p:x.path.length<18446744073709551616
 v:x.ky.length<18446744073709551616
 t:x.mi.length<18446744073709551616
theorem la.fits{x:fN}(h:la x)(aY:x.path.length<=90000):Fits x:=⟨by omega,by have:=h.dz;omega,by have:=h.lt;omega⟩
theorem Il{aW:Nat}(hR:aW<=1){x:fN}(r:aL)(ad:Fits x)(h:ht x=true):ri aW (e7 x++r)=some (x,some r):=by
 obtain⟨p,b,l,k⟩:=x
 unfold ht at h
 simp only[Bool.and_eq_true] at h
 obtain⟨ab,ae,av⟩:=h
 unfold ri e7
 simp only
 rw[List.append_assoc,Ds _ ad.p]
 simp only
 cases b with
 |true=>
  simp only[Bool.not_true,Bool.false_or,decide_eq_true_eq] at av
  obtain rfl:l=[]:=List.length_eq_zero_iff.1 (by omega)
  obtain rfl:k=[]:=List.length_eq_zero_iff.1 (by omega)
  rw[if_pos rfl,p2 _ _ (by omega)]
  simp
 |false=>
  rw[if_neg (show¬false=true by simp),List.append_assoc,p2 _ _ (by omega),List.append_assoc]
  rw[if_pos ⟨rfl,Nat.zero_le 1⟩,if_neg (show¬0=1 by omega)]
  unfold u6
  rw[PA hR (k_ k++r) ad.v ab]
  simp only[Option.bind_some]
  rw[PA hR r ad.t ae]
  rfl
theorem PB{aW:Nat}(r:aL):∀(N:Nat) (s a4:cv×List dQ),eF (λs:cv×List dQ=>s.1.isSome) (m7 (dd aW 61)) N s=some a4->a4.1=some r->∃l,l.length=N/\a4.2=s.2++l/\s.1=some ((l.map ei).flatten++r)
 |0,s,a4,h,ai=>by
  cases h
  exact⟨[],rfl,by simp,by simpa using ai⟩
 |N+1,s,a4,h,ai=>by
  rw[eF] at h
  split at h
  · unfold m7 at h
    cases e:dd aW 61 ((cH s.1).2,0) with
    |none=>rw[e] at h;cases h
    |some y=>
     obtain⟨t,aR,aT⟩:=y
     rw[e] at h
     simp only[Option.map_some,Option.bind_some] at h
     obtain⟨l,ab,ae,av⟩:=PB r N _ a4 h ai
     simp only at av
     subst av
     have k:=Dt (Pu aW 61 _ _ _ _ e)
     refine⟨((cH s.1).1,some t)::l,by simp[ab],by rw[ae];simp,?_⟩
     simp only[List.map_cons,List.flatten_cons,ei,jN,List.append_assoc]
     exact k
  · cases h
theorem PC{aW:Nat}{st:cv}{l:List dQ}{r:aL}(h:lP aW st=some (some r,l)):st=some (k_ l++r):=by
 unfold lP at h
 obtain⟨nt,ab,ae,av⟩:=PB r _ _ _ h rfl
 have k:=q3 av
 simp only[List.nil_append] at ae
 subst ae
 unfold k_
 rw[List.append_assoc,ab]
 exact k
theorem ab7{aW:Nat}{s r:aL}{x:fN}(h:ri aW s=some (x,some r)):s=e7 x++r:=by
 unfold ri at h
 split at h
 · rename_i ah
   obtain⟨s1,gM⟩:=Option.isSome_iff_exists.1 ah.1
   have bz:=q3 gM
   have bA:=Dt bz
   rw[gM] at h
   revert h ah bz bA
   generalize (a_ (cH (some s)).2).1=n
   intro ah h bz bA
   rw[Option.some.inj bA]
   split at h
   · rename_i ab
     simp only[Option.some.injEq,Prod.mk.injEq] at h
     obtain⟨rfl,rfl⟩:=h
     subst ab
     unfold e7
     simp only[if_true]
     rw[List.append_assoc]
   · have h0:n=0:=by have:=ah.2;omega
     subst h0
     unfold u6 at h
     cases aE:lP aW (some s1) with
     |none=>rw[aE] at h;cases h
     |some y=>
      obtain⟨st,l⟩:=y
      rw[aE] at h
      simp only[Option.bind_some] at h
      cases aC:lP aW st with
      |none=>rw[aC] at h;cases h
      |some z=>
       obtain⟨g1,k⟩:=z
       rw[aC] at h
       simp only[Option.map_some,Option.some.injEq,Prod.mk.injEq] at h
       obtain⟨rfl,rfl⟩:=h
       have vy:=PC aC
       subst vy
       have vx:=PC aE
       unfold e7
       simp only
       rw[if_neg (by simp),List.append_assoc,List.append_assoc,List.append_assoc,<-Option.some.inj vx]
 · cases h
theorem PD{x y:fN}{r r':aL}(ad:Fits x)(a6:Fits y)(mx:ht x=true)(xh:ht y=true)(h:e7 x++r=e7 y++r'):x=y/\r=r':=by
 have ab:=Il (Nat.zero_le 1) r ad mx
 rw[h,Il (Nat.zero_le 1) r' a6 xh] at ab
 simp only[Option.some.injEq,Prod.mk.injEq] at ab
 exact⟨ab.1.symm,ab.2.symm⟩
theorem ab8{aW:Nat}(hR:aW<=1){x:fN}(ad:Fits x)(mx:ht x=true):gZ aW (e7 x)=some x:=by
 have:=Il hR [] ad mx
 rw[List.append_nil] at this
 unfold gZ
 rw[this]
 simp[cW.jc,mx]
theorem PE{aW:Nat}{s:aL}{x:fN}(h:gZ aW s=some x):s=e7 x:=by
 unfold gZ at h
 cases ai:ri aW s with
 |none=>rw[ai] at h;cases h
 |some y=>
  rw[ai] at h
  simp only[Option.bind_some] at h
  by_cases ah:(cW.jc y.2&&ht y.1)=true
  · rw[if_pos ah] at h
    cases h
    rw[Bool.and_eq_true] at ah
    obtain⟨x,st⟩:=y
    cases st with
    |none=>cases ah.1
    |some r=>
     obtain rfl:r=[]:=by
      have:=ah.1
      simpa[cW.jc] using this
     rw[ab7 ai,List.append_nil]
  · rw[if_neg ah] at h;cases h
end Go.Proofs.cN
namespace Go.Proofs.cN
open Go ay Go.Proofs cS Go.Proofs.cf
open Go.Proofs.cW (dC)
open Go.Proofs.ed (cM)
set_option maxRecDepth 100000
set_option maxHeartbeats 1000000
theorem ab9(m:Nat)(p:List UInt8)(b:Bool)(v:J)(w:J)(q:List UInt8)(c:Bool)(v':J)(w':J)(s:List UInt8)(h:aa){R:ax->Prop}(H:J.bF v=true/\J.bF w=true/\J.bF v'=true/\J.bF w'=true/\∃s1:List UInt8,∃bh:Bool,∃v1:J,∃v2:J,ay.loadCells (aa.room (aa.push (aa.push h (.cells [.str p,.bool b,v,w] 38 .own 0 0)) (.cells [.str q,.bool c,v',w'] 38 .own 0 0)) 8) h.n 0 4=some [.str s1,.bool bh,v1,v2]/\∃s2:List UInt8,∃bf:Bool,∃dr:J,∃v4:J,∃al:aa,(Y m) (.fn 16) [.agg [.str s1,.bool bh,v1,v2]] (aa.room (aa.push (aa.push h (.cells [.str p,.bool b,v,w] 38 .own 0 0)) (.cells [.str q,.bool c,v',w'] 38 .own 0 0)) 8)=.ret (.agg [.str s2,.bool bf,dr,v4]) al/\∃bV:List UInt8,∃dM:Bool,∃gO:J,∃v6:J,ay.loadCells al (aa.n (aa.push h (.cells [.str p,.bool b,v,w] 38 .own 0 0))) 0 4=some [.str bV,.bool dM,gO,v6]/\∃cK:List UInt8,∃jZ:Bool,∃mW:J,∃lI:J,∃ak:aa,(Y m) (.fn 16) [.agg [.str bV,.bool dM,gO,v6]] al=.ret (.agg [.str cK,.bool jZ,mW,lI]) ak/\J.bF dr=true/\J.bF v4=true/\∃aS:aa,ay.storeCells (aa.set (aa.set ak (aa.n (aa.push (aa.push h (.cells [.str p,.bool b,v,w] 38 .own 0 0)) (.cells [.str q,.bool c,v',w'] 38 .own 0 0))+4) (some (.cells [.str [],.bool false,.az,.az] 24 .own 0 0))) (aa.n (aa.push (aa.push h (.cells [.str p,.bool b,v,w] 38 .own 0 0)) (.cells [.str q,.bool c,v',w'] 38 .own 0 0))+5) (some (.cells [.str [],.bool false,.az,.az] 24 .own 0 0))) (aa.n (aa.push (aa.push h (.cells [.str p,.bool b,v,w] 38 .own 0 0)) (.cells [.str q,.bool c,v',w'] 38 .own 0 0))+4) 0 [.str s2,.bool bf,dr,v4]=some aS/\J.bF mW=true/\J.bF lI=true/\∃bb:aa,ay.storeCells aS (aa.n (aa.push (aa.push h (.cells [.str p,.bool b,v,w] 38 .own 0 0)) (.cells [.str q,.bool c,v',w'] 38 .own 0 0))+5) 0 [.str cK,.bool jZ,mW,lI]=some bb/\J.sound v1=true/\J.sound v2=true/\J.sound gO=true/\J.sound v6=true/\ay.loadCells (aa.room (aa.push (aa.push h (.cells [.str p,.bool b,v,w] 38 .own 0 0)) (.cells [.str q,.bool c,v',w'] 38 .own 0 0)) 8) (aa.n (aa.push h (.cells [.str p,.bool b,v,w] 38 .own 0 0))) 0 4=some [.str bV,.bool dM,gO,v6]/\∃cY:List UInt8,∃oD:Bool,∃pY:J,∃v10:J,ay.loadCells (bb.room 6) (aa.n (aa.push (aa.push h (.cells [.str p,.bool b,v,w] 38 .own 0 0)) (.cells [.str q,.bool c,v',w'] 38 .own 0 0))+4) 0 4=some [.str cY,.bool oD,pY,v10]/\∃dt:List UInt8,∃ch:aa,(Y m) (.fn 17) [.agg [.str cY,.bool oD,pY,v10]] (bb.room 6)=.ret (.str dt) ch/\∃ev:List UInt8,∃j0:Bool,∃v11:J,∃u2:J,ay.loadCells ch (aa.n (aa.push (aa.push h (.cells [.str p,.bool b,v,w] 38 .own 0 0)) (.cells [.str q,.bool c,v',w'] 38 .own 0 0))+5) 0 4=some [.str ev,.bool j0,v11,u2]/\∃q_:List UInt8,∃cc:aa,(Y m) (.fn 17) [.agg [.str ev,.bool j0,v11,u2]] ch=.ret (.str q_) cc/\J.sound pY=true/\J.sound v10=true/\J.sound v11=true/\J.sound u2=true/\ay.loadCells (bb.room 6) (aa.n (aa.push (aa.push h (.cells [.str p,.bool b,v,w] 38 .own 0 0)) (.cells [.str q,.bool c,v',w'] 38 .own 0 0))+5) 0 4=some [.str ev,.bool j0,v11,u2]/\((!cw dt [])=true->∃ra:List UInt8,∃qZ:Bool,∃u4:J,∃u5:J,∃aQ:Nat,∃bY:aa,(Y m) (.fn 9) [.str dt] cc=.ret (.aD [.agg [.str ra,.bool qZ,u4,u5],.int .i64 (.ofNat aQ)]) bY/\J.bF u4=true/\J.bF u5=true/\∃cJ:aa,ay.storeCells (aa.push bY (.cells [.str [],.bool false,.az,.az] 24 .own 0 0)) bY.n 0 [.str ra,.bool qZ,u4,u5]=some cJ/\(aQ=0->∃PF:List UInt8,∃nN:Bool,∃zK:J,∃w7:J,ay.loadCells cJ (aa.n (aa.push (aa.push h (.cells [.str p,.bool b,v,w] 38 .own 0 0)) (.cells [.str q,.bool c,v',w'] 38 .own 0 0))+4) 0 4=some [.str PF,.bool nN,zK,w7]/\∃xb:List UInt8,∃zH:Bool,∃w8:J,∃zN:J,ay.loadCells cJ bY.n 0 4=some [.str xb,.bool zH,w8,zN]/\∃qb:Bool,∃eA:aa,(Y m) (.fn 19) [.agg [.str PF,.bool nN,zK,w7],.agg [.str xb,.bool zH,w8,zN]] cJ=.ret (.bool qb) eA/\(qb=true->∃PG:List UInt8,∃zI:Bool,∃zP:J,∃v20:J,ay.loadCells eA bY.n 0 4=some [.str PG,.bool zI,zP,v20]/\∃PH:List UInt8,∃zM:Bool,∃zR:J,∃PI:J,ay.loadCells eA (aa.n (aa.push (aa.push h (.cells [.str p,.bool b,v,w] 38 .own 0 0)) (.cells [.str q,.bool c,v',w'] 38 .own 0 0))+4) 0 4=some [.str PH,.bool zM,zR,PI]/\∃Im:Bool,∃gk:aa,(Y m) (.fn 19) [.agg [.str PG,.bool zI,zP,v20],.agg [.str PH,.bool zM,zR,PI]] eA=.ret (.bool Im) gk/\(Im=true->((!cw q_ [])=true->∃PJ:List UInt8,∃PK:Bool,∃PL:J,∃PM:J,ay.loadCells gk (aa.n (aa.push (aa.push h (.cells [.str p,.bool b,v,w] 38 .own 0 0)) (.cells [.str q,.bool c,v',w'] 38 .own 0 0))+4) 0 4=some [.str PJ,.bool PK,PL,PM]/\∃PN:List UInt8,∃PO:Bool,∃PQ:J,∃PR:J,ay.loadCells gk (aa.n (aa.push (aa.push h (.cells [.str p,.bool b,v,w] 38 .own 0 0)) (.cells [.str q,.bool c,v',w'] 38 .own 0 0))+5) 0 4=some [.str PN,.bool PO,PQ,PR]/\∃Io:Bool,∃eU:aa,(Y m) (.fn 19) [.agg [.str PJ,.bool PK,PL,PM],.agg [.str PN,.bool PO,PQ,PR]] gk=.ret (.bool Io) eU/\(hK Io (cw dt q_)=true->bB Tryz.prog Tryz.f6 (Y m) [1,1,1,0,1,0,1,1,1,0] (ar.mk [(2,.str s),(9,.str dt),(13,.int .i64 (.ofNat 0))] [] .none eU) (λc6 c0=>((∃ja:aa,∃bD:Env,c6=.exit 0/\c0=ar.mk bD [] .none ja/\cZ [(2,.str s)] bD/\∃bw:Nat,iA jy (.int .i64 (.ofNat (List.length s))) [.int .i64 (.ofNat 3000)]=some (.int .i64 (.ofNat bw))/\∃Du:List UInt8,dR Tryz.prog ja 9 (.str s) none (some (.int .i64 (.ofNat bw))) none=some (.str Du)/\∃z7:List UInt8,∃z8:Bool,∃ve:J,∃vf:J,∃cl:Nat,∃kA:aa,(Y m) (.fn 9) [.str Du] ja=.ret (.aD [.agg [.str z7,.bool z8,ve,vf],.int .i64 (.ofNat cl)]) kA/\J.bF ve=true/\J.bF vf=true/\∃jQ:aa,ay.storeCells (aa.push kA (.cells [.str [],.bool false,.az,.az] 24 .own 0 0)) kA.n 0 [.str z7,.bool z8,ve,vf]=some jQ/\(cl=0->∃z9:List UInt8,∃z_:Bool,∃Aa:J,∃v30:J,ay.loadCells jQ kA.n 0 4=some [.str z9,.bool z_,Aa,v30]/\∃vg:List UInt8,∃m5:aa,(Y m) (.fn 17) [.agg [.str z9,.bool z_,Aa,v30]] jQ=.ret (.str vg) m5/\(cw vg Du=true->∃Ab:Bool,∃nV:aa,(Y m) (.fn 12) [] m5=.ret (.bool Ab) nV/\R (.ret (.bool Ab) nV))/\(cw vg Du=false->R (.ret (.bool false) m5)))/\(¬cl=0->(cl=4->∃Ac:List UInt8,∃Ad:Bool,∃Ae:J,∃Af:J,ay.loadCells jQ kA.n 0 4=some [.str Ac,.bool Ad,Ae,Af]/\∃vh:Bool,∃m6:aa,(Y m) (.fn 19) [.agg [.str Ac,.bool Ad,Ae,Af],.agg [.str [],.bool false,.az,.az]] jQ=.ret (.bool vh) m6/\(vh=true->∃Ag:Bool,∃sQ:aa,(Y m) (.fn 12) [] m6=.ret (.bool Ag) sQ/\R (.ret (.bool Ag) sQ))/\(vh=false->R (.ret (.bool false) m6)))/\(¬cl=4->R (.ret (.bool false) jQ))))\/(∃PS:Bool,∃w3:aa,∃bT:Env,c6=.ret/\c0=ar.mk bT [] .none w3/\cZ [(6,.bool PS)] bT/\R (.ret (.bool PS) w3)))))/\(hK Io (cw dt q_)=false->R (.ret (.bool false) eU)))/\((!cw q_ [])=false->bB Tryz.prog Tryz.f6 (Y m) [1,1,1,0,1,0,1,1,1,0] (ar.mk [(2,.str s),(9,.str dt),(13,.int .i64 (.ofNat 0))] [] .none gk) (λc6 c0=>((∃w4:aa,∃fu:Env,c6=.exit 0/\c0=ar.mk fu [] .none w4/\cZ [(2,.str s)] fu/\∃cC:Nat,iA jy (.int .i64 (.ofNat (List.length s))) [.int .i64 (.ofNat 3000)]=some (.int .i64 (.ofNat cC))/\∃Dv:List UInt8,dR Tryz.prog w4 9 (.str s) none (some (.int .i64 (.ofNat cC))) none=some (.str Dv)/\∃PT:List UInt8,∃PU:Bool,∃Ip:J,∃Iq:J,∃c5:Nat,∃re:aa,(Y m) (.fn 9) [.str Dv] w4=.ret (.aD [.agg [.str PT,.bool PU,Ip,Iq],.int .i64 (.ofNat c5)]) re/\J.bF Ip=true/\J.bF Iq=true/\∃nZ:aa,ay.storeCells (aa.push re (.cells [.str [],.bool false,.az,.az] 24 .own 0 0)) re.n 0 [.str PT,.bool PU,Ip,Iq]=some nZ/\(c5=0->∃PV:List UInt8,∃PW:Bool,∃PX:J,∃PY:J,ay.loadCells nZ re.n 0 4=some [.str PV,.bool PW,PX,PY]/\∃Ir:List UInt8,∃u3:aa,(Y m) (.fn 17) [.agg [.str PV,.bool PW,PX,PY]] nZ=.ret (.str Ir) u3/\(cw Ir Dv=true->∃PZ:Bool,∃w5:aa,(Y m) (.fn 12) [] u3=.ret (.bool PZ) w5/\R (.ret (.bool PZ) w5))/\(cw Ir Dv=false->R (.ret (.bool false) u3)))/\(¬c5=0->(c5=4->∃P0:List UInt8,∃P1:Bool,∃P2:J,∃P3:J,ay.loadCells nZ re.n 0 4=some [.str P0,.bool P1,P2,P3]/\∃Is:Bool,∃w6:aa,(Y m) (.fn 19) [.agg [.str P0,.bool P1,P2,P3],.agg [.str [],.bool false,.az,.az]] nZ=.ret (.bool Is) w6/\(Is=true->∃P4:Bool,∃zJ:aa,(Y m) (.fn 12) [] w6=.ret (.bool P4) zJ/\R (.ret (.bool P4) zJ))/\(Is=false->R (.ret (.bool false) w6)))/\(¬c5=4->R (.ret (.bool false) nZ))))\/(∃P5:Bool,∃zL:aa,∃j2:Env,c6=.ret/\c0=ar.mk j2 [] .none zL/\cZ [(6,.bool P5)] j2/\R (.ret (.bool P5) zL))))))/\(Im=false->R (.ret (.bool false) gk)))/\(qb=false->R (.ret (.bool false) eA)))/\(¬aQ=0->R (.ret (.bool false) cJ)))/\((!cw dt [])=false->∃dV:Nat,iA jy (.int .i64 (.ofNat (List.length s))) [.int .i64 (.ofNat 3000)]=some (.int .i64 (.ofNat dV))/\∃Dw:List UInt8,dR Tryz.prog cc 9 (.str s) none (some (.int .i64 (.ofNat dV))) none=some (.str Dw)/\∃P6:List UInt8,∃P7:Bool,∃It:J,∃Iu:J,∃fo:Nat,∃rf:aa,(Y m) (.fn 9) [.str Dw] cc=.ret (.aD [.agg [.str P6,.bool P7,It,Iu],.int .i64 (.ofNat fo)]) rf/\J.bF It=true/\J.bF Iu=true/\∃rh:aa,ay.storeCells (aa.push rf (.cells [.str [],.bool false,.az,.az] 24 .own 0 0)) rf.n 0 [.str P6,.bool P7,It,Iu]=some rh/\(fo=0->∃P8:List UInt8,∃P9:Bool,∃P_:J,∃Qa:J,ay.loadCells rh rf.n 0 4=some [.str P8,.bool P9,P_,Qa]/\∃Iv:List UInt8,∃w9:aa,(Y m) (.fn 17) [.agg [.str P8,.bool P9,P_,Qa]] rh=.ret (.str Iv) w9/\(cw Iv Dw=true->∃Qb:Bool,∃zO:aa,(Y m) (.fn 12) [] w9=.ret (.bool Qb) zO/\R (.ret (.bool Qb) zO))/\(cw Iv Dw=false->R (.ret (.bool false) w9)))/\(¬fo=0->(fo=4->∃Qc:List UInt8,∃Qd:Bool,∃Qe:J,∃Qf:J,ay.loadCells rh rf.n 0 4=some [.str Qc,.bool Qd,Qe,Qf]/\∃Iw:Bool,∃w_:aa,(Y m) (.fn 19) [.agg [.str Qc,.bool Qd,Qe,Qf],.agg [.str [],.bool false,.az,.az]] rh=.ret (.bool Iw) w_/\(Iw=true->∃Qg:Bool,∃zQ:aa,(Y m) (.fn 12) [] w_=.ret (.bool Qg) zQ/\R (.ret (.bool Qg) zQ))/\(Iw=false->R (.ret (.bool false) w_)))/\(¬fo=4->R (.ret (.bool false) rh))))):
  R (Y (m+1) (.fn 6) [.agg [.str p,.bool b,v,w],.agg [.str q,.bool c,v',w'],.str s] h):=
 dH (intr:=b7) [(4000,.fw [2,9,13] [(.exit 0,[(2,.is (.str s))]),(.ret,[(6,.b)])]),(19,.bW (.ej [.st,.b,.o,.o])),(21,.bW (.ej [.st,.b,.o,.o])),(22,.bW (.ej [.st,.b,.o,.o])),(24,.bW (.ej [.st,.b,.o,.o])),(30,.bW (.kk [.ej [.st,.b,.o,.o],.n .i64])),(36,.bW (.ej [.st,.b,.o,.o])),(37,.bW (.ej [.st,.b,.o,.o])),(42,.bW (.ej [.st,.b,.o,.o])),(43,.bW (.ej [.st,.b,.o,.o])),(51,.bW (.ej [.st,.b,.o,.o])),(52,.bW (.ej [.st,.b,.o,.o])),(82,.bW (.kk [.ej [.st,.b,.o,.o],.n .i64])),(90,.bW (.ej [.st,.b,.o,.o])),(97,.bW (.ej [.st,.b,.o,.o]))] [(0,.ej [.v (.str p),.v (.bool b),.o v,.o w]),(1,.ej [.v (.str q),.v (.bool c),.o v',.o w']),(2,.v (.str s))] Tryz.func6 (by kernel_rfl) (by kernel_rfl) (by kernel_rfl) rfl (Eq.mp (by kernel_rfl) H)
theorem Qh(call:aO->List J->aa->ax)(p:List UInt8)(s:List UInt8)(i:Nat)(h:aa){Q:bK->ar->Prop}(H:(i<List.length p->∃s1:List UInt8,dR Tryz.prog h 9 (.str p) none (some (.int .i64 (.ofNat i))) none=some (.str s1)/\∃s2:List UInt8,∃bh:Bool,∃v1:J,∃v2:J,∃aQ:Nat,∃al:aa,call (.fn 9) [.str s1] h=.ret (.aD [.agg [.str s2,.bool bh,v1,v2],.int .i64 (.ofNat aQ)]) al/\J.bF v1=true/\J.bF v2=true/\∃ak:aa,ay.storeCells (aa.push al (.cells [.str [],.bool false,.az,.az] 24 .own 0 0)) al.n 0 [.str s2,.bool bh,v1,v2]=some ak/\(aQ=4->i+1<9223372036854775808/\Q .nrm (ar.mk [(2,.str s),(9,.str p),(13,.int .i64 (.ofNat (i+1)))] [] .none ak))/\(¬aQ=4->Q .ret (ar.mk [(2,.str s),(6,.bool false),(9,.str p),(13,.int .i64 (.ofNat i))] [] .none ak)))/\(¬i<List.length p->Q (.exit 0) (ar.mk [(2,.str s),(9,.str p),(13,.int .i64 (.ofNat i))] [] .none h))):
  bB Tryz.prog Tryz.f6 call [1,1,1,0,1,0,1,1,1,0,0] ⟨[(2,.str s),(9,.str p),(13,.int .i64 (.ofNat i))],[],.none,h⟩ Q:=
 gN [(70,.bW (.kk [.ej [.st,.b,.o,.o],.n .i64]))] [2,6,9,13] [(2,.v (.str s)),(9,.v (.str p)),(13,.v (.int .i64 (.ofNat i)))] rfl (Eq.mp (by kernel_rfl) H)
theorem Qi{x:fN}(h:(!cw (sL x) [])=true):ht x=true/\sL x=e7 x:=by
 unfold sL at h⊢
 cases e:ht x with
 |true=>exact⟨rfl,if_pos rfl⟩
 |false=>rw[e,if_neg (by simp)] at h;cases h
theorem ab_{x y:fN}(iN:Fits x)(rj:Fits y)(mx:ht x=true)(xh:ht y=true):p8 x y=cw (e7 x) (e7 y):=by
 apply Bool.eq_iff_iff.2
 rw[beq_iff]
 constructor
 · intro h;rw[ab5 h]
 · intro h
   rw[(PD (r:=[]) (r':=[]) iN rj mx xh (by rw[h])).1]
   exact O0 xh
theorem aca{x y:fN}{i:Nat}(iN:Fits x)(rj:Fits y)(mx:ht x=true)(af:i<(e7 x).length)(e:gZ 0 ((e7 x).take i)=some y):False:=by
 have ab:=PE e
 have ae:e7 x++[]=e7 y++(e7 x).drop i:=by rw[<-ab,List.append_nil,List.take_append_drop]
 have av:=(PD iN rj mx (O1 e) ae).2
 have:=congrArg List.length av
 simp only[List.length_nil,List.length_drop] at this
 omega
theorem Qj(m:Nat){x:fN}(s:aL)(iN:la x)(mx:ht x=true)(aw:(e7 x).length<=80000)(g:aa){Q:bK->ar->Prop}(FF:∀y Γ,cZ [(2,.str s)] Γ->Q (.exit 0) ⟨Γ,[],.none,y⟩):
  bB Tryz.prog Tryz.f6 (Y (m+501)) [1,1,1,0,1,0,1,1,1,0] (ar.mk [(2,.str s),(9,.str (e7 x)),(13,.int .i64 (Int.ofNat 0))] [] .none g) Q:=by
 refine bB.loop (by kernel_rfl) (λd st=>∃i y Γ,st=⟨Γ,[],.none,y⟩/\cZ [(2,.str s),(9,.str (e7 x)),(13,.int .i64 (Int.ofNat i))] Γ/\(e7 x).length-i=d/\i<=(e7 x).length) ?_ (e7 x).length _ (by omega) ⟨0,g,_,rfl,⟨rfl,rfl,rfl,trivial⟩,by omega,by omega⟩
 rintro d st ⟨i,y,Γ,rfl,dk,aq,af⟩
 by_cases ab:i<(e7 x).length
 · have d1:=HX (m+500) (by omega) ((e7 x).take i) y (by rw[List.length_take];omega)
   obtain⟨di,bh,v1,cq,aE,al,gi,bz,bj,Ix,Iy,Qk,xi,vi,o2,uT,Ah⟩:=d1.ky
   have aJ:gZ 0 ((e7 x).take i)=none:=by
    cases e:gZ 0 ((e7 x).take i) with
    |none=>rfl
    |some z=>
     rw[e] at vi
     have:gi=z:=vi
     subst this
     exact(aca (iN.fits iN.p) (xi.fits xi.p) mx ab e).elim
   rw[aJ] at o2
   obtain rfl:aE=4:=o2
   obtain⟨ak,kS⟩:∃ak,ak=(al.push (eV [] false .az .az)).set al.n (some (eV di bh v1 cq)):=⟨_,rfl⟩
   have s2:ay.storeCells (al.push (eV [] false .az .az)) al.n 0 [.str di,.bool bh,v1,cq]=some ak:=by rw[kS];exact dY (dA rfl) rfl (H2 uT Ah)
   exact bB.pre (Qh (Y (m+501)) (e7 x) s i y ⟨λ_=>⟨_,yE xf af,di,bh,v1,cq,4,al,bz,uT,Ah,ak,s2,λ_=>⟨by omega,_,(by show(e7 x).length-(i+1)<d;omega),i+1,ak,_,rfl,⟨rfl,rfl,rfl,trivial⟩,rfl,by omega⟩,λaj=>absurd rfl aj⟩,λaj=>absurd ab aj⟩) dk rfl rfl rfl
 · exact bB.pre (Qh (Y (m+501)) (e7 x) s i y ⟨λaj=>absurd aj ab,λ_=>FF _ _ ⟨rfl,trivial⟩⟩) dk rfl rfl rfl
theorem Iz(m:Nat)(s:aL)(y:aa){R:ax->Prop}(po:∀g,R (.ret (.bool true) g)):
  ∃bw:Nat,iA jy (.int .i64 (Int.ofNat (List.length s))) [.int .i64 (Int.ofNat 3000)]=some (.int .i64 (Int.ofNat bw))/\
  ∃u:List UInt8,dR Tryz.prog y 9 (.str s) none (some (.int .i64 (Int.ofNat bw))) none=some (.str u)/\
  ∃z7:List UInt8,∃z8:Bool,∃ve:J,∃vf:J,∃cl:Nat,∃kA:aa,(Y (m+501)) (.fn 9) [.str u] y=.ret (.aD [.agg [.str z7,.bool z8,ve,vf],.int .i64 (Int.ofNat cl)]) kA/\
  J.bF ve=true/\J.bF vf=true/\
  ∃jQ:aa,ay.storeCells (aa.push kA (.cells [.str [],.bool false,.az,.az] 24 .own 0 0)) kA.n 0 [.str z7,.bool z8,ve,vf]=some jQ/\
  (cl=0->∃z9:List UInt8,∃z_:Bool,∃Aa:J,∃v30:J,ay.loadCells jQ kA.n 0 4=some [.str z9,.bool z_,Aa,v30]/\
   ∃vg:List UInt8,∃m5:aa,(Y (m+501)) (.fn 17) [.agg [.str z9,.bool z_,Aa,v30]] jQ=.ret (.str vg) m5/\
   (cw vg u=true->∃Ab:Bool,∃nV:aa,(Y (m+501)) (.fn 12) [] m5=.ret (.bool Ab) nV/\R (.ret (.bool Ab) nV))/\
   (cw vg u=false->R (.ret (.bool false) m5)))/\
  (¬cl=0->(cl=4->∃Ac:List UInt8,∃Ad:Bool,∃Ae:J,∃Af:J,ay.loadCells jQ kA.n 0 4=some [.str Ac,.bool Ad,Ae,Af]/\
   ∃vh:Bool,∃m6:aa,(Y (m+501)) (.fn 19) [.agg [.str Ac,.bool Ad,Ae,Af],.agg [.str [],.bool false,.az,.az]] jQ=.ret (.bool vh) m6/\
   (vh=true->∃Ag:Bool,∃sQ:aa,(Y (m+501)) (.fn 12) [] m6=.ret (.bool Ag) sQ/\R (.ret (.bool Ag) sQ))/\
   (vh=false->R (.ret (.bool false) m6)))/\(¬cl=4->R (.ret (.bool false) jQ))):=by
 obtain⟨u,hu⟩:∃u,u=s.take (min s.length 3000):=⟨_,rfl⟩
 have rE:u.length<=3000:=by rw[hu,List.length_take];omega
 have ih:dR Tryz.prog y 9 (.str s) none (some (.int .i64 (Int.ofNat (min s.length 3000)))) none=some (.str u):=by rw[hu];exact yE xf (by omega)
 have d1:=HX (m+500) (by omega) u y (by omega)
 obtain⟨di,bh,v1,cq,aE,al,gi,bz,bj,Ix,Iy,Qk,xi,vi,o2,uT,Ah⟩:=d1.ky
 obtain⟨ak,kS⟩:∃ak,ak=(al.push (eV [] false .az .az)).set al.n (some (eV di bh v1 cq)):=⟨_,rfl⟩
 have s2:ay.storeCells (al.push (eV [] false .az .az)) al.n 0 [.str di,.bool bh,v1,cq]=some ak:=by rw[kS];exact dY (dA rfl) rfl (H2 uT Ah)
 have bw:ak.n=al.n+1:=by rw[kS];simp
 have bo:Ext al.n al ak:=by rw[kS];exact Ext.e3 (Nat.le_refl _) (Ext.push (Nat.le_refl _) _)
 have eS:ak.get al.n=some (eV di bh v1 cq):=by rw[kS];exact dN rfl
 have V:=Qk.bM bo
 refine⟨_,tW _ _,u,ih,di,bh,v1,cq,aE,al,bz,uT,Ah,ak,s2,λdW=>?_,λdW=>⟨λcX=>?_,λcX=>?_⟩⟩
 · obtain⟨z,a0⟩:∃z,gZ 0 u=some z:=by
     cases e:gZ 0 u with
     |none=>rw[e] at o2;exact absurd (o2.symm.trans dW) (by decide)
     |some z=>exact⟨z,rfl⟩
   rw[a0] at vi
   obtain rfl:gi=z:=vi
   have ag:=PE a0
   have hm:=O1 a0
   obtain⟨aS,c3,dj⟩:=Hq (m+500) (x:=gi) (by omega) (show al.n<=ak.n by omega) V xi (by rw[<-ag];omega)
   rw[Ix,Iy] at c3
   have he:sL gi=u:=by unfold sL;rw[hm,if_pos rfl,<-ag]
   exact⟨_,_,_,_,hq eS rfl,_,aS,c3,λ_=>⟨true,aS,Pc _ _,po _⟩,λaj=>by rw[he,beq_iff.2 rfl] at aj;cases aj⟩
 · have a0:gZ 0 u=none:=by
     cases e:gZ 0 u with
     |none=>rfl
     |some z=>rw[e] at o2;exact absurd o2 dW
   rw[a0] at vi
   have a6:gi=⟨[],false,[],[]⟩:=vi
   subst a6
   obtain⟨aS,c3,dj⟩:=CZ (m+500) (x:=⟨[],false,[],[]⟩) (x':=⟨[],false,[],[]⟩) (vv':=.az) (vt':=.az) (by omega) (show al.n<=ak.n by omega) V ⟨.inl ⟨rfl,rfl⟩,.inl ⟨rfl,rfl⟩⟩ xi xi
   obtain rfl:([]:aL)=di:=Ix
   obtain rfl:false=bh:=Iy
   exact⟨_,_,_,_,hq eS rfl,_,aS,c3,λ_=>⟨true,aS,Pc _ _,po _⟩,λaj=>by cases aj⟩
 · cases e:gZ 0 u with
   |none=>rw[e] at o2;exact absurd o2 cX
   |some z=>rw[e] at o2;exact absurd o2 dW
theorem acb(m:Nat){B:Nat}{h:aa}{p p' s:aL}{b b':Bool}{v w v' w':J}{dz lw tb Dx:List (aL×Nat)}(bN:B<=h.n)(a5:m_ B h v w dz lw)(ag:m_ B h v' w' tb Dx):∃g,Y (m+502) (.fn 6) [.agg [.str p,.bool b,v,w],.agg [.str p',.bool b',v',w'],.str s] h=.ret (.bool true) g:=by
 obtain⟨di,gW⟩:∃x,x=h.push (sV p b v w):=⟨_,rfl⟩
 obtain⟨da,fM⟩:∃x,x=di.push (sV p' b' v' w'):=⟨_,rfl⟩
 obtain⟨H,dG⟩:∃x,x=da.room 8:=⟨_,rfl⟩
 have aQ:di.n=h.n+1:=by rw[gW];rfl
 have bw:da.n=h.n+2:=by rw[fM];show di.n+1=_;omega
 have j4:H.n=h.n+10:=by rw[dG];simp;omega
 have fe:Ext h.n h H:=by rw[dG];refine Ext.hI ?_;rw[fM];refine Ext.jJ (by omega) ?_;rw[gW];exact Ext.push (Nat.le_refl _) _
 have aR:H.get h.n=some (sV p b v w):=by rw[dG];refine dX ?_;rw[fM];refine h6 (by omega) ?_;rw[gW];exact dA rfl
 have aT:H.get di.n=some (sV p' b' v' w'):=by rw[dG];refine dX ?_;rw[fM];exact dA rfl
 have acd:m_ H.n H v w dz lw:=(a5.ext (fe.le bN)).le (by omega)
 have p0:m_ H.n H v' w' tb Dx:=(ag.ext (fe.le bN)).le (by omega)
 obtain⟨na,nb,al,c1,bj,ba,bt⟩:=Pb (m+497) (p:=p) (b:=b) (Nat.le_refl _) acd
 have Ic:=bj.n
 obtain⟨Ai,Aj,ak,c2,bo,t1,t2⟩:=Pb (m+497) (p:=p') (b:=b') Ic (p0.ext bj)
 have qX:=bo.n
 obtain⟨Ql,Ak⟩:∃x,x=(ak.set (da.n+4) (some (eV [] false .az .az))).set (da.n+5) (some (eV [] false .az .az)):=⟨_,rfl⟩
 obtain⟨aS,hh⟩:∃x,x=Ql.set (da.n+4) (some (eV (cut 50 p) b na nb)):=⟨_,rfl⟩
 obtain⟨bb,Al⟩:∃x,x=aS.set (da.n+5) (some (eV (cut 50 p') b' Ai Aj)):=⟨_,rfl⟩
 have bV:ay.storeCells Ql (da.n+4) 0 [.str (cut 50 p),.bool b,na,nb]=some aS:=by rw[hh];exact dY (by rw[Ak];exact eh (by omega) (dN rfl)) rfl (Ib ba.cell bt.cell)
 have cK:ay.storeCells aS (da.n+5) 0 [.str (cut 50 p'),.bool b',Ai,Aj]=some bb:=by rw[Al];exact dY (by rw[hh];exact eh (by omega) (by rw[Ak];exact dN rfl)) rfl (Ib t1.cell t2.cell)
 have cC:bb.n=ak.n:=by rw[Al,hh,Ak];simp
 have e1:∀d,d≠da.n+4->d≠da.n+5->bb.get d=ak.get d:=λd ab ae=>by rw[Al];refine eh ae ?_;rw[hh];refine eh ab ?_;rw[Ak];exact eh ae (eh ab rfl)
 obtain⟨x,iZ⟩:∃x,x=z4 p b dz lw:=⟨_,rfl⟩
 obtain⟨y,Dy⟩:∃y,y=z4 p' b' tb Dx:=⟨_,rfl⟩
 have X:kV bb.n bb na nb x:=by
  rw[iZ]
  exact⟨gR.at (F:=ia H.n al.n) (λd aq=>by omega) (gR.bM (λd aq=>⟨aq,(e1 d (by omega) (by omega)).trans (bo.get d aq.2)⟩) ba),gR.at (F:=ia H.n al.n) (λd aq=>by omega) (gR.bM (λd aq=>⟨aq,(e1 d (by omega) (by omega)).trans (bo.get d aq.2)⟩) bt)⟩
 have Z:kV bb.n bb Ai Aj y:=by
  rw[Dy]
  exact⟨gR.at (F:=ia al.n ak.n) (λd aq=>by omega) (gR.bM (λd aq=>⟨aq,e1 d (by omega) (by omega)⟩) t1),gR.at (F:=ia al.n ak.n) (λd aq=>by omega) (gR.bM (λd aq=>⟨aq,e1 d (by omega) (by omega)⟩) t2)⟩
 obtain⟨iN,Qm⟩:=Pg p b dz lw
 obtain⟨rj,Qn⟩:=Pg p' b' tb Dx
 have ace:=Pf p b dz lw
 rw[<-iZ] at iN Qm ace
 rw[<-Dy] at rj Qn
 have acf:cut 50 p=x.path:=by rw[iZ];rfl
 have E7:b=x.eY:=by rw[iZ];rfl
 have acg:cut 50 p'=y.path:=by rw[Dy];rfl
 have ach:b'=y.eY:=by rw[Dy];rfl
 have gJ:Ext bb.n bb (bb.room 6):=Ext.room _ _ _
 have Dz:∀{g},Ext bb.n bb g->ay.loadCells g (da.n+4) 0 4=some [.str x.path,.bool x.eY,na,nb]:=λ{g} e=>by
  rw[<-acf,<-E7]
  exact hq ((e.get _ (by omega)).trans (by rw[Al];refine eh (by omega) ?_;rw[hh];exact dN rfl)) rfl
 have IA:∀{g},Ext bb.n bb g->ay.loadCells g (da.n+5) 0 4=some [.str y.path,.bool y.eY,Ai,Aj]:=λ{g} e=>by
  rw[<-acg,<-ach]
  exact hq ((e.get _ (by omega)).trans (by rw[Al];exact dN rfl)) rfl
 have bD:ay.loadCells H h.n 0 4=some [.str p,.bool b,v,w]:=hq aR rfl
 have bT:ay.loadCells H di.n 0 4=some [.str p',.bool b',v',w']:=hq aT rfl
 have aci:ay.loadCells al di.n 0 4=some [.str p',.bool b',v',w']:=hq ((bj.get _ (by omega)).trans aT) rfl
 have up:∀{g ez},Ext bb.n bb g->Ext bb.n g ez->Ext bb.n bb ez:=λe cI=>e.trans (Nat.le_refl _) cI
 obtain⟨ch,zi,acj⟩:=Hq (m+500) (by omega) gJ.n (X.bM gJ) iN Qm
 have eK:=up gJ acj
 obtain⟨cc,q1,ack⟩:=Hq (m+500) (by omega) eK.n (Z.bM eK) rj Qn
 have eE:=up eK ack
 have po:∀g,(λx=>∃g,x=ax.ret (.bool true) g) (.ret (.bool true) g):=λg=>⟨g,rfl⟩
 refine ab9 (m+501) p b v w p' b' v' w' s h (R:=λx=>∃g,x=.ret (.bool true) g) ?_
 rw[<-sV,<-gW,<-sV,<-fM,<-dG]
 refine⟨a5.v.cell,a5.t.cell,ag.v.cell,ag.t.cell,_,_,_,_,bD,_,_,na,nb,al,c1,_,_,_,_,aci,_,_,Ai,Aj,ak,c2,ba.cell,bt.cell,aS,by rw[<-Ak];exact bV,t1.cell,t2.cell,bb,cK,a5.v.snd,a5.t.snd,ag.v.snd,ag.t.snd,bT,_,_,_,_,Dz gJ,_,ch,zi,_,_,_,_,IA eK,_,cc,q1,ba.snd,bt.snd,t1.snd,t2.snd,IA gJ,λaY=>?_,λ_=>Iz m s cc (R:=λx=>∃g,x=.ret (.bool true) g) po⟩
 obtain⟨mx,ex⟩:=Qi aY
 rw[ex]
 have d1:=HX (m+500) (by omega) (e7 x) cc (by omega)
 rw[ab8 (Nat.zero_le 1) (iN.fits iN.p) mx] at d1
 obtain⟨kD,dM,dr,jm,bu,bY,o3,c8,dj,acm,acn,aco,adR,acp,acq,Qo,Qp⟩:=d1.ky
 obtain rfl:o3=x:=acp
 obtain rfl:bu=0:=acq
 subst acm
 subst acn
 have cB:=eE.n
 have fQ:Ext bb.n bb bY:=up eE (dj.le cB)
 obtain⟨cJ,p_⟩:∃cJ,cJ=(bY.push (eV [] false .az .az)).set bY.n (some (eV o3.path o3.eY dr jm)):=⟨_,rfl⟩
 have q_:ay.storeCells (bY.push (eV [] false .az .az)) bY.n 0 [.str o3.path,.bool o3.eY,dr,jm]=some cJ:=by rw[p_];exact dY (dA rfl) rfl (H2 Qo Qp)
 have kr:cJ.n=bY.n+1:=by rw[p_];simp
 have oT:Ext bY.n bY cJ:=by rw[p_];exact Ext.e3 (Nat.le_refl _) (Ext.push (Nat.le_refl _) _)
 have sO:cJ.get bY.n=some (eV o3.path o3.eY dr jm):=by rw[p_];exact dN rfl
 have eo:=fQ.n
 have gT:=up fQ (oT.le eo)
 have fH:=gT.n
 have Qq:kV cJ.n cJ dr jm o3:=(aco.bM oT).le (by omega)
 have Qr:kV cJ.n cJ na nb o3:=(X.bM gT).le fH
 obtain⟨eA,Dd,Am⟩:=CZ (m+500) (by omega) (Nat.le_refl cJ.n) Qr Qq iN iN
 have j3:=Am.n
 have Qs:=up gT (Am.le fH)
 have HQ:eA.get bY.n=some (eV o3.path o3.eY dr jm):=(Am.get _ (by omega)).trans sO
 obtain⟨gk,zX,acr⟩:=CZ (m+500) (by omega) (show cJ.n<=eA.n from j3) (Qq.bM Am) (Qr.bM Am) iN iN
 have sR:=up Qs (acr.le fH)
 have C5:=sR.n
 have c0:=O0 mx
 refine⟨_,_,dr,jm,0,bY,c8,Qo,Qp,cJ,q_,λ_=>⟨_,_,_,_,Dz gT,_,_,_,_,hq sO rfl,_,eA,Dd,λ_=>⟨_,_,_,_,hq HQ rfl,_,_,_,_,Dz Qs,_,gk,zX,λ_=>⟨λa1=>?_,λ_=>?_⟩,λaj=>by rw[c0] at aj;cases aj⟩,λaj=>by rw[c0] at aj;cases aj⟩,λaj=>absurd rfl aj⟩
 · obtain⟨xh,g9⟩:=Qi a1
   rw[g9]
   obtain⟨eU,xc,adS⟩:=CZ (m+500) (by omega) C5 (X.bM sR) (Z.bM sR) iN rj
   refine⟨_,_,_,_,Dz sR,_,_,_,_,IA sR,_,eU,xc,λ_=>?_,λaj=>?_⟩
   · exact Qj m s iN mx (by omega) eU λy Γ hs=>.inl ⟨y,Γ,rfl,rfl,hs,Iz m s y (R:=λx=>∃g,x=.ret (.bool true) g) po⟩
   · rw[ab_ (iN.fits iN.p) (rj.fits rj.p) mx xh] at aj
     simp[hK] at aj
 · exact Qj m s iN mx (by omega) gk λy Γ hs=>.inl ⟨y,Γ,rfl,rfl,hs,Iz m s y (R:=λx=>∃g,x=.ret (.bool true) g) po⟩
end Go.Proofs.cN
