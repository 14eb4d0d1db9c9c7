/-
  PROVED HERE: contracts of functions (Dd). No condition beside each statement's own.
-/
import Derived.Test.YtlelojncabdnoaaDoorDc
set_option linter.unusedVariables false
set_option linter.unusedSimpArgs false
set_option maxRecDepth 100000
set_option maxHeartbeats 1000000
namespace Go.Proofs.h3
open Go aU Go.Proofs
variable {Q:bh->aQ->Prop} {R:bL->Prop}
def gD(cl:a1->Option a1)(a t:a1)(s:dd):Nat×Nat×dd:=match cl a with
 |none=>(0,6,s)
 |some c=>if t.length<=4096 then(if kz c t s=true then((fq c t s).1,0,(fq c t s).2) else(0,7,s)) else(0,3,s)
theorem Qn(m:Nat){cl:a1->Option a1}(c9:tn cl){F:Nat->Prop}{h:J}{p:Nat}{q:fb}{s:dd}{a t:a1}(hm:30<=m)(w:dP F h p q s)(ok:kA s)(ad:s.ej<=1000000)(aq:t.length<=1000000)(e7:a.length<=10000)(bd:∀c,de s.ts c<=1000000)(kB:∀d,F d->d<h.n):
  ∃g,Y (m+1) (.fn 9) [.ptr p 0,.str a,.str t] h=.ret (.aF [a6 (gD cl a t s).1,ak (gD cl a t s).2.1]) g/\dP F g p q (gD cl a t s).2.2/\j4 F h g:=by
 obtain⟨m,rfl⟩:∃k,m=k+2:=⟨m-2,by omega⟩
 have Cp:p<h.n:=by obtain⟨m1,m2,d1,d2,dK,A,T,w,_⟩:=w;exact w.up.1
 obtain⟨h1,hv⟩:∃x,x=h.push (av [.str a] 9):=⟨_,rfl⟩
 obtain⟨aa,hx⟩:∃x,x=h1.push (av [.str t] 9):=⟨_,rfl⟩
 have aY:h1.n=h.n+1:=by rw[hv];rfl
 have bQ:aa.n=h.n+2:=by rw[hx];show h1.n+1=_;omega
 have dC:aa.get h.n=some (av [.str a] 9):=by rw[hx];refine b8 (by omega) ?_;rw[hv];exact cT rfl
 have t2:aa.get (h.n+1)=some (av [.str t] 9):=by rw[hx,<-aY];exact cT rfl
 have cd:Ext h.n h aa:=by rw[hx];refine Ext.pt (by omega) ?_;rw[hv];exact Ext.push (Nat.le_refl _) _
 obtain⟨ao,gl⟩:∃x,x=(aa.room 10).push (av [.ptr h.n 0] 69):=⟨_,rfl⟩
 have Cq:(aa.room 10).n=h.n+12:=by show aa.n+10=_;omega
 have cX:ao.n=h.n+13:=by rw[gl];show(aa.room 10).n+1=_;omega
 have iQ:∀d,d<h.n+2->ao.get d=aa.get d:=λd al=>by rw[gl];exact b8 (by omega) rfl
 have gr:ao.get (h.n+12)=some (av [.ptr h.n 0] 69):=by rw[gl,<-Cq];exact cT rfl
 have h2:=vS (m+1) h.n (aa.room 10)
 rw[<-gl,Cq] at h2
 obtain⟨aM,kC⟩:∃x,x=((ao.push (av [.ptr p 0] 26)).push (av [.ptr h.n 0] 69)).push (av [.str t] 9):=⟨_,rfl⟩
 have dL:aM.n=h.n+16:=by rw[kC];show ao.n+1+1+1=_;omega
 have yX:∀d,d<h.n+13->aM.get d=ao.get d:=λd al=>by
  rw[kC]
  refine b8 (by show d<ao.n+1+1;omega) (b8 (by show d<ao.n+1;omega) (b8 (by omega) rfl))
 have dc:aM.get (h.n+13)=some (av [.ptr p 0] 26):=by
  rw[kC]
  refine b8 (by show _<ao.n+1+1;omega) (b8 (by show _<ao.n+1;omega) ?_)
  rw[<-cX];exact cT rfl
 have gC:aM.get (h.n+14)=some (av [.ptr h.n 0] 69):=by
  rw[kC]
  refine b8 (by show _<ao.n+1+1;omega) ?_
  exact cT (by show _=ao.n+1;omega)
 have rR:aM.get (h.n+15)=some (av [.str t] 9):=by
  rw[kC]
  exact cT (by show _=ao.n+1+1;omega)
 have Cr:=Qm (m+1) p h.n t ao
 rw[<-kC,cX] at Cr
 obtain⟨l,el⟩:∃l:List (I×Nat×List I),l=[(.fn 28 [.ptr p 0] [],28,[.ptr p 0]),(.fn 44 [] [.ptr (h.n+12) 0],44,[.ptr (h.n+12) 0]),(.fn 26 [] [.ptr (h.n+1) 0],26,[.ptr (h.n+1) 0]),(.fn 46 [] [.ptr (h.n+13) 0,.ptr (h.n+14) 0,.ptr (h.n+15) 0],46,[.ptr (h.n+13) 0,.ptr (h.n+14) 0,.ptr (h.n+15) 0])]:=⟨_,rfl⟩
 obtain⟨bA,iA⟩:∃x,x=aM.set (h.n+9) (some (av (l.map (·.1)) 66)):=⟨_,rfl⟩
 have fL:bA.n=h.n+16:=by rw[iA];exact dL
 have h5:∀d,d≠h.n+9->bA.get d=aM.get d:=λd al=>by rw[iA];exact dt al rfl
 have eU:bA.get (h.n+9)=some (av (l.map (·.1)) 66):=by rw[iA];exact fw rfl
 have fV:Ext h.n h bA:=⟨by omega,λd al=>(h5 d (by omega)).trans ((yX d (by omega)).trans ((iQ d (by omega)).trans (cd.get d al)))⟩
 have vT:bA.get h.n=some (av [.str a] 9):=(h5 _ (by omega)).trans ((yX _ (by omega)).trans ((iQ _ (by omega)).trans dC))
 have Qo:bA.get (h.n+1)=some (av [.str t] 9):=(h5 _ (by omega)).trans ((yX _ (by omega)).trans ((iQ _ (by omega)).trans t2))
 have aK:=yV m p bA
 obtain⟨g6,gV,n6,fT,hI⟩:=vR m c9 (h:=bA) (c:=h.n+12) (a:=h.n) (s:=a) (by omega) e7 (ld1 ((h5 _ (by omega)).trans ((yX _ (by omega)).trans gr)) rfl) vT ⟨by omega,by omega⟩
 have oo:∀{r:Nat} {g:J},jF (m+1) (h.n+9) (some (av (l.map (·.1)) 66)) l bA r g->Y (m+2) (.fn 27) [.slice (h.n+9) 0 4 (.exact 4)] bA=.ret (ak r) g:=λ{r g} aN=>by
  have rS:l.length=4:=by rw[el];rfl
  have:=yU (m+1) (h.n+9) (cp:=.exact 4) aN (λx U=>by
   rw[el] at U
   simp only[List.mem_cons,List.not_mem_nil,or_false] at U
   rcases U with rfl|rfl|rfl|rfl
   · exact .inl ⟨p,rfl,rfl⟩
   · exact .inr rfl
   · exact .inr rfl
   · exact .inr rfl) (by omega)
  rw[rS] at this
  exact this
 have hL:g6.get (h.n+9)=some (av (l.map (·.1)) 66):=(fT _ (by omega) (by omega)).trans eU
 have HY:g6.get (h.n+1)=some (av [.str t] 9):=(fT _ (by omega) (by omega)).trans Qo
 have nB:dP (λd=>F d\/h.n<=d) bA p q s:=w.move fV.n (λd al _=>fV.get d al) λd al af=>by
  rcases af with af|af
  · exact af
  · omega
 have j5:dP F g6 p q s:=nB.move n6 (λd al af=>fT d al λe=>af (.inr (by omega))) λd al af=>.inl af
 have nC:j4 F h g6:=⟨by omega,λd al _=>(fT d (by omega) (by omega)).trans (fV.get d al)⟩
 have done:∀{r:Nat} {g:J},r≠0->jF (m+1) (h.n+9) (some (av (l.map (·.1)) 66)) l bA r g->Y (m+3) (.fn 9) [.ptr p 0,.str a,.str t] h=.ret (.aF [a6 0,ak r]) g:=λ{r g} ah aN=>by
  refine HW (m+2) p 44 46 [.ptr (h.n+12) 0] [.ptr (h.n+13) 0,.ptr (h.n+14) 0,.ptr (h.n+15) 0] a t h (R:=λy=>y=.ret (.aF [a6 0,ak r]) g) ?_
  rw[<-hv,<-hx,aY,bQ]
  refine⟨ao,h2,t,ld1 ((iQ _ (by omega)).trans t2) rfl,aM,Cr,r,g,?_,ld1 (h:=aa.room 10) t2 rfl,λay=>absurd ay ah,λ_=>rfl⟩
  have:=oo aN
  rw[iA,el] at this
  exact this
 have Cs:∀{r:Nat},gD cl a t s=(0,r,s)->r≠0->(∃g,jF (m+1) (h.n+9) (some (av (l.map (·.1)) 66)) l bA r g/\dP F g p q s/\j4 F h g)->∃g,Y (m+3) (.fn 9) [.ptr p 0,.str a,.str t] h=.ret (.aF [a6 (gD cl a t s).1,ak (gD cl a t s).2.1]) g/\dP F g p q (gD cl a t s).2.2/\j4 F h g:=λ{r} e ah aj=>by
  obtain⟨g,h1,aa,ao⟩:=aj
  rw[e]
  exact⟨g,done ah h1,aa,ao⟩
 cases ab:cl a with
 |none=>
  rw[ab] at gV
  refine Cs (r:=6) (by unfold gD;rw[ab]) (by omega) ⟨g6,?_,j5,nC⟩
  rw[el]
  rw[el] at eU
  exact⟨eU,0,bA,aK,.inr ⟨rfl,eU,6,g6,gV,.inl ⟨by omega,rfl,rfl⟩⟩⟩
 |some c=>
  rw[ab] at gV hI
  have bO:=Ql m (h.n+1) (h:=g6) (t:=t) (ld1 HY rfl)
  by_cases hlen:t.length<=4096
  · rw[if_pos hlen] at bO
    have Qp:g6.get (h.n+13)=some (av [.ptr p 0] 26):=(fT _ (by omega) (by omega)).trans ((h5 _ (by omega)).trans dc)
    have Qq:g6.get (h.n+14)=some (av [.ptr h.n 0] 69):=(fT _ (by omega) (by omega)).trans ((h5 _ (by omega)).trans gC)
    have Qr:g6.get (h.n+15)=some (av [.str t] 9):=(fT _ (by omega) (by omega)).trans ((h5 _ (by omega)).trans rR)
    obtain⟨g7,kD,fM⟩:=Qb m (h:=g6) (c0:=h.n+13) (c1:=h.n+14) (c2:=h.n+15) (a:=h.n) (t:=t) (u:=c) j5 ok (by omega) (by omega) (ld1 Qp rfl) (ld1 Qq rfl) (ld1 Qr rfl) (ld1 hI rfl) ⟨by omega,by omega,by omega,by omega⟩
    have n7:=fM.n
    have gE:=(fM.get _ (by omega)).trans hL
    have nD:=j5.ext fM
    have oq:j4 F h g7:=⟨by have:=nC.n;omega,λd al hf=>(fM.get d (by have:=nC.n;omega)).trans (nC.get d al hf)⟩
    by_cases ah:kz c t s=true
    · rw[if_pos ah] at kD
      have aN:jF (m+1) (h.n+9) (some (av (l.map (·.1)) 66)) l bA 0 g7:=by
       rw[el] at eU hL gE⊢
       exact⟨eU,0,bA,aK,.inr ⟨rfl,eU,0,g6,gV,.inr ⟨rfl,hL,0,g6,bO,.inr ⟨rfl,hL,0,g7,kD,.inr ⟨rfl,gE,rfl,rfl⟩⟩⟩⟩⟩
      obtain⟨g8,Ct,Cu,vU⟩:=HE (m+1) (a:=c) (t:=t) nD ok (by omega) (by omega) (by have:=bd c;omega)
      have e:gD cl a t s=((fq c t s).1,0,(fq c t s).2):=by unfold gD;rw[ab];simp only[if_pos hlen,if_pos ah]
      rw[e]
      refine⟨g8,?_,Cu,⟨by have:=oq.n;have:=vU.n;omega,λd al hf=>(vU.get d (by have:=oq.n;omega) hf).trans (oq.get d al hf)⟩⟩
      refine HW (m+2) p 44 46 [.ptr (h.n+12) 0] [.ptr (h.n+13) 0,.ptr (h.n+14) 0,.ptr (h.n+15) 0] a t h (R:=λy=>y=.ret (.aF [a6 (fq c t s).1,ak 0]) g8) ?_
      rw[<-hv,<-hx,aY,bQ]
      refine⟨ao,h2,t,ld1 ((iQ _ (by omega)).trans t2) rfl,aM,Cr,0,g7,?_,ld1 (h:=aa.room 10) t2 rfl,λ_=>⟨c,ld1 ((fM.get _ (by omega)).trans hI) rfl,t,ld1 ((fM.get _ (by omega)).trans HY) rfl,(fq c t s).1,g8,Ct,rfl⟩,λay=>absurd rfl ay⟩
      have:=oo aN
      rw[iA,el] at this
      exact this
    · rw[if_neg ah] at kD
      refine Cs (r:=7) (by unfold gD;rw[ab];simp only[if_pos hlen,if_neg ah]) (by omega) ⟨g7,?_,nD,oq⟩
      rw[el] at eU hL⊢
      exact⟨eU,0,bA,aK,.inr ⟨rfl,eU,0,g6,gV,.inr ⟨rfl,hL,0,g6,bO,.inr ⟨rfl,hL,7,g7,kD,.inl ⟨by omega,rfl,rfl⟩⟩⟩⟩⟩
  · rw[if_neg hlen] at bO
    refine Cs (r:=3) (by unfold gD;rw[ab];simp only[if_neg hlen]) (by omega) ⟨g6,?_,j5,nC⟩
    rw[el] at eU hL⊢
    exact⟨eU,0,bA,aK,.inr ⟨rfl,eU,0,g6,gV,.inr ⟨rfl,hL,3,g6,bO,.inl ⟨by omega,rfl,rfl⟩⟩⟩⟩
def iR(cl:a1->Option a1)(a:a1)(s:dd):Nat×dd:=match cl a with
 |none=>(6,s)
 |some c=>match da s.aP c with
  |none=>(5,s)
  |some _=>(0,dT c s)
theorem Qs(m:Nat){cl:a1->Option a1}(c9:tn cl){F:Nat->Prop}{h:J}{p:Nat}{q:fb}{s:dd}{a:a1}(hm:30<=m)(w:dP F h p q s)(ok:kA s)(ad:s.ej<=1000000)(e7:a.length<=10000)(kB:∀d,F d->d<h.n):
  ∃g,Y (m+1) (.fn 12) [.ptr p 0,.str a] h=.ret (ak (iR cl a s).1) g/\dP F g p q (iR cl a s).2/\j4 F h g:=by
 obtain⟨m,rfl⟩:∃k,m=k+2:=⟨m-2,by omega⟩
 have Cp:p<h.n:=by obtain⟨m1,m2,d1,d2,dK,A,T,w,_⟩:=w;exact w.up.1
 obtain⟨h1,hv⟩:∃x,x=h.push (av [.str a] 9):=⟨_,rfl⟩
 have aY:h1.n=h.n+1:=by rw[hv];rfl
 have di:h1.get h.n=some (av [.str a] 9):=by rw[hv];exact cT rfl
 have dq:Ext h.n h h1:=by rw[hv];exact Ext.push (Nat.le_refl _) _
 obtain⟨aa,hx⟩:∃x,x=h1.push (av [.ptr h.n 0] 69):=⟨_,rfl⟩
 have bQ:aa.n=h.n+2:=by rw[hx];show h1.n+1=_;omega
 have nA:∀d,d<h.n+1->aa.get d=h1.get d:=λd al=>by rw[hx];exact b8 (by omega) rfl
 have cE:aa.get (h.n+1)=some (av [.ptr h.n 0] 69):=by rw[hx,<-aY];exact cT rfl
 have h2:=vS (m+1) h.n h1
 rw[<-hx,aY] at h2
 obtain⟨ao,gl⟩:∃x,x=(((aa.push (av [.ptr p 0] 26)).push (av [.ptr h.n 0] 69)).push (av [.bool true] 4)).push (av [ak 5] 34):=⟨_,rfl⟩
 have cX:ao.n=h.n+6:=by rw[gl];show aa.n+1+1+1+1=_;omega
 have iQ:∀d,d<h.n+2->ao.get d=aa.get d:=λd al=>by
  rw[gl]
  refine b8 (by show d<aa.n+1+1+1;omega) (b8 (by show d<aa.n+1+1;omega) (b8 (by show d<aa.n+1;omega) (b8 (by omega) rfl)))
 have bx:ao.get (h.n+2)=some (av [.ptr p 0] 26):=by
  rw[gl]
  refine b8 (by show _<aa.n+1+1+1;omega) (b8 (by show _<aa.n+1+1;omega) (b8 (by show _<aa.n+1;omega) ?_))
  rw[<-bQ];exact cT rfl
 have db:ao.get (h.n+3)=some (av [.ptr h.n 0] 69):=by
  rw[gl]
  refine b8 (by show _<aa.n+1+1+1;omega) (b8 (by show _<aa.n+1+1;omega) ?_)
  exact cT (by show _=aa.n+1;omega)
 have dc:ao.get (h.n+4)=some (av [.bool true] 4):=by
  rw[gl]
  refine b8 (by show _<aa.n+1+1+1;omega) ?_
  exact cT (by show _=aa.n+1+1;omega)
 have gC:ao.get (h.n+5)=some (av [ak 5] 34):=by
  rw[gl]
  exact cT (by show _=aa.n+1+1+1;omega)
 have tp:=yW (m+1) p h.n 5 true aa
 rw[<-gl,bQ] at tp
 obtain⟨l,el⟩:∃l:List (I×Nat×List I),l=[(.fn 28 [.ptr p 0] [],28,[.ptr p 0]),(.fn 44 [] [.ptr (h.n+1) 0],44,[.ptr (h.n+1) 0]),(.fn 47 [] [.ptr (h.n+2) 0,.ptr (h.n+3) 0,.ptr (h.n+4) 0,.ptr (h.n+5) 0],47,[.ptr (h.n+2) 0,.ptr (h.n+3) 0,.ptr (h.n+4) 0,.ptr (h.n+5) 0])]:=⟨_,rfl⟩
 obtain⟨bA,iA⟩:∃x,x=ao.push (av (l.map (·.1)) 66):=⟨_,rfl⟩
 have fL:bA.n=h.n+7:=by rw[iA];show ao.n+1=_;omega
 have h5:∀d,d<h.n+6->bA.get d=ao.get d:=λd al=>by rw[iA];exact b8 (by omega) rfl
 have eU:bA.get (h.n+6)=some (av (l.map (·.1)) 66):=by rw[iA,<-cX];exact cT rfl
 have fV:Ext h.n h bA:=⟨by omega,λd al=>(h5 d (by omega)).trans ((iQ d (by omega)).trans ((nA d (by omega)).trans (dq.get d al)))⟩
 have vT:bA.get h.n=some (av [.str a] 9):=(h5 _ (by omega)).trans ((iQ _ (by omega)).trans ((nA _ (by omega)).trans di))
 have aK:=yV m p bA
 obtain⟨g6,gV,n6,fT,hI⟩:=vR m c9 (h:=bA) (c:=h.n+1) (a:=h.n) (s:=a) (by omega) e7 (ld1 ((h5 _ (by omega)).trans ((iQ _ (by omega)).trans cE)) rfl) vT ⟨by omega,by omega⟩
 have oo:∀{r:Nat} {g:J},jF (m+1) (h.n+6) (some (av (l.map (·.1)) 66)) l bA r g->Y (m+2) (.fn 27) [.slice (h.n+6) 0 3 (.exact 3)] bA=.ret (ak r) g:=λ{r g} aN=>by
  have rS:l.length=3:=by rw[el];rfl
  have:=yU (m+1) (h.n+6) (cp:=.exact 3) aN (λx U=>by
   rw[el] at U
   simp only[List.mem_cons,List.not_mem_nil,or_false] at U
   rcases U with rfl|rfl|rfl
   · exact .inl ⟨p,rfl,rfl⟩
   · exact .inr rfl
   · exact .inr rfl) (by omega)
  rw[rS] at this
  exact this
 have hL:g6.get (h.n+6)=some (av (l.map (·.1)) 66):=(fT _ (by omega) (by omega)).trans eU
 have nB:dP (λd=>F d\/h.n<=d) bA p q s:=w.move fV.n (λd al _=>fV.get d al) λd al af=>by
  rcases af with af|af
  · exact af
  · omega
 have j5:dP F g6 p q s:=nB.move n6 (λd al af=>fT d al λe=>af (.inr (by omega))) λd al af=>.inl af
 have nC:j4 F h g6:=⟨by omega,λd al _=>(fT d (by omega) (by omega)).trans (fV.get d al)⟩
 have call:∀{r r':Nat} {g cb:J},jF (m+1) (h.n+6) (some (av (l.map (·.1)) 66)) l bA r g->(r=0->∃s1 s2,aO g h.n 0=some (.str s1)/\Y (m+2) (.fn 33) [.ptr p 0,.str s1] g=.ret (.str s2) cb)->(r≠0->cb=g)->r'=r->Y (m+3) (.fn 12) [.ptr p 0,.str a] h=.ret (ak r') cb:=λ{r r' g cb} aN ay eZ e=>by
  subst e
  refine Qg (m+2) p 44 47 [.ptr (h.n+1) 0] [.ptr (h.n+2) 0,.ptr (h.n+3) 0,.ptr (h.n+4) 0,.ptr (h.n+5) 0] a h (R:=λy=>y=.ret (ak r') cb) ?_
  rw[<-hv]
  refine⟨aa,h2,ao,tp,r',g,?_,λah=>?_,λah=>by rw[eZ ah]⟩
  · have:=oo aN
    rw[iA,el] at this
    rw[cX]
    exact this
  · obtain⟨s1,s2,bl,a2⟩:=ay ah
    exact⟨s1,bl,s2,cb,a2,rfl⟩
 cases ab:cl a with
 |none=>
  rw[ab] at gV
  have e:iR cl a s=(6,s):=by unfold iR;rw[ab]
  rw[e]
  refine⟨g6,call (r:=6) (g:=g6) ?_ (λay=>by omega) (λ_=>rfl) rfl,j5,nC⟩
  rw[el] at eU⊢
  exact⟨eU,0,bA,aK,.inr ⟨rfl,eU,6,g6,gV,.inl ⟨by omega,rfl,rfl⟩⟩⟩
 |some c=>
  rw[ab] at gV hI
  have up:∀d,d<h.n+6->h.n<d->g6.get d=ao.get d:=λd h1 aa=>(fT _ (by omega) (by omega)).trans (h5 _ h1)
  obtain⟨g7,kD,fM⟩:=yS m (h:=g6) (c0:=h.n+2) (c1:=h.n+3) (c2:=h.n+4) (c3:=h.n+5) (a:=h.n) (e:=5) (b:=true) (t:=c) j5 (ld1 ((up _ (by omega) (by omega)).trans bx) rfl) (ld1 ((up _ (by omega) (by omega)).trans db) rfl) (ld1 ((up _ (by omega) (by omega)).trans dc) rfl) (ld1 ((up _ (by omega) (by omega)).trans gC) rfl) (ld1 hI rfl) ⟨by omega,by omega,by omega,by omega,by omega⟩
  have n7:=fM.n
  have gE:=(fM.get _ (by omega)).trans hL
  have nD:=j5.ext fM
  have oq:j4 F h g7:=⟨by have:=nC.n;omega,λd al hf=>(fM.get d (by have:=nC.n;omega)).trans (nC.get d al hf)⟩
  cases aj:da s.aP c with
  |none=>
   rw[aj] at kD
   have e:iR cl a s=(5,s):=by unfold iR;rw[ab];simp only[aj]
   rw[e]
   refine⟨g7,call (r:=5) (g:=g7) ?_ (λay=>by omega) (λ_=>rfl) rfl,nD,oq⟩
   rw[el] at eU hL⊢
   exact⟨eU,0,bA,aK,.inr ⟨rfl,eU,0,g6,gV,.inr ⟨rfl,hL,5,g7,kD,.inl ⟨by omega,rfl,rfl⟩⟩⟩⟩
  |some f=>
   rw[aj] at kD
   have e:iR cl a s=(0,dT c s):=by unfold iR;rw[ab];simp only[aj]
   rw[e]
   obtain⟨g8,Ct,Cu,vU⟩:=Hx (m+1) (a:=c) nD ok (by omega) aj
   refine⟨g8,call (r:=0) (g:=g7) ?_ (λ_=>⟨c,f.x,ld1 ((fM.get _ (by omega)).trans hI) rfl,Ct⟩) (λay=>absurd rfl ay) rfl,Cu,⟨by have:=oq.n;have:=vU.n;omega,λd al hf=>(vU.get d (by have:=oq.n;omega) hf).trans (oq.get d al hf)⟩⟩
   rw[el] at eU hL gE⊢
   exact⟨eU,0,bA,aK,.inr ⟨rfl,eU,0,g6,gV,.inr ⟨rfl,hL,0,g7,kD,.inr ⟨rfl,gE,rfl,rfl⟩⟩⟩⟩
def fN(cl:a1->Option a1)(a:a1)(s:dd):b7×Nat:=match cl a with
 |none=>(⟨[],[],0⟩,6)
 |some c=>match da s.aP c with
  |none=>(⟨[],[],0⟩,5)
  |some f=>(f,0)
theorem Qt{h:J}{b e:Nat}{cs:List I}(aq:aU.loadCells h b 0 3=some cs):jz an (bH Tryd.f11) Tryd.f11 [(4,.ptr b 0),(5,ak e)] h=some (.aF [.agg cs,ak e]):=by
 have aw:Tryd.f11.results.toList=[ResultVar.cell 4 40,ResultVar.tmp 5]:=by kernel_rfl
 have ar:Nat.testBit (bH Tryd.f11) 4=true:=by kernel_rfl
 have oO:Nat.testBit (bH Tryd.f11) 5=true:=by kernel_rfl
 have bn:jJ an 40=some true:=by kernel_rfl
 have cR:cG an 40=some 3:=by kernel_rfl
 have fD:cU 4 [(4,I.ptr b 0),(5,ak e)]=some (.ptr b 0):=rfl
 have wT:cU 5 [(4,I.ptr b 0),(5,ak e)]=some (ak e):=rfl
 have lH:aU.k6 an (bH Tryd.f11) [(4,I.ptr b 0),(5,ak e)] h (ResultVar.cell 4 40)=some (.agg cs):=by
  unfold aU.k6
  simp only[ar,bn,cR,fD,aq]
 have tW:aU.k6 an (bH Tryd.f11) [(4,I.ptr b 0),(5,ak e)] h (ResultVar.tmp 5)=some (ak e):=by
  unfold aU.k6
  simp only[oO,wT]
 unfold jz
 rw[aw]
 simp only[ly,lH,tW]
theorem tq(m:Nat){cl:a1->Option a1}(c9:tn cl){F:Nat->Prop}{h:J}{p:Nat}{q:fb}{s:dd}{a:a1}(hm:30<=m)(w:dP F h p q s)(e7:a.length<=10000)(kB:∀d,F d->d<h.n):
  ∃g,Y (m+1) (.fn 11) [.ptr p 0,.str a] h=.ret (.aF [.agg (c_ (fN cl a s).1),ak (fN cl a s).2]) g/\dP F g p q s/\Ext h.n h g:=by
 obtain⟨m,rfl⟩:∃k,m=k+2:=⟨m-2,by omega⟩
 have Cp:p<h.n:=by obtain⟨m1,m2,d1,d2,dK,A,T,w,_⟩:=w;exact w.up.1
 obtain⟨ay,vV⟩:∃x,x=h.push (av [.str a] 9):=⟨_,rfl⟩
 have gv:ay.n=h.n+1:=by rw[vV];rfl
 obtain⟨h1,hv⟩:∃x,x=ay.push (av [.str [],.str [],a6 0] 40):=⟨_,rfl⟩
 have aY:h1.n=h.n+2:=by rw[hv];show ay.n+1=_;omega
 have di:h1.get h.n=some (av [.str a] 9):=by rw[hv];refine b8 (by omega) ?_;rw[vV];exact cT rfl
 have b5:h1.get (h.n+1)=some (av [.str [],.str [],a6 0] 40):=by rw[hv,<-gv];exact cT rfl
 have dq:Ext h.n h h1:=by rw[hv];refine Ext.pt (by omega) ?_;rw[vV];exact Ext.push (Nat.le_refl _) _
 obtain⟨aa,hx⟩:∃x,x=h1.push (av [.ptr h.n 0] 69):=⟨_,rfl⟩
 have bQ:aa.n=h.n+3:=by rw[hx];show h1.n+1=_;omega
 have nA:∀d,d<h.n+2->aa.get d=h1.get d:=λd al=>by rw[hx];exact b8 (by omega) rfl
 have cE:aa.get (h.n+2)=some (av [.ptr h.n 0] 69):=by rw[hx,<-aY];exact cT rfl
 have h2:=vS (m+1) h.n h1
 rw[<-hx,aY] at h2
 obtain⟨ao,gl⟩:∃x,x=(((aa.push (av [.ptr p 0] 26)).push (av [.ptr h.n 0] 69)).push (av [.bool true] 4)).push (av [ak 5] 34):=⟨_,rfl⟩
 have cX:ao.n=h.n+7:=by rw[gl];show aa.n+1+1+1+1=_;omega
 have iQ:∀d,d<h.n+3->ao.get d=aa.get d:=λd al=>by
  rw[gl]
  refine b8 (by show d<aa.n+1+1+1;omega) (b8 (by show d<aa.n+1+1;omega) (b8 (by show d<aa.n+1;omega) (b8 (by omega) rfl)))
 have bx:ao.get (h.n+3)=some (av [.ptr p 0] 26):=by
  rw[gl]
  refine b8 (by show _<aa.n+1+1+1;omega) (b8 (by show _<aa.n+1+1;omega) (b8 (by show _<aa.n+1;omega) ?_))
  rw[<-bQ];exact cT rfl
 have db:ao.get (h.n+4)=some (av [.ptr h.n 0] 69):=by
  rw[gl]
  refine b8 (by show _<aa.n+1+1+1;omega) (b8 (by show _<aa.n+1+1;omega) ?_)
  exact cT (by show _=aa.n+1;omega)
 have dc:ao.get (h.n+5)=some (av [.bool true] 4):=by
  rw[gl]
  refine b8 (by show _<aa.n+1+1+1;omega) ?_
  exact cT (by show _=aa.n+1+1;omega)
 have gC:ao.get (h.n+6)=some (av [ak 5] 34):=by
  rw[gl]
  exact cT (by show _=aa.n+1+1+1;omega)
 have tp:=yW (m+1) p h.n 5 true aa
 rw[<-gl,bQ] at tp
 obtain⟨l,el⟩:∃l:List (I×Nat×List I),l=[(.fn 28 [.ptr p 0] [],28,[.ptr p 0]),(.fn 44 [] [.ptr (h.n+2) 0],44,[.ptr (h.n+2) 0]),(.fn 47 [] [.ptr (h.n+3) 0,.ptr (h.n+4) 0,.ptr (h.n+5) 0,.ptr (h.n+6) 0],47,[.ptr (h.n+3) 0,.ptr (h.n+4) 0,.ptr (h.n+5) 0,.ptr (h.n+6) 0])]:=⟨_,rfl⟩
 obtain⟨bA,iA⟩:∃x,x=ao.push (av (l.map (·.1)) 66):=⟨_,rfl⟩
 have fL:bA.n=h.n+8:=by rw[iA];show ao.n+1=_;omega
 have h5:∀d,d<h.n+7->bA.get d=ao.get d:=λd al=>by rw[iA];exact b8 (by omega) rfl
 have eU:bA.get (h.n+7)=some (av (l.map (·.1)) 66):=by rw[iA,<-cX];exact cT rfl
 have fV:Ext h.n h bA:=⟨by omega,λd al=>(h5 d (by omega)).trans ((iQ d (by omega)).trans ((nA d (by omega)).trans (dq.get d al)))⟩
 have vT:bA.get h.n=some (av [.str a] 9):=(h5 _ (by omega)).trans ((iQ _ (by omega)).trans ((nA _ (by omega)).trans di))
 have Qu:bA.get (h.n+1)=some (av [.str [],.str [],a6 0] 40):=(h5 _ (by omega)).trans ((iQ _ (by omega)).trans ((nA _ (by omega)).trans b5))
 have aK:=yV m p bA
 obtain⟨g6,gV,n6,fT,hI⟩:=vR m c9 (h:=bA) (c:=h.n+2) (a:=h.n) (s:=a) (by omega) e7 (ld1 ((h5 _ (by omega)).trans ((iQ _ (by omega)).trans cE)) rfl) vT ⟨by omega,by omega⟩
 have oo:∀{r:Nat} {g:J},jF (m+1) (h.n+7) (some (av (l.map (·.1)) 66)) l bA r g->Y (m+2) (.fn 27) [.slice (h.n+7) 0 3 (.exact 3)] bA=.ret (ak r) g:=λ{r g} aN=>by
  have rS:l.length=3:=by rw[el];rfl
  have:=yU (m+1) (h.n+7) (cp:=.exact 3) aN (λx U=>by
   rw[el] at U
   simp only[List.mem_cons,List.not_mem_nil,or_false] at U
   rcases U with rfl|rfl|rfl
   · exact .inl ⟨p,rfl,rfl⟩
   · exact .inr rfl
   · exact .inr rfl) (by omega)
  rw[rS] at this
  exact this
 have hL:g6.get (h.n+7)=some (av (l.map (·.1)) 66):=(fT _ (by omega) (by omega)).trans eU
 have HZ:g6.get (h.n+1)=some (av [.str [],.str [],a6 0] 40):=(fT _ (by omega) (by omega)).trans Qu
 have ot:Ext h.n h g6:=⟨by omega,λd al=>(fT d (by omega) (by omega)).trans (fV.get d al)⟩
 have call:∀{r:Nat} {g cb:J} {f:b7},jF (m+1) (h.n+7) (some (av (l.map (·.1)) 66)) l bA r g->g.get (h.n+1)=some (av [.str [],.str [],a6 0] 40)->cb.get (h.n+1)=some (av (c_ f) 40)->(r=0->∃m1 s1,aO (g.room 8) p 5=some (.map m1)/\aO (g.room 8) h.n 0=some (.str s1)/\gq an (g.room 8) 57 (.map m1) (.str s1) false=some (.agg (c_ f))/\cb=(g.room 8).set (h.n+1) (some (av (c_ f) 40)))->(r≠0->f=⟨[],[],0⟩/\cb=g.set (h.n+1) (some (av (c_ f) 40)))->Y (m+3) (.fn 11) [.ptr p 0,.str a] h=.ret (.aF [.agg (c_ f),ak r]) cb:=λ{r g cb f} aN aL Qv sg eZ=>by
  refine FZ (R:=λy=>y=.ret (.aF [.agg (c_ f),ak r]) cb) (intr:=fK) (n:=m+2) (args:=[.ptr p 0,.str a]) Tryd.func11 (by kernel_rfl) (by kernel_rfl) (by kernel_rfl) (Q:=λe st=>e=.ret/\st=⟨[(4,.ptr (h.n+1) 0),(5,ak r)],[],.none,cb⟩) ?_ ?_
  rotate_left
  · rintro e st ⟨rfl,rfl⟩
    exact .inl ⟨.inl rfl,rfl,_,Qt (mJ Qv rfl),rfl⟩
  have hn:∃m1,r=0->aO (g.room 8) p 5=some (.map m1):=by
   by_cases ah:r=0
   · obtain⟨m1,_,aw,_⟩:=sg ah;exact⟨m1,λ_=>aw⟩
   · exact⟨0,λe=>absurd e ah⟩
  by_cases ah:r=0
  · obtain⟨m1,s1,aw,ar,bn,cR⟩:=sg ah
    refine HX (Y (m+2)) p 44 47 m1 [.ptr (h.n+2) 0] [.ptr (h.n+3) 0,.ptr (h.n+4) 0,.ptr (h.n+5) 0,.ptr (h.n+6) 0] a h ?_
    rw[<-vV,<-hv,gv]
    refine⟨aa,h2,ao,tp,r,g,?_,λ_=>⟨aw,s1,ar,f.p,f.x,f.n,bn,cb,by rw[cR];exact iM (h:=g.room 8) aL rfl rfl,rfl,by rw[ah]⟩,λh=>absurd ah h⟩
    have:=oo aN
    rw[iA,el] at this
    rw[cX]
    exact this
  · obtain⟨aw,ar⟩:=eZ ah
    refine HX (Y (m+2)) p 44 47 0 [.ptr (h.n+2) 0] [.ptr (h.n+3) 0,.ptr (h.n+4) 0,.ptr (h.n+5) 0,.ptr (h.n+6) 0] a h ?_
    rw[<-vV,<-hv,gv]
    refine⟨aa,h2,ao,tp,r,g,?_,λh=>absurd h ah,λ_=>⟨cb,by rw[ar,aw];exact iM aL rfl rfl,rfl,rfl⟩⟩
    have:=oo aN
    rw[iA,el] at this
    rw[cX]
    exact this
 have nB:dP (λd=>F d\/h.n<=d) bA p q s:=w.move fV.n (λd al _=>fV.get d al) λd al af=>by
  rcases af with af|af
  · exact af
  · omega
 have j5:dP F g6 p q s:=nB.move n6 (λd al af=>fT d al λe=>af (.inr (by omega))) λd al af=>.inl af
 have hT:∀{g:J} {o:b2},dP F g p q s->Ext h.n h g->dP F (g.set (h.n+1) (some o)) p q s/\Ext h.n h (g.set (h.n+1) (some o)):=λ{g o} H0 mR=>by
  have Qw:dP F (g.set (h.n+1) (some o)) p q s:=by
   have Ar:Ext h.n h (g.set (h.n+1) (some o)):=Ext.nn (by omega) mR
   exact w.ext Ar
  exact⟨Qw,Ext.nn (by omega) mR⟩
 cases ab:cl a with
 |none=>
  rw[ab] at gV
  have e:fN cl a s=(⟨[],[],0⟩,6):=by unfold fN;rw[ab]
  rw[e]
  obtain⟨v1,v2⟩:=hT (o:=av (c_ ⟨[],[],0⟩) 40) j5 ot
  refine⟨_,call (r:=6) (g:=g6) (f:=⟨[],[],0⟩) ?_ HZ (fw rfl) (λay=>by omega) (λ_=>⟨rfl,rfl⟩),v1,v2⟩
  rw[el] at eU⊢
  exact⟨eU,0,bA,aK,.inr ⟨rfl,eU,6,g6,gV,.inl ⟨by omega,rfl,rfl⟩⟩⟩
 |some c=>
  rw[ab] at gV hI
  have up:∀d,d<h.n+7->h.n<d->g6.get d=ao.get d:=λd h1 aa=>(fT _ (by omega) (by omega)).trans (h5 _ h1)
  obtain⟨g7,kD,fM⟩:=yS m (h:=g6) (c0:=h.n+3) (c1:=h.n+4) (c2:=h.n+5) (c3:=h.n+6) (a:=h.n) (e:=5) (b:=true) (t:=c) j5 (ld1 ((up _ (by omega) (by omega)).trans bx) rfl) (ld1 ((up _ (by omega) (by omega)).trans db) rfl) (ld1 ((up _ (by omega) (by omega)).trans dc) rfl) (ld1 ((up _ (by omega) (by omega)).trans gC) rfl) (ld1 hI rfl) ⟨by omega,by omega,by omega,by omega,by omega⟩
  have n7:=fM.n
  have gE:=(fM.get _ (by omega)).trans hL
  have H2:=(fM.get _ (by omega)).trans HZ
  have nD:=j5.ext fM
  have Cv:Ext h.n h g7:=ot.trans ot.n (fM.le (by omega))
  cases aj:da s.aP c with
  |none=>
   rw[aj] at kD
   have e:fN cl a s=(⟨[],[],0⟩,5):=by unfold fN;rw[ab];simp only[aj]
   rw[e]
   obtain⟨v1,v2⟩:=hT (o:=av (c_ ⟨[],[],0⟩) 40) nD Cv
   refine⟨_,call (r:=5) (g:=g7) (f:=⟨[],[],0⟩) ?_ H2 (fw rfl) (λay=>by omega) (λ_=>⟨rfl,rfl⟩),v1,v2⟩
   rw[el] at eU hL⊢
   exact⟨eU,0,bA,aK,.inr ⟨rfl,eU,0,g6,gV,.inr ⟨rfl,hL,5,g7,kD,.inl ⟨by omega,rfl,rfl⟩⟩⟩⟩
  |some f=>
   rw[aj] at kD
   have e:fN cl a s=(f,0):=by unfold fN;rw[ab];simp only[aj]
   rw[e]
   have H3:Ext h.n h (g7.room 8):=Cv.trans Cv.n (Ext.room _ _ _)
   obtain⟨v1,v2⟩:=hT (g:=g7.room 8) (o:=av (c_ f) 40) (w.ext H3) H3
   refine⟨_,call (r:=0) (g:=g7) (f:=f) ?_ H2 (fw rfl) (λ_=>?_) (λay=>absurd rfl ay),v1,v2⟩
   · rw[el] at eU hL gE⊢
     exact⟨eU,0,bA,aK,.inr ⟨rfl,eU,0,g6,gV,.inr ⟨rfl,hL,0,g7,kD,.inr ⟨rfl,gE,rfl,rfl⟩⟩⟩⟩
   · obtain⟨m1,m2,d1,d2,dK,A,T,wf,_,_,Qx,_,_⟩:=nD
     obtain⟨cC,cE,Uq,cU,_,hk⟩:=Co wf c
     rw[Qx] at aj
     obtain⟨bz,bZ,eO⟩:=hk f aj
     have:=cU (g7.room 8) rfl false
     rw[bz,bZ,eO] at this
     exact⟨m1,c,ld1 (h:=g7.room 8) wf.st rfl,ld1 (h:=g7.room 8) ((fM.get _ (by omega)).trans hI) rfl,this,rfl⟩
def gm(cl:a1->Option a1)(a b:a1)(s:dd):Nat×Nat×dd:=match cl a with
 |none=>(0,6,s)
 |some c=>match cl b with
  |none=>(0,6,s)
  |some d=>match da s.aP c with
   |none=>(0,5,s)
   |some f=>if(da s.aP d).isSome=true then(0,14,s) else((fq d f.x (dT c s)).1,0,(fq d f.x (dT c s)).2)
theorem H4{h ai:J}{p a e:Nat}{b:Bool}(zs:ai=(((h.push (av [.ptr p 0] 26)).push (av [.ptr a 0] 69)).push (av [.bool b] 4)).push (av [ak e] 34)):
  ai.n=h.n+4/\(∀d,d<h.n->ai.get d=h.get d)/\ai.get h.n=some (av [.ptr p 0] 26)/\ai.get (h.n+1)=some (av [.ptr a 0] 69)/\ai.get (h.n+2)=some (av [.bool b] 4)/\ai.get (h.n+3)=some (av [ak e] 34):=by
 rw[zs]
 refine⟨rfl,λd al=>?_,?_,?_,?_,?_⟩
 · exact b8 (by show d<h.n+1+1+1;omega) (b8 (by show d<h.n+1+1;omega) (b8 (by show d<h.n+1;omega) (b8 (by omega) rfl)))
 · refine b8 (by show _<h.n+1+1+1;omega) (b8 (by show _<h.n+1+1;omega) (b8 (by show _<h.n+1;omega) ?_))
   exact cT rfl
 · refine b8 (by show _<h.n+1+1+1;omega) (b8 (by show _<h.n+1+1;omega) ?_)
   exact cT rfl
 · refine b8 (by show _<h.n+1+1+1;omega) ?_
   exact cT rfl
 · exact cT rfl
theorem Qy(m:Nat){cl:a1->Option a1}(c9:tn cl){F:Nat->Prop}{h:J}{p:Nat}{q:fb}{s:dd}{a b:a1}(hm:30<=m)(w:dP F h p q s)(ok:kA s)(ad:s.ej<=1000000)(e7:a.length<=10000)(pH:b.length<=10000)(bd:∀c,de s.ts c<=1000000)(kB:∀d,F d->d<h.n):
  ∃g,Y (m+1) (.fn 13) [.ptr p 0,.str a,.str b] h=.ret (.aF [a6 (gm cl a b s).1,ak (gm cl a b s).2.1]) g/\dP F g p q (gm cl a b s).2.2/\j4 F h g:=by
 obtain⟨m,rfl⟩:∃k,m=k+2:=⟨m-2,by omega⟩
 have Cp:p<h.n:=by obtain⟨m1,m2,d1,d2,dK,A,T,w,_⟩:=w;exact w.up.1
 obtain⟨h1,hv⟩:∃x,x=h.push (av [.str a] 9):=⟨_,rfl⟩
 obtain⟨aa,hx⟩:∃x,x=h1.push (av [.str b] 9):=⟨_,rfl⟩
 obtain⟨ao,gl⟩:∃x,x=aa.push (av [.ptr h.n 0] 69):=⟨_,rfl⟩
 obtain⟨aM,kC⟩:∃x,x=ao.push (av [.ptr (h.n+1) 0] 69):=⟨_,rfl⟩
 obtain⟨bA,iA⟩:∃x,x=(((aM.push (av [.ptr p 0] 26)).push (av [.ptr h.n 0] 69)).push (av [.bool true] 4)).push (av [ak 5] 34):=⟨_,rfl⟩
 obtain⟨dB,H5⟩:∃x,x=(((bA.push (av [.ptr p 0] 26)).push (av [.ptr (h.n+1) 0] 69)).push (av [.bool false] 4)).push (av [ak 14] 34):=⟨_,rfl⟩
 have aY:h1.n=h.n+1:=by rw[hv];rfl
 have bQ:aa.n=h.n+2:=by rw[hx];show h1.n+1=_;omega
 have cX:ao.n=h.n+3:=by rw[gl];show aa.n+1=_;omega
 have dL:aM.n=h.n+4:=by rw[kC];show ao.n+1=_;omega
 obtain⟨fL,h5,yY,s1,s2,bw⟩:=H4 iA
 obtain⟨n6,H6,t0,t1,t2,t3⟩:=H4 H5
 rw[dL] at fL yY s1 s2 bw
 rw[fL] at n6 t0 t1 t2 t3
 obtain⟨l,el⟩:∃l:List (I×Nat×List I),l=[(.fn 28 [.ptr p 0] [],28,[.ptr p 0]),(.fn 44 [] [.ptr (h.n+2) 0],44,[.ptr (h.n+2) 0]),(.fn 44 [] [.ptr (h.n+3) 0],44,[.ptr (h.n+3) 0]),(.fn 47 [] [.ptr (h.n+4) 0,.ptr (h.n+4+1) 0,.ptr (h.n+4+2) 0,.ptr (h.n+4+3) 0],47,[.ptr (h.n+4) 0,.ptr (h.n+4+1) 0,.ptr (h.n+4+2) 0,.ptr (h.n+4+3) 0]),(.fn 47 [] [.ptr (h.n+4+4) 0,.ptr (h.n+4+4+1) 0,.ptr (h.n+4+4+2) 0,.ptr (h.n+4+4+3) 0],47,[.ptr (h.n+4+4) 0,.ptr (h.n+4+4+1) 0,.ptr (h.n+4+4+2) 0,.ptr (h.n+4+4+3) 0])]:=⟨_,rfl⟩
 obtain⟨eK,yZ⟩:∃x,x=dB.push (av (l.map (·.1)) 66):=⟨_,rfl⟩
 have n7:eK.n=h.n+13:=by rw[yZ];show dB.n+1=_;omega
 have H7:∀d,d<h.n+12->eK.get d=dB.get d:=λd al=>by rw[yZ];exact b8 (by omega) rfl
 have gE:eK.get (h.n+4+4+4)=some (av (l.map (·.1)) 66):=by rw[yZ,<-n6];exact cT rfl
 have vW:∀d,d<h.n+4->eK.get d=aM.get d:=λd al=>(H7 d (by omega)).trans ((H6 d (by omega)).trans (h5 d (by omega)))
 have l1:eK.get (h.n+3)=some (av [.ptr (h.n+1) 0] 69):=(vW _ (by omega)).trans (by rw[kC,<-cX];exact cT rfl)
 have gr:eK.get (h.n+2)=some (av [.ptr h.n 0] 69):=(vW _ (by omega)).trans (by rw[kC];refine b8 (by omega) ?_;rw[gl,<-bQ];exact cT rfl)
 have cE:eK.get (h.n+1)=some (av [.str b] 9):=(vW _ (by omega)).trans (by rw[kC];refine b8 (by omega) ?_;rw[gl];refine b8 (by omega) ?_;rw[hx,<-aY];exact cT rfl)
 have cC:eK.get h.n=some (av [.str a] 9):=(vW _ (by omega)).trans (by rw[kC];refine b8 (by omega) ?_;rw[gl];refine b8 (by omega) ?_;rw[hx];refine b8 (by omega) ?_;rw[hv];exact cT rfl)
 have fM:Ext h.n h eK:=⟨by omega,λd al=>(vW d (by omega)).trans (by rw[kC];refine b8 (by omega) ?_;rw[gl];refine b8 (by omega) ?_;rw[hx];refine b8 (by omega) ?_;rw[hv];exact b8 (by omega) rfl)⟩
 have H8:=vS (m+1) h.n aa
 rw[<-gl,bQ] at H8
 have H9:=vS (m+1) (h.n+1) ao
 rw[<-kC,cX] at H9
 have H_:=yW (m+1) p h.n 5 true aM
 rw[<-iA,dL] at H_
 have Ia:=yW (m+1) p (h.n+1) 14 false bA
 rw[<-H5,fL] at Ia
 have aK:=yV m p eK
 have oo:∀{r:Nat} {g:J},jF (m+1) (h.n+4+4+4) (some (av (l.map (·.1)) 66)) l eK r g->Y (m+2) (.fn 27) [.slice (h.n+4+4+4) 0 5 (.exact 5)] eK=.ret (ak r) g:=λ{r g} aN=>by
  have rS:l.length=5:=by rw[el];rfl
  have:=yU (m+1) (h.n+4+4+4) (cp:=.exact 5) aN (λx U=>by
   rw[el] at U
   simp only[List.mem_cons,List.not_mem_nil,or_false] at U
   rcases U with rfl|rfl|rfl|rfl|rfl
   · exact .inl ⟨p,rfl,rfl⟩
   · exact .inr rfl
   · exact .inr rfl
   · exact .inr rfl
   · exact .inr rfl) (by omega)
  rw[rS] at this
  exact this
 have call:∀{r n:Nat} {g cb:J},jF (m+1) (h.n+4+4+4) (some (av (l.map (·.1)) 66)) l eK r g->(r≠0->n=0/\cb=g)->(r=0->∃fh gg j3 g6,aO g h.n 0=some (.str fh)/\Y (m+2) (.fn 33) [.ptr p 0,.str fh] g=.ret (.str gg) g6/\aO g6 (h.n+1) 0=some (.str j3)/\Y (m+2) (.fn 31) [.ptr p 0,.str j3,.str gg] g6=.ret (a6 n) cb)->Y (m+3) (.fn 13) [.ptr p 0,.str a,.str b] h=.ret (.aF [a6 n,ak r]) cb:=λ{r n g cb} aN eZ sg=>by
  refine Qh (m+2) p 44 44 47 47 [.ptr (h.n+2) 0] [.ptr (h.n+3) 0] [.ptr (h.n+4) 0,.ptr (h.n+4+1) 0,.ptr (h.n+4+2) 0,.ptr (h.n+4+3) 0] [.ptr (h.n+4+4) 0,.ptr (h.n+4+4+1) 0,.ptr (h.n+4+4+2) 0,.ptr (h.n+4+4+3) 0] a b h (R:=λy=>y=.ret (.aF [a6 n,ak r]) cb) ?_
  rw[<-hv,<-hx,aY]
  refine⟨ao,H8,aM,H9,bA,H_,dB,Ia,r,g,?_,λah=>?_,λah=>?_⟩
  · have:=oo aN
    rw[yZ,el] at this
    rw[n6]
    exact this
  · obtain⟨fh,gg,j3,g6,bl,a2,a3,a4⟩:=sg ah
    exact⟨fh,bl,gg,g6,a2,j3,a3,n,cb,a4,by rw[ah]⟩
  · obtain⟨aw,ar⟩:=eZ ah
    rw[aw,ar]
 obtain⟨g1,c1,m1,bz,bl⟩:=vR m c9 (h:=eK) (c:=h.n+2) (a:=h.n) (s:=a) (by omega) e7 (ld1 gr rfl) cC ⟨by omega,by omega⟩
 have nD:dP (λd=>F d\/h.n<=d) eK p q s:=w.move fM.n (λd al _=>fM.get d al) λd al af=>by
  rcases af with af|af
  · exact af
  · omega
 have cK:dP (λd=>F d\/h.n<=d) g1 p q s:=nD.move m1 (λd al af=>bz d al λe=>af (.inr (by omega))) λd al af=>af
 have ou:=(bz _ (by omega) (by omega)).trans gE
 have vX:∀{g:J} {aD:dd},dP (λd=>F d\/h.n<=d) g p q aD->dP F g p q aD:=λH0=>H0.move (Nat.le_refl _) (λ_ _ _=>rfl) λ_ _ af=>.inl af
 have Ib:j4 F h g1:=⟨by omega,λd al _=>(bz d (by omega) (by omega)).trans (fM.get d al)⟩
 cases ab:cl a with
 |none=>
  rw[ab] at c1
  have e:gm cl a b s=(0,6,s):=by unfold gm;rw[ab]
  rw[e]
  refine⟨g1,call (r:=6) (n:=0) (g:=g1) ?_ (λ_=>⟨rfl,rfl⟩) (λay=>by omega),vX cK,Ib⟩
  rw[el] at gE⊢
  exact⟨gE,0,eK,aK,.inr ⟨rfl,gE,6,g1,c1,.inl ⟨by omega,rfl,rfl⟩⟩⟩
 |some c=>
  rw[ab] at c1 bl
  obtain⟨g2,c2,m2,bZ,a2⟩:=vR m c9 (h:=g1) (c:=h.n+3) (a:=h.n+1) (s:=b) (by omega) pH (ld1 ((bz _ (by omega) (by omega)).trans l1) rfl) ((bz _ (by omega) (by omega)).trans cE) ⟨by omega,by omega⟩
  have rT:=(bZ _ (by omega) (by omega)).trans ou
  have cf:dP (λd=>F d\/h.n<=d) g2 p q s:=cK.move m2 (λd al af=>bZ d al λe=>af (.inr (by omega))) λd al af=>af
  have Ic:j4 F h g2:=⟨by omega,λd al hf=>(bZ d (by omega) (by omega)).trans (Ib.get d al hf)⟩
  cases al:cl b with
  |none=>
   rw[al] at c2
   have e:gm cl a b s=(0,6,s):=by unfold gm;rw[ab];simp only[al]
   rw[e]
   refine⟨g2,call (r:=6) (n:=0) (g:=g2) ?_ (λ_=>⟨rfl,rfl⟩) (λay=>by omega),vX cf,Ic⟩
   rw[el] at gE ou⊢
   exact⟨gE,0,eK,aK,.inr ⟨rfl,gE,0,g1,c1,.inr ⟨rfl,ou,6,g2,c2,.inl ⟨by omega,rfl,rfl⟩⟩⟩⟩
  |some d=>
   rw[al] at c2 a2
   have up:∀z,z<h.n+12->h.n+1<z->g2.get z=dB.get z:=λz h1 aa=>(bZ _ (by omega) (by omega)).trans ((bz _ (by omega) (by omega)).trans (H7 _ h1))
   have y0:∀z,z<h.n+8->h.n+1<z->g2.get z=bA.get z:=λz h1 aa=>(up z (by omega) aa).trans (H6 _ (by omega))
   have Ie:g2.get h.n=some (av [.str c] 9):=(bZ _ (by omega) (by omega)).trans bl
   obtain⟨g3,c3,gk⟩:=yS m (h:=g2) (c0:=h.n+4) (c1:=h.n+4+1) (c2:=h.n+4+2) (c3:=h.n+4+3) (a:=h.n) (e:=5) (b:=true) (t:=c) cf (ld1 ((y0 _ (by omega) (by omega)).trans yY) rfl) (ld1 ((y0 _ (by omega) (by omega)).trans s1) rfl) (ld1 ((y0 _ (by omega) (by omega)).trans s2) rfl) (ld1 ((y0 _ (by omega) (by omega)).trans bw) rfl) (ld1 Ie rfl) ⟨by omega,by omega,by omega,by omega,by omega⟩
   have m3:=gk.n
   have vY:=(gk.get _ (by omega)).trans rT
   have hD:=cf.ext gk
   have Ig:j4 F h g3:=⟨by omega,λz aL hf=>(gk.get z (by omega)).trans (Ic.get z aL hf)⟩
   cases aj:da s.aP c with
   |none=>
    rw[aj] at c3
    have e:gm cl a b s=(0,5,s):=by unfold gm;rw[ab];simp only[al,aj]
    rw[e]
    refine⟨g3,call (r:=5) (n:=0) (g:=g3) ?_ (λ_=>⟨rfl,rfl⟩) (λay=>by omega),vX hD,Ig⟩
    rw[el] at gE ou rT⊢
    exact⟨gE,0,eK,aK,.inr ⟨rfl,gE,0,g1,c1,.inr ⟨rfl,ou,0,g2,c2,.inr ⟨rfl,rT,5,g3,c3,.inl ⟨by omega,rfl,rfl⟩⟩⟩⟩⟩
   |some f=>
    rw[aj] at c3
    obtain⟨g4,fu,hp⟩:=yS m (h:=g3) (c0:=h.n+4+4) (c1:=h.n+4+4+1) (c2:=h.n+4+4+2) (c3:=h.n+4+4+3) (a:=h.n+1) (e:=14) (b:=false) (t:=d) hD (ld1 ((gk.get _ (by omega)).trans ((up _ (by omega) (by omega)).trans t0)) rfl) (ld1 ((gk.get _ (by omega)).trans ((up _ (by omega) (by omega)).trans t1)) rfl) (ld1 ((gk.get _ (by omega)).trans ((up _ (by omega) (by omega)).trans t2)) rfl) (ld1 ((gk.get _ (by omega)).trans ((up _ (by omega) (by omega)).trans t3)) rfl) (ld1 ((gk.get _ (by omega)).trans a2) rfl) ⟨by omega,by omega,by omega,by omega,by omega⟩
    have m4:=hp.n
    have Ih:=(hp.get _ (by omega)).trans vY
    have mC:=hD.ext hp
    have Ii:j4 F h g4:=⟨by omega,λz aL hf=>(hp.get z (by omega)).trans (Ig.get z aL hf)⟩
    cases dN:da s.aP d with
    |some fd=>
     rw[dN] at fu
     have e:gm cl a b s=(0,14,s):=by unfold gm;rw[ab];simp only[al,aj,dN];rfl
     rw[e]
     refine⟨g4,call (r:=14) (n:=0) (g:=g4) ?_ (λ_=>⟨rfl,rfl⟩) (λay=>by omega),vX mC,Ii⟩
     rw[el] at gE ou rT vY⊢
     exact⟨gE,0,eK,aK,.inr ⟨rfl,gE,0,g1,c1,.inr ⟨rfl,ou,0,g2,c2,.inr ⟨rfl,rT,0,g3,c3,.inr ⟨rfl,vY,14,g4,fu,.inl ⟨by omega,rfl,rfl⟩⟩⟩⟩⟩⟩
    |none=>
     rw[dN] at fu
     have e:gm cl a b s=((fq d f.x (dT c s)).1,0,(fq d f.x (dT c s)).2):=by unfold gm;rw[ab];simp only[al,aj,dN];rfl
     rw[e]
     have Ur:f.x.length<=1000000:=by
      have h1:=vM ok.du c
      have aa:dJ s.aP c=f.x.length:=by unfold dJ;rw[aj]
      have ao:=ok.bT
      rw[ao] at ad
      simp only[Int.ofNat_eq_natCast] at ad
      omega
     have Qz:=(yP ok c).1
     have xR:(dT c s).ej<=1000000000:=by
      show s.ej-Int.ofNat (dJ s.aP c)<=_
      simp only[Int.ofNat_eq_natCast];omega
     obtain⟨g5,Cw,nB,jr⟩:=Hx (m+1) (a:=c) mC ok (by omega) aj
     obtain⟨g6,gV,j5,fT⟩:=HE (m+1) (a:=d) (t:=f.x) nB Qz xR (by omega) (by show de s.ts d<=_;have:=bd d;omega)
     have m5:=jr.n
     refine⟨g6,call (r:=0) (g:=g4) ?_ (λay=>absurd rfl ay) (λ_=>⟨c,f.x,d,g5,ld1 ((hp.get _ (by omega)).trans ((gk.get _ (by omega)).trans Ie)) rfl,Cw,ld1 ((jr.get _ (by omega) (.inr (by omega))).trans ((hp.get _ (by omega)).trans ((gk.get _ (by omega)).trans a2))) rfl,gV⟩),vX j5,⟨by have:=fT.n;omega,λz aL hf=>(fT.get z (by omega) (.inl hf)).trans ((jr.get z (by omega) (.inl hf)).trans (Ii.get z aL hf))⟩⟩
     rw[el] at gE ou rT vY Ih⊢
     exact⟨gE,0,eK,aK,.inr ⟨rfl,gE,0,g1,c1,.inr ⟨rfl,ou,0,g2,c2,.inr ⟨rfl,rT,0,g3,c3,.inr ⟨rfl,vY,0,g4,fu,.inr ⟨rfl,Ih,rfl,rfl⟩⟩⟩⟩⟩⟩
end Go.Proofs.h3
