/-
  PROVED HERE: contracts of functions (Dd). No condition beside each statement's own.
-/
import Derived.Test.YtlelojncabdnoaaDoorDc
set_option linter.unusedVariables false
set_option linter.unusedSimpArgs false
set_option maxRecDepth 100000
set_option maxHeartbeats 1000000
namespace Go.Proofs.hD
open Go aS Go.Proofs
variable {Q:aU->aB->Prop} {R:bM->Prop}
def gL(cl:bf->Option bf)(a t:bf)(s:cj):Nat×Nat×cj:=match cl a with
 |none=>(0,6,s)
 |some c=>if t.length<=4096 then(if iq c t s=true then((fg c t s).1,0,(fg c t s).2) else(0,7,s)) else(0,3,s)
theorem RT(m:Nat){cl:bf->Option bf}(dt:uy cl){F:Nat->Prop}{h:J}{p:Nat}{q:cT}{s:cj}{a t:bf}(hm:30<=m)(w:dL F h p q s)(ok:ir s)(ae:s.e1<=1000000)(ar:t.length<=1000000)(eH:a.length<=10000)(bk:∀c,cE s.ts c<=1000000)(kh:∀d,F d->d<h.n):
  ∃g,Y (m+1) (.fn 9) [.ptr p 0,.str a,.str t] h=.ret (.aF [aK (gL cl a t s).1,ai (gL cl a t s).2.1]) g/\dL F g p q (gL cl a t s).2.2/\jh F h g:=by
 obtain⟨m,rfl⟩:∃k,m=k+2:=⟨m-2,by omega⟩
 have Di:p<h.n:=by obtain⟨m1,m2,d1,d2,dF,A,T,w,_⟩:=w;exact w.up.1
 obtain⟨h1,h0⟩:∃x,x=h.push (ay [.str a] 9):=⟨_,rfl⟩
 obtain⟨aa,h2⟩:∃x,x=h1.push (ay [.str t] 9):=⟨_,rfl⟩
 have aE:h1.n=h.n+1:=by rw[h0];rfl
 have a_:aa.n=h.n+2:=by rw[h2];show h1.n+1=_;omega
 have ea:aa.get h.n=some (ay [.str a] 9):=by rw[h2];refine ch (by omega) ?_;rw[h0];exact c8 rfl
 have t2:aa.get (h.n+1)=some (ay [.str t] 9):=by rw[h2,<-aE];exact c8 rfl
 have cD:Ext h.n h aa:=by rw[h2];refine Ext.qt (by omega) ?_;rw[h0];exact Ext.push (Nat.le_refl _) _
 obtain⟨ao,gU⟩:∃x,x=(aa.room 10).push (ay [.ptr h.n 0] 69):=⟨_,rfl⟩
 have Dj:(aa.room 10).n=h.n+12:=by show aa.n+10=_;omega
 have bZ:ao.n=h.n+13:=by rw[gU];show(aa.room 10).n+1=_;omega
 have jB:∀d,d<h.n+2->ao.get d=aa.get d:=λd ak=>by rw[gU];exact ch (by omega) rfl
 have fT:ao.get (h.n+12)=some (ay [.ptr h.n 0] 69):=by rw[gU,<-Dj];exact c8 rfl
 have iM:=w2 (m+1) h.n (aa.room 10)
 rw[<-gU,Dj] at iM
 obtain⟨aI,lz⟩:∃x,x=((ao.push (ay [.ptr p 0] 26)).push (ay [.ptr h.n 0] 69)).push (ay [.str t] 9):=⟨_,rfl⟩
 have cG:aI.n=h.n+16:=by rw[lz];show ao.n+1+1+1=_;omega
 have zL:∀d,d<h.n+13->aI.get d=ao.get d:=λd ak=>by
  rw[lz]
  refine ch (by show d<ao.n+1+1;omega) (ch (by show d<ao.n+1;omega) (ch (by omega) rfl))
 have dm:aI.get (h.n+13)=some (ay [.ptr p 0] 26):=by
  rw[lz]
  refine ch (by show _<ao.n+1+1;omega) (ch (by show _<ao.n+1;omega) ?_)
  rw[<-bZ];exact c8 rfl
 have hN:aI.get (h.n+14)=some (ay [.ptr h.n 0] 69):=by
  rw[lz]
  refine ch (by show _<ao.n+1+1;omega) ?_
  exact c8 (by show _=ao.n+1;omega)
 have Dk:aI.get (h.n+15)=some (ay [.str t] 9):=by
  rw[lz]
  exact c8 (by show _=ao.n+1+1;omega)
 have Dl:=RS (m+1) p h.n t ao
 rw[<-lz,bZ] at Dl
 obtain⟨l,el⟩:∃l:List (I×Nat×List I),l=[(.fn 28 [.ptr p 0] [],28,[.ptr p 0]),(.fn 44 [] [.ptr (h.n+12) 0],44,[.ptr (h.n+12) 0]),(.fn 26 [] [.ptr (h.n+1) 0],26,[.ptr (h.n+1) 0]),(.fn 46 [] [.ptr (h.n+13) 0,.ptr (h.n+14) 0,.ptr (h.n+15) 0],46,[.ptr (h.n+13) 0,.ptr (h.n+14) 0,.ptr (h.n+15) 0])]:=⟨_,rfl⟩
 obtain⟨bl,ji⟩:∃x,x=aI.set (h.n+9) (some (ay (l.map (·.1)) 66)):=⟨_,rfl⟩
 have eg:bl.n=h.n+16:=by rw[ji];exact cG
 have iP:∀d,d≠h.n+9->bl.get d=aI.get d:=λd ak=>by rw[ji];exact c9 ak rfl
 have fm:bl.get (h.n+9)=some (ay (l.map (·.1)) 66):=by rw[ji];exact e8 rfl
 have hh:Ext h.n h bl:=⟨by omega,λd ak=>(iP d (by omega)).trans ((zL d (by omega)).trans ((jB d (by omega)).trans (cD.get d ak)))⟩
 have w3:bl.get h.n=some (ay [.str a] 9):=(iP _ (by omega)).trans ((zL _ (by omega)).trans ((jB _ (by omega)).trans ea))
 have RU:bl.get (h.n+1)=some (ay [.str t] 9):=(iP _ (by omega)).trans ((zL _ (by omega)).trans ((jB _ (by omega)).trans t2))
 have aT:=zJ m p bl
 obtain⟨g6,h3,n6,gQ,jy⟩:=w1 m dt (h:=bl) (c:=h.n+12) (a:=h.n) (s:=a) (by omega) eH (ld1 ((iP _ (by omega)).trans ((zL _ (by omega)).trans fT)) rfl) w3 ⟨by omega,by omega⟩
 have pt:∀{r:Nat} {g:J},ki (m+1) (h.n+9) (some (ay (l.map (·.1)) 66)) l bl r g->Y (m+2) (.fn 27) [.slice (h.n+9) 0 4 (.exact 4)] bl=.ret (ai r) g:=λ{r g} aQ=>by
  have sQ:l.length=4:=by rw[el];rfl
  have:=zI (m+1) (h.n+9) (cp:=.exact 4) aQ (λx U=>by
   rw[el] at U
   simp only[List.mem_cons,List.not_mem_nil,or_false] at U
   rcases U with rfl|rfl|rfl|rfl
   · exact .inl ⟨p,rfl,rfl⟩
   · exact .inr rfl
   · exact .inr rfl
   · exact .inr rfl) (by omega)
  rw[sQ] at this
  exact this
 have iu:g6.get (h.n+9)=some (ay (l.map (·.1)) 66):=(gQ _ (by omega) (by omega)).trans fm
 have I5:g6.get (h.n+1)=some (ay [.str t] 9):=(gQ _ (by omega) (by omega)).trans RU
 have jC:dL (λd=>F d\/h.n<=d) bl p q s:=w.move hh.n (λd ak _=>hh.get d ak) λd ak af=>by
  rcases af with af|af
  · exact af
  · omega
 have kj:dL F g6 p q s:=jC.move n6 (λd ak af=>gQ d ak λe=>af (.inr (by omega))) λd ak af=>.inl af
 have oB:jh F h g6:=⟨by omega,λd ak _=>(gQ d (by omega) (by omega)).trans (hh.get d ak)⟩
 have done:∀{r:Nat} {g:J},r≠0->ki (m+1) (h.n+9) (some (ay (l.map (·.1)) 66)) l bl r g->Y (m+3) (.fn 9) [.ptr p 0,.str a,.str t] h=.ret (.aF [aK 0,ai r]) g:=λ{r g} aj aQ=>by
  refine I3 (m+2) p 44 46 [.ptr (h.n+12) 0] [.ptr (h.n+13) 0,.ptr (h.n+14) 0,.ptr (h.n+15) 0] a t h (R:=λy=>y=.ret (.aF [aK 0,ai r]) g) ?_
  rw[<-h0,<-h2,aE,a_]
  refine⟨ao,iM,t,ld1 ((jB _ (by omega)).trans t2) rfl,aI,Dl,r,g,?_,ld1 (h:=aa.room 10) t2 rfl,λaA=>absurd aA aj,λ_=>rfl⟩
  have:=pt aQ
  rw[ji,el] at this
  exact this
 have Dm:∀{r:Nat},gL cl a t s=(0,r,s)->r≠0->(∃g,ki (m+1) (h.n+9) (some (ay (l.map (·.1)) 66)) l bl r g/\dL F g p q s/\jh F h g)->∃g,Y (m+3) (.fn 9) [.ptr p 0,.str a,.str t] h=.ret (.aF [aK (gL cl a t s).1,ai (gL cl a t s).2.1]) g/\dL F g p q (gL cl a t s).2.2/\jh F h g:=λ{r} e aj an=>by
  obtain⟨g,h1,aa,ao⟩:=an
  rw[e]
  exact⟨g,done aj h1,aa,ao⟩
 cases ab:cl a with
 |none=>
  rw[ab] at h3
  refine Dm (r:=6) (by unfold gL;rw[ab]) (by omega) ⟨g6,?_,kj,oB⟩
  rw[el]
  rw[el] at fm
  exact⟨fm,0,bl,aT,.inr ⟨rfl,fm,6,g6,h3,.inl ⟨by omega,rfl,rfl⟩⟩⟩
 |some c=>
  rw[ab] at h3 jy
  have bP:=RR m (h.n+1) (h:=g6) (t:=t) (ld1 I5 rfl)
  by_cases hlen:t.length<=4096
  · rw[if_pos hlen] at bP
    have RV:g6.get (h.n+13)=some (ay [.ptr p 0] 26):=(gQ _ (by omega) (by omega)).trans ((iP _ (by omega)).trans dm)
    have RW:g6.get (h.n+14)=some (ay [.ptr h.n 0] 69):=(gQ _ (by omega) (by omega)).trans ((iP _ (by omega)).trans hN)
    have RX:g6.get (h.n+15)=some (ay [.str t] 9):=(gQ _ (by omega) (by omega)).trans ((iP _ (by omega)).trans Dk)
    obtain⟨g7,lA,hP⟩:=RH m (h:=g6) (c0:=h.n+13) (c1:=h.n+14) (c2:=h.n+15) (a:=h.n) (t:=t) (u:=c) kj ok (by omega) (by omega) (ld1 RV rfl) (ld1 RW rfl) (ld1 RX rfl) (ld1 jy rfl) ⟨by omega,by omega,by omega,by omega⟩
    have n7:=hP.n
    have hl:=(hP.get _ (by omega)).trans iu
    have oC:=kj.ext hP
    have pv:jh F h g7:=⟨by have:=oB.n;omega,λd ak hf=>(hP.get d (by have:=oB.n;omega)).trans (oB.get d ak hf)⟩
    by_cases aj:iq c t s=true
    · rw[if_pos aj] at lA
      have aQ:ki (m+1) (h.n+9) (some (ay (l.map (·.1)) 66)) l bl 0 g7:=by
       rw[el] at fm iu hl⊢
       exact⟨fm,0,bl,aT,.inr ⟨rfl,fm,0,g6,h3,.inr ⟨rfl,iu,0,g6,bP,.inr ⟨rfl,iu,0,g7,lA,.inr ⟨rfl,hl,rfl,rfl⟩⟩⟩⟩⟩
      obtain⟨g8,Dn,gV,w4⟩:=IL (m+1) (a:=c) (t:=t) oC ok (by omega) (by omega) (by have:=bk c;omega)
      have e:gL cl a t s=((fg c t s).1,0,(fg c t s).2):=by unfold gL;rw[ab];simp only[if_pos hlen,if_pos aj]
      rw[e]
      refine⟨g8,?_,gV,⟨by have:=pv.n;have:=w4.n;omega,λd ak hf=>(w4.get d (by have:=pv.n;omega) hf).trans (pv.get d ak hf)⟩⟩
      refine I3 (m+2) p 44 46 [.ptr (h.n+12) 0] [.ptr (h.n+13) 0,.ptr (h.n+14) 0,.ptr (h.n+15) 0] a t h (R:=λy=>y=.ret (.aF [aK (fg c t s).1,ai 0]) g8) ?_
      rw[<-h0,<-h2,aE,a_]
      refine⟨ao,iM,t,ld1 ((jB _ (by omega)).trans t2) rfl,aI,Dl,0,g7,?_,ld1 (h:=aa.room 10) t2 rfl,λ_=>⟨c,ld1 ((hP.get _ (by omega)).trans jy) rfl,t,ld1 ((hP.get _ (by omega)).trans I5) rfl,(fg c t s).1,g8,Dn,rfl⟩,λaA=>absurd rfl aA⟩
      have:=pt aQ
      rw[ji,el] at this
      exact this
    · rw[if_neg aj] at lA
      refine Dm (r:=7) (by unfold gL;rw[ab];simp only[if_pos hlen,if_neg aj]) (by omega) ⟨g7,?_,oC,pv⟩
      rw[el] at fm iu⊢
      exact⟨fm,0,bl,aT,.inr ⟨rfl,fm,0,g6,h3,.inr ⟨rfl,iu,0,g6,bP,.inr ⟨rfl,iu,7,g7,lA,.inl ⟨by omega,rfl,rfl⟩⟩⟩⟩⟩
  · rw[if_neg hlen] at bP
    refine Dm (r:=3) (by unfold gL;rw[ab];simp only[if_neg hlen]) (by omega) ⟨g6,?_,kj,oB⟩
    rw[el] at fm iu⊢
    exact⟨fm,0,bl,aT,.inr ⟨rfl,fm,0,g6,h3,.inr ⟨rfl,iu,3,g6,bP,.inl ⟨by omega,rfl,rfl⟩⟩⟩⟩
def iQ(cl:bf->Option bf)(a:bf)(s:cj):Nat×cj:=match cl a with
 |none=>(6,s)
 |some c=>match cM s.ax c with
  |none=>(5,s)
  |some _=>(0,d_ c s)
theorem RY(m:Nat){cl:bf->Option bf}(dt:uy cl){F:Nat->Prop}{h:J}{p:Nat}{q:cT}{s:cj}{a:bf}(hm:30<=m)(w:dL F h p q s)(ok:ir s)(ae:s.e1<=1000000)(eH:a.length<=10000)(kh:∀d,F d->d<h.n):
  ∃g,Y (m+1) (.fn 12) [.ptr p 0,.str a] h=.ret (ai (iQ cl a s).1) g/\dL F g p q (iQ cl a s).2/\jh F h g:=by
 obtain⟨m,rfl⟩:∃k,m=k+2:=⟨m-2,by omega⟩
 have Di:p<h.n:=by obtain⟨m1,m2,d1,d2,dF,A,T,w,_⟩:=w;exact w.up.1
 obtain⟨h1,h0⟩:∃x,x=h.push (ay [.str a] 9):=⟨_,rfl⟩
 have aE:h1.n=h.n+1:=by rw[h0];rfl
 have dH:h1.get h.n=some (ay [.str a] 9):=by rw[h0];exact c8 rfl
 have cH:Ext h.n h h1:=by rw[h0];exact Ext.push (Nat.le_refl _) _
 obtain⟨aa,h2⟩:∃x,x=h1.push (ay [.ptr h.n 0] 69):=⟨_,rfl⟩
 have a_:aa.n=h.n+2:=by rw[h2];show h1.n+1=_;omega
 have oA:∀d,d<h.n+1->aa.get d=h1.get d:=λd ak=>by rw[h2];exact ch (by omega) rfl
 have cn:aa.get (h.n+1)=some (ay [.ptr h.n 0] 69):=by rw[h2,<-aE];exact c8 rfl
 have iM:=w2 (m+1) h.n h1
 rw[<-h2,aE] at iM
 obtain⟨ao,gU⟩:∃x,x=(((aa.push (ay [.ptr p 0] 26)).push (ay [.ptr h.n 0] 69)).push (ay [.bool true] 4)).push (ay [ai 5] 34):=⟨_,rfl⟩
 have bZ:ao.n=h.n+6:=by rw[gU];show aa.n+1+1+1+1=_;omega
 have jB:∀d,d<h.n+2->ao.get d=aa.get d:=λd ak=>by
  rw[gU]
  refine ch (by show d<aa.n+1+1+1;omega) (ch (by show d<aa.n+1+1;omega) (ch (by show d<aa.n+1;omega) (ch (by omega) rfl)))
 have bH:ao.get (h.n+2)=some (ay [.ptr p 0] 26):=by
  rw[gU]
  refine ch (by show _<aa.n+1+1+1;omega) (ch (by show _<aa.n+1+1;omega) (ch (by show _<aa.n+1;omega) ?_))
  rw[<-a_];exact c8 rfl
 have dv:ao.get (h.n+3)=some (ay [.ptr h.n 0] 69):=by
  rw[gU]
  refine ch (by show _<aa.n+1+1+1;omega) (ch (by show _<aa.n+1+1;omega) ?_)
  exact c8 (by show _=aa.n+1;omega)
 have dm:ao.get (h.n+4)=some (ay [.bool true] 4):=by
  rw[gU]
  refine ch (by show _<aa.n+1+1+1;omega) ?_
  exact c8 (by show _=aa.n+1+1;omega)
 have hN:ao.get (h.n+5)=some (ay [ai 5] 34):=by
  rw[gU]
  exact c8 (by show _=aa.n+1+1+1;omega)
 have uz:=zK (m+1) p h.n 5 true aa
 rw[<-gU,a_] at uz
 obtain⟨l,el⟩:∃l:List (I×Nat×List I),l=[(.fn 28 [.ptr p 0] [],28,[.ptr p 0]),(.fn 44 [] [.ptr (h.n+1) 0],44,[.ptr (h.n+1) 0]),(.fn 47 [] [.ptr (h.n+2) 0,.ptr (h.n+3) 0,.ptr (h.n+4) 0,.ptr (h.n+5) 0],47,[.ptr (h.n+2) 0,.ptr (h.n+3) 0,.ptr (h.n+4) 0,.ptr (h.n+5) 0])]:=⟨_,rfl⟩
 obtain⟨bl,ji⟩:∃x,x=ao.push (ay (l.map (·.1)) 66):=⟨_,rfl⟩
 have eg:bl.n=h.n+7:=by rw[ji];show ao.n+1=_;omega
 have iP:∀d,d<h.n+6->bl.get d=ao.get d:=λd ak=>by rw[ji];exact ch (by omega) rfl
 have fm:bl.get (h.n+6)=some (ay (l.map (·.1)) 66):=by rw[ji,<-bZ];exact c8 rfl
 have hh:Ext h.n h bl:=⟨by omega,λd ak=>(iP d (by omega)).trans ((jB d (by omega)).trans ((oA d (by omega)).trans (cH.get d ak)))⟩
 have w3:bl.get h.n=some (ay [.str a] 9):=(iP _ (by omega)).trans ((jB _ (by omega)).trans ((oA _ (by omega)).trans dH))
 have aT:=zJ m p bl
 obtain⟨g6,h3,n6,gQ,jy⟩:=w1 m dt (h:=bl) (c:=h.n+1) (a:=h.n) (s:=a) (by omega) eH (ld1 ((iP _ (by omega)).trans ((jB _ (by omega)).trans cn)) rfl) w3 ⟨by omega,by omega⟩
 have pt:∀{r:Nat} {g:J},ki (m+1) (h.n+6) (some (ay (l.map (·.1)) 66)) l bl r g->Y (m+2) (.fn 27) [.slice (h.n+6) 0 3 (.exact 3)] bl=.ret (ai r) g:=λ{r g} aQ=>by
  have sQ:l.length=3:=by rw[el];rfl
  have:=zI (m+1) (h.n+6) (cp:=.exact 3) aQ (λx U=>by
   rw[el] at U
   simp only[List.mem_cons,List.not_mem_nil,or_false] at U
   rcases U with rfl|rfl|rfl
   · exact .inl ⟨p,rfl,rfl⟩
   · exact .inr rfl
   · exact .inr rfl) (by omega)
  rw[sQ] at this
  exact this
 have iu:g6.get (h.n+6)=some (ay (l.map (·.1)) 66):=(gQ _ (by omega) (by omega)).trans fm
 have jC:dL (λd=>F d\/h.n<=d) bl p q s:=w.move hh.n (λd ak _=>hh.get d ak) λd ak af=>by
  rcases af with af|af
  · exact af
  · omega
 have kj:dL F g6 p q s:=jC.move n6 (λd ak af=>gQ d ak λe=>af (.inr (by omega))) λd ak af=>.inl af
 have oB:jh F h g6:=⟨by omega,λd ak _=>(gQ d (by omega) (by omega)).trans (hh.get d ak)⟩
 have call:∀{r r':Nat} {g ct:J},ki (m+1) (h.n+6) (some (ay (l.map (·.1)) 66)) l bl r g->(r=0->∃s1 s2,aO g h.n 0=some (.str s1)/\Y (m+2) (.fn 33) [.ptr p 0,.str s1] g=.ret (.str s2) ct)->(r≠0->ct=g)->r'=r->Y (m+3) (.fn 12) [.ptr p 0,.str a] h=.ret (ai r') ct:=λ{r r' g ct} aQ aA ft e=>by
  subst e
  refine RM (m+2) p 44 47 [.ptr (h.n+1) 0] [.ptr (h.n+2) 0,.ptr (h.n+3) 0,.ptr (h.n+4) 0,.ptr (h.n+5) 0] a h (R:=λy=>y=.ret (ai r') ct) ?_
  rw[<-h0]
  refine⟨aa,iM,ao,uz,r',g,?_,λaj=>?_,λaj=>by rw[ft aj]⟩
  · have:=pt aQ
    rw[ji,el] at this
    rw[bZ]
    exact this
  · obtain⟨s1,s2,bO,a2⟩:=aA aj
    exact⟨s1,bO,s2,ct,a2,rfl⟩
 cases ab:cl a with
 |none=>
  rw[ab] at h3
  have e:iQ cl a s=(6,s):=by unfold iQ;rw[ab]
  rw[e]
  refine⟨g6,call (r:=6) (g:=g6) ?_ (λaA=>by omega) (λ_=>rfl) rfl,kj,oB⟩
  rw[el] at fm⊢
  exact⟨fm,0,bl,aT,.inr ⟨rfl,fm,6,g6,h3,.inl ⟨by omega,rfl,rfl⟩⟩⟩
 |some c=>
  rw[ab] at h3 jy
  have up:∀d,d<h.n+6->h.n<d->g6.get d=ao.get d:=λd h1 aa=>(gQ _ (by omega) (by omega)).trans (iP _ h1)
  obtain⟨g7,lA,hP⟩:=zH m (h:=g6) (c0:=h.n+2) (c1:=h.n+3) (c2:=h.n+4) (c3:=h.n+5) (a:=h.n) (e:=5) (b:=true) (t:=c) kj (ld1 ((up _ (by omega) (by omega)).trans bH) rfl) (ld1 ((up _ (by omega) (by omega)).trans dv) rfl) (ld1 ((up _ (by omega) (by omega)).trans dm) rfl) (ld1 ((up _ (by omega) (by omega)).trans hN) rfl) (ld1 jy rfl) ⟨by omega,by omega,by omega,by omega,by omega⟩
  have n7:=hP.n
  have hl:=(hP.get _ (by omega)).trans iu
  have oC:=kj.ext hP
  have pv:jh F h g7:=⟨by have:=oB.n;omega,λd ak hf=>(hP.get d (by have:=oB.n;omega)).trans (oB.get d ak hf)⟩
  cases an:cM s.ax c with
  |none=>
   rw[an] at lA
   have e:iQ cl a s=(5,s):=by unfold iQ;rw[ab];simp only[an]
   rw[e]
   refine⟨g7,call (r:=5) (g:=g7) ?_ (λaA=>by omega) (λ_=>rfl) rfl,oC,pv⟩
   rw[el] at fm iu⊢
   exact⟨fm,0,bl,aT,.inr ⟨rfl,fm,0,g6,h3,.inr ⟨rfl,iu,5,g7,lA,.inl ⟨by omega,rfl,rfl⟩⟩⟩⟩
  |some f=>
   rw[an] at lA
   have e:iQ cl a s=(0,d_ c s):=by unfold iQ;rw[ab];simp only[an]
   rw[e]
   obtain⟨g8,Dn,gV,w4⟩:=IG (m+1) (a:=c) oC ok (by omega) an
   refine⟨g8,call (r:=0) (g:=g7) ?_ (λ_=>⟨c,f.x,ld1 ((hP.get _ (by omega)).trans jy) rfl,Dn⟩) (λaA=>absurd rfl aA) rfl,gV,⟨by have:=pv.n;have:=w4.n;omega,λd ak hf=>(w4.get d (by have:=pv.n;omega) hf).trans (pv.get d ak hf)⟩⟩
   rw[el] at fm iu hl⊢
   exact⟨fm,0,bl,aT,.inr ⟨rfl,fm,0,g6,h3,.inr ⟨rfl,iu,0,g7,lA,.inr ⟨rfl,hl,rfl,rfl⟩⟩⟩⟩
def eR(cl:bf->Option bf)(a:bf)(s:cj):bV×Nat:=match cl a with
 |none=>(⟨[],[],0⟩,6)
 |some c=>match cM s.ax c with
  |none=>(⟨[],[],0⟩,5)
  |some f=>(f,0)
theorem RZ{h:J}{b e:Nat}{cs:List I}(ar:aS.loadCells h b 0 3=some cs):hL al (bG Tryd.f11) Tryd.f11 [(4,.ptr b 0),(5,ai e)] h=some (.aF [.agg cs,ai e]):=by
 have av:Tryd.f11.results.toList=[ResultVar.cell 4 40,ResultVar.tmp 5]:=by kernel_rfl
 have au:Nat.testBit (bG Tryd.f11) 4=true:=by kernel_rfl
 have n0:Nat.testBit (bG Tryd.f11) 5=true:=by kernel_rfl
 have bm:jX al 40=some true:=by kernel_rfl
 have cN:cQ al 40=some 3:=by kernel_rfl
 have fE:c4 4 [(4,I.ptr b 0),(5,ai e)]=some (.ptr b 0):=rfl
 have nj:c4 5 [(4,I.ptr b 0),(5,ai e)]=some (ai e):=rfl
 have h8:aS.jP al (bG Tryd.f11) [(4,I.ptr b 0),(5,ai e)] h (ResultVar.cell 4 40)=some (.agg cs):=by
  unfold aS.jP
  simp only[au,bm,cN,fE,ar]
 have ra:aS.jP al (bG Tryd.f11) [(4,I.ptr b 0),(5,ai e)] h (ResultVar.tmp 5)=some (ai e):=by
  unfold aS.jP
  simp only[n0,nj]
 unfold hL
 rw[av]
 simp only[lK,h8,ra]
theorem R2(m:Nat){cl:bf->Option bf}(dt:uy cl){F:Nat->Prop}{h:J}{p:Nat}{q:cT}{s:cj}{a:bf}(hm:30<=m)(w:dL F h p q s)(eH:a.length<=10000)(kh:∀d,F d->d<h.n):
  ∃g,Y (m+1) (.fn 11) [.ptr p 0,.str a] h=.ret (.aF [.agg (cW (eR cl a s).1),ai (eR cl a s).2]) g/\dL F g p q s/\Ext h.n h g:=by
 obtain⟨m,rfl⟩:∃k,m=k+2:=⟨m-2,by omega⟩
 have Di:p<h.n:=by obtain⟨m1,m2,d1,d2,dF,A,T,w,_⟩:=w;exact w.up.1
 obtain⟨aA,w5⟩:∃x,x=h.push (ay [.str a] 9):=⟨_,rfl⟩
 have gx:aA.n=h.n+1:=by rw[w5];rfl
 obtain⟨h1,h0⟩:∃x,x=aA.push (ay [.str [],.str [],aK 0] 40):=⟨_,rfl⟩
 have aE:h1.n=h.n+2:=by rw[h0];show aA.n+1=_;omega
 have dH:h1.get h.n=some (ay [.str a] 9):=by rw[h0];refine ch (by omega) ?_;rw[w5];exact c8 rfl
 have bS:h1.get (h.n+1)=some (ay [.str [],.str [],aK 0] 40):=by rw[h0,<-gx];exact c8 rfl
 have cH:Ext h.n h h1:=by rw[h0];refine Ext.qt (by omega) ?_;rw[w5];exact Ext.push (Nat.le_refl _) _
 obtain⟨aa,h2⟩:∃x,x=h1.push (ay [.ptr h.n 0] 69):=⟨_,rfl⟩
 have a_:aa.n=h.n+3:=by rw[h2];show h1.n+1=_;omega
 have oA:∀d,d<h.n+2->aa.get d=h1.get d:=λd ak=>by rw[h2];exact ch (by omega) rfl
 have cn:aa.get (h.n+2)=some (ay [.ptr h.n 0] 69):=by rw[h2,<-aE];exact c8 rfl
 have iM:=w2 (m+1) h.n h1
 rw[<-h2,aE] at iM
 obtain⟨ao,gU⟩:∃x,x=(((aa.push (ay [.ptr p 0] 26)).push (ay [.ptr h.n 0] 69)).push (ay [.bool true] 4)).push (ay [ai 5] 34):=⟨_,rfl⟩
 have bZ:ao.n=h.n+7:=by rw[gU];show aa.n+1+1+1+1=_;omega
 have jB:∀d,d<h.n+3->ao.get d=aa.get d:=λd ak=>by
  rw[gU]
  refine ch (by show d<aa.n+1+1+1;omega) (ch (by show d<aa.n+1+1;omega) (ch (by show d<aa.n+1;omega) (ch (by omega) rfl)))
 have bH:ao.get (h.n+3)=some (ay [.ptr p 0] 26):=by
  rw[gU]
  refine ch (by show _<aa.n+1+1+1;omega) (ch (by show _<aa.n+1+1;omega) (ch (by show _<aa.n+1;omega) ?_))
  rw[<-a_];exact c8 rfl
 have dv:ao.get (h.n+4)=some (ay [.ptr h.n 0] 69):=by
  rw[gU]
  refine ch (by show _<aa.n+1+1+1;omega) (ch (by show _<aa.n+1+1;omega) ?_)
  exact c8 (by show _=aa.n+1;omega)
 have dm:ao.get (h.n+5)=some (ay [.bool true] 4):=by
  rw[gU]
  refine ch (by show _<aa.n+1+1+1;omega) ?_
  exact c8 (by show _=aa.n+1+1;omega)
 have hN:ao.get (h.n+6)=some (ay [ai 5] 34):=by
  rw[gU]
  exact c8 (by show _=aa.n+1+1+1;omega)
 have uz:=zK (m+1) p h.n 5 true aa
 rw[<-gU,a_] at uz
 obtain⟨l,el⟩:∃l:List (I×Nat×List I),l=[(.fn 28 [.ptr p 0] [],28,[.ptr p 0]),(.fn 44 [] [.ptr (h.n+2) 0],44,[.ptr (h.n+2) 0]),(.fn 47 [] [.ptr (h.n+3) 0,.ptr (h.n+4) 0,.ptr (h.n+5) 0,.ptr (h.n+6) 0],47,[.ptr (h.n+3) 0,.ptr (h.n+4) 0,.ptr (h.n+5) 0,.ptr (h.n+6) 0])]:=⟨_,rfl⟩
 obtain⟨bl,ji⟩:∃x,x=ao.push (ay (l.map (·.1)) 66):=⟨_,rfl⟩
 have eg:bl.n=h.n+8:=by rw[ji];show ao.n+1=_;omega
 have iP:∀d,d<h.n+7->bl.get d=ao.get d:=λd ak=>by rw[ji];exact ch (by omega) rfl
 have fm:bl.get (h.n+7)=some (ay (l.map (·.1)) 66):=by rw[ji,<-bZ];exact c8 rfl
 have hh:Ext h.n h bl:=⟨by omega,λd ak=>(iP d (by omega)).trans ((jB d (by omega)).trans ((oA d (by omega)).trans (cH.get d ak)))⟩
 have w3:bl.get h.n=some (ay [.str a] 9):=(iP _ (by omega)).trans ((jB _ (by omega)).trans ((oA _ (by omega)).trans dH))
 have R3:bl.get (h.n+1)=some (ay [.str [],.str [],aK 0] 40):=(iP _ (by omega)).trans ((jB _ (by omega)).trans ((oA _ (by omega)).trans bS))
 have aT:=zJ m p bl
 obtain⟨g6,h3,n6,gQ,jy⟩:=w1 m dt (h:=bl) (c:=h.n+2) (a:=h.n) (s:=a) (by omega) eH (ld1 ((iP _ (by omega)).trans ((jB _ (by omega)).trans cn)) rfl) w3 ⟨by omega,by omega⟩
 have pt:∀{r:Nat} {g:J},ki (m+1) (h.n+7) (some (ay (l.map (·.1)) 66)) l bl r g->Y (m+2) (.fn 27) [.slice (h.n+7) 0 3 (.exact 3)] bl=.ret (ai r) g:=λ{r g} aQ=>by
  have sQ:l.length=3:=by rw[el];rfl
  have:=zI (m+1) (h.n+7) (cp:=.exact 3) aQ (λx U=>by
   rw[el] at U
   simp only[List.mem_cons,List.not_mem_nil,or_false] at U
   rcases U with rfl|rfl|rfl
   · exact .inl ⟨p,rfl,rfl⟩
   · exact .inr rfl
   · exact .inr rfl) (by omega)
  rw[sQ] at this
  exact this
 have iu:g6.get (h.n+7)=some (ay (l.map (·.1)) 66):=(gQ _ (by omega) (by omega)).trans fm
 have I6:g6.get (h.n+1)=some (ay [.str [],.str [],aK 0] 40):=(gQ _ (by omega) (by omega)).trans R3
 have w6:Ext h.n h g6:=⟨by omega,λd ak=>(gQ d (by omega) (by omega)).trans (hh.get d ak)⟩
 have call:∀{r:Nat} {g ct:J} {f:bV},ki (m+1) (h.n+7) (some (ay (l.map (·.1)) 66)) l bl r g->g.get (h.n+1)=some (ay [.str [],.str [],aK 0] 40)->ct.get (h.n+1)=some (ay (cW f) 40)->(r=0->∃m1 s1,aO (g.room 8) p 5=some (.map m1)/\aO (g.room 8) h.n 0=some (.str s1)/\hF al (g.room 8) 57 (.map m1) (.str s1) false=some (.agg (cW f))/\ct=(g.room 8).set (h.n+1) (some (ay (cW f) 40)))->(r≠0->f=⟨[],[],0⟩/\ct=g.set (h.n+1) (some (ay (cW f) 40)))->Y (m+3) (.fn 11) [.ptr p 0,.str a] h=.ret (.aF [.agg (cW f),ai r]) ct:=λ{r g ct f} aQ aW R4 tj ft=>by
  refine tW (R:=λy=>y=.ret (.aF [.agg (cW f),ai r]) ct) (intr:=fl) (n:=m+2) (args:=[.ptr p 0,.str a]) Tryd.func11 (by kernel_rfl) (by kernel_rfl) (by kernel_rfl) (Q:=λe st=>e=.ret/\st=⟨[(4,.ptr (h.n+1) 0),(5,ai r)],[],.none,ct⟩) ?_ ?_
  rotate_left
  · rintro e st ⟨rfl,rfl⟩
    exact .inl ⟨.inl rfl,rfl,_,RZ (ih R4 rfl),rfl⟩
  have hW:∃m1,r=0->aO (g.room 8) p 5=some (.map m1):=by
   by_cases aj:r=0
   · obtain⟨m1,_,av,_⟩:=tj aj;exact⟨m1,λ_=>av⟩
   · exact⟨0,λe=>absurd e aj⟩
  by_cases aj:r=0
  · obtain⟨m1,s1,av,au,bm,cN⟩:=tj aj
    refine I4 (Y (m+2)) p 44 47 m1 [.ptr (h.n+2) 0] [.ptr (h.n+3) 0,.ptr (h.n+4) 0,.ptr (h.n+5) 0,.ptr (h.n+6) 0] a h ?_
    rw[<-w5,<-h0,gx]
    refine⟨aa,iM,ao,uz,r,g,?_,λ_=>⟨av,s1,au,f.p,f.x,f.n,bm,ct,by rw[cN];exact gI (h:=g.room 8) aW rfl rfl,rfl,by rw[aj]⟩,λh=>absurd aj h⟩
    have:=pt aQ
    rw[ji,el] at this
    rw[bZ]
    exact this
  · obtain⟨av,au⟩:=ft aj
    refine I4 (Y (m+2)) p 44 47 0 [.ptr (h.n+2) 0] [.ptr (h.n+3) 0,.ptr (h.n+4) 0,.ptr (h.n+5) 0,.ptr (h.n+6) 0] a h ?_
    rw[<-w5,<-h0,gx]
    refine⟨aa,iM,ao,uz,r,g,?_,λh=>absurd h aj,λ_=>⟨ct,by rw[au,av];exact gI aW rfl rfl,rfl,rfl⟩⟩
    have:=pt aQ
    rw[ji,el] at this
    rw[bZ]
    exact this
 have jC:dL (λd=>F d\/h.n<=d) bl p q s:=w.move hh.n (λd ak _=>hh.get d ak) λd ak af=>by
  rcases af with af|af
  · exact af
  · omega
 have kj:dL F g6 p q s:=jC.move n6 (λd ak af=>gQ d ak λe=>af (.inr (by omega))) λd ak af=>.inl af
 have iG:∀{g:J} {o:b8},dL F g p q s->Ext h.n h g->dL F (g.set (h.n+1) (some o)) p q s/\Ext h.n h (g.set (h.n+1) (some o)):=λ{g o} I7 uA=>by
  have R5:dL F (g.set (h.n+1) (some o)) p q s:=by
   have Bu:Ext h.n h (g.set (h.n+1) (some o)):=Ext.l3 (by omega) uA
   exact w.ext Bu
  exact⟨R5,Ext.l3 (by omega) uA⟩
 cases ab:cl a with
 |none=>
  rw[ab] at h3
  have e:eR cl a s=(⟨[],[],0⟩,6):=by unfold eR;rw[ab]
  rw[e]
  obtain⟨v1,v2⟩:=iG (o:=ay (cW ⟨[],[],0⟩) 40) kj w6
  refine⟨_,call (r:=6) (g:=g6) (f:=⟨[],[],0⟩) ?_ I6 (e8 rfl) (λaA=>by omega) (λ_=>⟨rfl,rfl⟩),v1,v2⟩
  rw[el] at fm⊢
  exact⟨fm,0,bl,aT,.inr ⟨rfl,fm,6,g6,h3,.inl ⟨by omega,rfl,rfl⟩⟩⟩
 |some c=>
  rw[ab] at h3 jy
  have up:∀d,d<h.n+7->h.n<d->g6.get d=ao.get d:=λd h1 aa=>(gQ _ (by omega) (by omega)).trans (iP _ h1)
  obtain⟨g7,lA,hP⟩:=zH m (h:=g6) (c0:=h.n+3) (c1:=h.n+4) (c2:=h.n+5) (c3:=h.n+6) (a:=h.n) (e:=5) (b:=true) (t:=c) kj (ld1 ((up _ (by omega) (by omega)).trans bH) rfl) (ld1 ((up _ (by omega) (by omega)).trans dv) rfl) (ld1 ((up _ (by omega) (by omega)).trans dm) rfl) (ld1 ((up _ (by omega) (by omega)).trans hN) rfl) (ld1 jy rfl) ⟨by omega,by omega,by omega,by omega,by omega⟩
  have n7:=hP.n
  have hl:=(hP.get _ (by omega)).trans iu
  have I8:=(hP.get _ (by omega)).trans I6
  have oC:=kj.ext hP
  have Dp:Ext h.n h g7:=w6.trans w6.n (hP.le (by omega))
  cases an:cM s.ax c with
  |none=>
   rw[an] at lA
   have e:eR cl a s=(⟨[],[],0⟩,5):=by unfold eR;rw[ab];simp only[an]
   rw[e]
   obtain⟨v1,v2⟩:=iG (o:=ay (cW ⟨[],[],0⟩) 40) oC Dp
   refine⟨_,call (r:=5) (g:=g7) (f:=⟨[],[],0⟩) ?_ I8 (e8 rfl) (λaA=>by omega) (λ_=>⟨rfl,rfl⟩),v1,v2⟩
   rw[el] at fm iu⊢
   exact⟨fm,0,bl,aT,.inr ⟨rfl,fm,0,g6,h3,.inr ⟨rfl,iu,5,g7,lA,.inl ⟨by omega,rfl,rfl⟩⟩⟩⟩
  |some f=>
   rw[an] at lA
   have e:eR cl a s=(f,0):=by unfold eR;rw[ab];simp only[an]
   rw[e]
   have zM:Ext h.n h (g7.room 8):=Dp.trans Dp.n (Ext.room _ _ _)
   obtain⟨v1,v2⟩:=iG (g:=g7.room 8) (o:=ay (cW f) 40) (w.ext zM) zM
   refine⟨_,call (r:=0) (g:=g7) (f:=f) ?_ I8 (e8 rfl) (λ_=>?_) (λaA=>absurd rfl aA),v1,v2⟩
   · rw[el] at fm iu hl⊢
     exact⟨fm,0,bl,aT,.inr ⟨rfl,fm,0,g6,h3,.inr ⟨rfl,iu,0,g7,lA,.inr ⟨rfl,hl,rfl,rfl⟩⟩⟩⟩
   · obtain⟨m1,m2,d1,d2,dF,A,T,wf,_,_,R6,_,_⟩:=oC
     obtain⟨ck,cn,XQ,c4,_,hk⟩:=Dh wf c
     rw[R6] at an
     obtain⟨bt,bA,eU⟩:=hk f an
     have:=c4 (g7.room 8) rfl false
     rw[bt,bA,eU] at this
     exact⟨m1,c,ld1 (h:=g7.room 8) wf.st rfl,ld1 (h:=g7.room 8) ((hP.get _ (by omega)).trans jy) rfl,this,rfl⟩
def gk(cl:bf->Option bf)(a b:bf)(s:cj):Nat×Nat×cj:=match cl a with
 |none=>(0,6,s)
 |some c=>match cl b with
  |none=>(0,6,s)
  |some d=>match cM s.ax c with
   |none=>(0,5,s)
   |some f=>if(cM s.ax d).isSome=true then(0,14,s) else((fg d f.x (d_ c s)).1,0,(fg d f.x (d_ c s)).2)
theorem I9{h ah:J}{p a e:Nat}{b:Bool}(AB:ah=(((h.push (ay [.ptr p 0] 26)).push (ay [.ptr a 0] 69)).push (ay [.bool b] 4)).push (ay [ai e] 34)):
  ah.n=h.n+4/\(∀d,d<h.n->ah.get d=h.get d)/\ah.get h.n=some (ay [.ptr p 0] 26)/\ah.get (h.n+1)=some (ay [.ptr a 0] 69)/\ah.get (h.n+2)=some (ay [.bool b] 4)/\ah.get (h.n+3)=some (ay [ai e] 34):=by
 rw[AB]
 refine⟨rfl,λd ak=>?_,?_,?_,?_,?_⟩
 · exact ch (by show d<h.n+1+1+1;omega) (ch (by show d<h.n+1+1;omega) (ch (by show d<h.n+1;omega) (ch (by omega) rfl)))
 · refine ch (by show _<h.n+1+1+1;omega) (ch (by show _<h.n+1+1;omega) (ch (by show _<h.n+1;omega) ?_))
   exact c8 rfl
 · refine ch (by show _<h.n+1+1+1;omega) (ch (by show _<h.n+1+1;omega) ?_)
   exact c8 rfl
 · refine ch (by show _<h.n+1+1+1;omega) ?_
   exact c8 rfl
 · exact c8 rfl
theorem R7(m:Nat){cl:bf->Option bf}(dt:uy cl){F:Nat->Prop}{h:J}{p:Nat}{q:cT}{s:cj}{a b:bf}(hm:30<=m)(w:dL F h p q s)(ok:ir s)(ae:s.e1<=1000000)(eH:a.length<=10000)(ox:b.length<=10000)(bk:∀c,cE s.ts c<=1000000)(kh:∀d,F d->d<h.n):
  ∃g,Y (m+1) (.fn 13) [.ptr p 0,.str a,.str b] h=.ret (.aF [aK (gk cl a b s).1,ai (gk cl a b s).2.1]) g/\dL F g p q (gk cl a b s).2.2/\jh F h g:=by
 obtain⟨m,rfl⟩:∃k,m=k+2:=⟨m-2,by omega⟩
 have Di:p<h.n:=by obtain⟨m1,m2,d1,d2,dF,A,T,w,_⟩:=w;exact w.up.1
 obtain⟨h1,h0⟩:∃x,x=h.push (ay [.str a] 9):=⟨_,rfl⟩
 obtain⟨aa,h2⟩:∃x,x=h1.push (ay [.str b] 9):=⟨_,rfl⟩
 obtain⟨ao,gU⟩:∃x,x=aa.push (ay [.ptr h.n 0] 69):=⟨_,rfl⟩
 obtain⟨aI,lz⟩:∃x,x=ao.push (ay [.ptr (h.n+1) 0] 69):=⟨_,rfl⟩
 obtain⟨bl,ji⟩:∃x,x=(((aI.push (ay [.ptr p 0] 26)).push (ay [.ptr h.n 0] 69)).push (ay [.bool true] 4)).push (ay [ai 5] 34):=⟨_,rfl⟩
 obtain⟨cg,I_⟩:∃x,x=(((bl.push (ay [.ptr p 0] 26)).push (ay [.ptr (h.n+1) 0] 69)).push (ay [.bool false] 4)).push (ay [ai 14] 34):=⟨_,rfl⟩
 have aE:h1.n=h.n+1:=by rw[h0];rfl
 have a_:aa.n=h.n+2:=by rw[h2];show h1.n+1=_;omega
 have bZ:ao.n=h.n+3:=by rw[gU];show aa.n+1=_;omega
 have cG:aI.n=h.n+4:=by rw[lz];show ao.n+1=_;omega
 obtain⟨eg,iP,Ja,s1,s2,bz⟩:=I9 ji
 obtain⟨n6,Jb,t0,t1,t2,t3⟩:=I9 I_
 rw[cG] at eg Ja s1 s2 bz
 rw[eg] at n6 t0 t1 t2 t3
 obtain⟨l,el⟩:∃l:List (I×Nat×List I),l=[(.fn 28 [.ptr p 0] [],28,[.ptr p 0]),(.fn 44 [] [.ptr (h.n+2) 0],44,[.ptr (h.n+2) 0]),(.fn 44 [] [.ptr (h.n+3) 0],44,[.ptr (h.n+3) 0]),(.fn 47 [] [.ptr (h.n+4) 0,.ptr (h.n+4+1) 0,.ptr (h.n+4+2) 0,.ptr (h.n+4+3) 0],47,[.ptr (h.n+4) 0,.ptr (h.n+4+1) 0,.ptr (h.n+4+2) 0,.ptr (h.n+4+3) 0]),(.fn 47 [] [.ptr (h.n+4+4) 0,.ptr (h.n+4+4+1) 0,.ptr (h.n+4+4+2) 0,.ptr (h.n+4+4+3) 0],47,[.ptr (h.n+4+4) 0,.ptr (h.n+4+4+1) 0,.ptr (h.n+4+4+2) 0,.ptr (h.n+4+4+3) 0])]:=⟨_,rfl⟩
 obtain⟨da,zN⟩:∃x,x=cg.push (ay (l.map (·.1)) 66):=⟨_,rfl⟩
 have n7:da.n=h.n+13:=by rw[zN];show cg.n+1=_;omega
 have Jc:∀d,d<h.n+12->da.get d=cg.get d:=λd ak=>by rw[zN];exact ch (by omega) rfl
 have hl:da.get (h.n+4+4+4)=some (ay (l.map (·.1)) 66):=by rw[zN,<-n6];exact c8 rfl
 have w7:∀d,d<h.n+4->da.get d=aI.get d:=λd ak=>(Jc d (by omega)).trans ((Jb d (by omega)).trans (iP d (by omega)))
 have kg:da.get (h.n+3)=some (ay [.ptr (h.n+1) 0] 69):=(w7 _ (by omega)).trans (by rw[lz,<-bZ];exact c8 rfl)
 have fT:da.get (h.n+2)=some (ay [.ptr h.n 0] 69):=(w7 _ (by omega)).trans (by rw[lz];refine ch (by omega) ?_;rw[gU,<-a_];exact c8 rfl)
 have cn:da.get (h.n+1)=some (ay [.str b] 9):=(w7 _ (by omega)).trans (by rw[lz];refine ch (by omega) ?_;rw[gU];refine ch (by omega) ?_;rw[h2,<-aE];exact c8 rfl)
 have ck:da.get h.n=some (ay [.str a] 9):=(w7 _ (by omega)).trans (by rw[lz];refine ch (by omega) ?_;rw[gU];refine ch (by omega) ?_;rw[h2];refine ch (by omega) ?_;rw[h0];exact c8 rfl)
 have hP:Ext h.n h da:=⟨by omega,λd ak=>(w7 d (by omega)).trans (by rw[lz];refine ch (by omega) ?_;rw[gU];refine ch (by omega) ?_;rw[h2];refine ch (by omega) ?_;rw[h0];exact ch (by omega) rfl)⟩
 have Jd:=w2 (m+1) h.n aa
 rw[<-gU,a_] at Jd
 have Je:=w2 (m+1) (h.n+1) ao
 rw[<-lz,bZ] at Je
 have Jf:=zK (m+1) p h.n 5 true aI
 rw[<-ji,cG] at Jf
 have Jg:=zK (m+1) p (h.n+1) 14 false bl
 rw[<-I_,eg] at Jg
 have aT:=zJ m p da
 have pt:∀{r:Nat} {g:J},ki (m+1) (h.n+4+4+4) (some (ay (l.map (·.1)) 66)) l da r g->Y (m+2) (.fn 27) [.slice (h.n+4+4+4) 0 5 (.exact 5)] da=.ret (ai r) g:=λ{r g} aQ=>by
  have sQ:l.length=5:=by rw[el];rfl
  have:=zI (m+1) (h.n+4+4+4) (cp:=.exact 5) aQ (λx U=>by
   rw[el] at U
   simp only[List.mem_cons,List.not_mem_nil,or_false] at U
   rcases U with rfl|rfl|rfl|rfl|rfl
   · exact .inl ⟨p,rfl,rfl⟩
   · exact .inr rfl
   · exact .inr rfl
   · exact .inr rfl
   · exact .inr rfl) (by omega)
  rw[sQ] at this
  exact this
 have call:∀{r n:Nat} {g ct:J},ki (m+1) (h.n+4+4+4) (some (ay (l.map (·.1)) 66)) l da r g->(r≠0->n=0/\ct=g)->(r=0->∃eF fG jT g6,aO g h.n 0=some (.str eF)/\Y (m+2) (.fn 33) [.ptr p 0,.str eF] g=.ret (.str fG) g6/\aO g6 (h.n+1) 0=some (.str jT)/\Y (m+2) (.fn 31) [.ptr p 0,.str jT,.str fG] g6=.ret (aK n) ct)->Y (m+3) (.fn 13) [.ptr p 0,.str a,.str b] h=.ret (.aF [aK n,ai r]) ct:=λ{r n g ct} aQ ft tj=>by
  refine RN (m+2) p 44 44 47 47 [.ptr (h.n+2) 0] [.ptr (h.n+3) 0] [.ptr (h.n+4) 0,.ptr (h.n+4+1) 0,.ptr (h.n+4+2) 0,.ptr (h.n+4+3) 0] [.ptr (h.n+4+4) 0,.ptr (h.n+4+4+1) 0,.ptr (h.n+4+4+2) 0,.ptr (h.n+4+4+3) 0] a b h (R:=λy=>y=.ret (.aF [aK n,ai r]) ct) ?_
  rw[<-h0,<-h2,aE]
  refine⟨ao,Jd,aI,Je,bl,Jf,cg,Jg,r,g,?_,λaj=>?_,λaj=>?_⟩
  · have:=pt aQ
    rw[zN,el] at this
    rw[n6]
    exact this
  · obtain⟨eF,fG,jT,g6,bO,a2,a3,a4⟩:=tj aj
    exact⟨eF,bO,fG,g6,a2,jT,a3,n,ct,a4,by rw[aj]⟩
  · obtain⟨av,au⟩:=ft aj
    rw[av,au]
 obtain⟨g1,c1,m1,bt,bO⟩:=w1 m dt (h:=da) (c:=h.n+2) (a:=h.n) (s:=a) (by omega) eH (ld1 fT rfl) ck ⟨by omega,by omega⟩
 have oC:dL (λd=>F d\/h.n<=d) da p q s:=w.move hP.n (λd ak _=>hP.get d ak) λd ak af=>by
  rcases af with af|af
  · exact af
  · omega
 have b5:dL (λd=>F d\/h.n<=d) g1 p q s:=oC.move m1 (λd ak af=>bt d ak λe=>af (.inr (by omega))) λd ak af=>af
 have pw:=(bt _ (by omega) (by omega)).trans hl
 have w8:∀{g:J} {aV:cj},dL (λd=>F d\/h.n<=d) g p q aV->dL F g p q aV:=λI7=>I7.move (Nat.le_refl _) (λ_ _ _=>rfl) λ_ _ af=>.inl af
 have Jh:jh F h g1:=⟨by omega,λd ak _=>(bt d (by omega) (by omega)).trans (hP.get d ak)⟩
 cases ab:cl a with
 |none=>
  rw[ab] at c1
  have e:gk cl a b s=(0,6,s):=by unfold gk;rw[ab]
  rw[e]
  refine⟨g1,call (r:=6) (n:=0) (g:=g1) ?_ (λ_=>⟨rfl,rfl⟩) (λaA=>by omega),w8 b5,Jh⟩
  rw[el] at hl⊢
  exact⟨hl,0,da,aT,.inr ⟨rfl,hl,6,g1,c1,.inl ⟨by omega,rfl,rfl⟩⟩⟩
 |some c=>
  rw[ab] at c1 bO
  obtain⟨g2,c2,m2,bA,a2⟩:=w1 m dt (h:=g1) (c:=h.n+3) (a:=h.n+1) (s:=b) (by omega) ox (ld1 ((bt _ (by omega) (by omega)).trans kg) rfl) ((bt _ (by omega) (by omega)).trans cn) ⟨by omega,by omega⟩
  have sR:=(bA _ (by omega) (by omega)).trans pw
  have bQ:dL (λd=>F d\/h.n<=d) g2 p q s:=b5.move m2 (λd ak af=>bA d ak λe=>af (.inr (by omega))) λd ak af=>af
  have Ji:jh F h g2:=⟨by omega,λd ak hf=>(bA d (by omega) (by omega)).trans (Jh.get d ak hf)⟩
  cases ak:cl b with
  |none=>
   rw[ak] at c2
   have e:gk cl a b s=(0,6,s):=by unfold gk;rw[ab];simp only[ak]
   rw[e]
   refine⟨g2,call (r:=6) (n:=0) (g:=g2) ?_ (λ_=>⟨rfl,rfl⟩) (λaA=>by omega),w8 bQ,Ji⟩
   rw[el] at hl pw⊢
   exact⟨hl,0,da,aT,.inr ⟨rfl,hl,0,g1,c1,.inr ⟨rfl,pw,6,g2,c2,.inl ⟨by omega,rfl,rfl⟩⟩⟩⟩
  |some d=>
   rw[ak] at c2 a2
   have up:∀z,z<h.n+12->h.n+1<z->g2.get z=cg.get z:=λz h1 aa=>(bA _ (by omega) (by omega)).trans ((bt _ (by omega) (by omega)).trans (Jc _ h1))
   have zO:∀z,z<h.n+8->h.n+1<z->g2.get z=bl.get z:=λz h1 aa=>(up z (by omega) aa).trans (Jb _ (by omega))
   have Jj:g2.get h.n=some (ay [.str c] 9):=(bA _ (by omega) (by omega)).trans bO
   obtain⟨g3,c3,ga⟩:=zH m (h:=g2) (c0:=h.n+4) (c1:=h.n+4+1) (c2:=h.n+4+2) (c3:=h.n+4+3) (a:=h.n) (e:=5) (b:=true) (t:=c) bQ (ld1 ((zO _ (by omega) (by omega)).trans Ja) rfl) (ld1 ((zO _ (by omega) (by omega)).trans s1) rfl) (ld1 ((zO _ (by omega) (by omega)).trans s2) rfl) (ld1 ((zO _ (by omega) (by omega)).trans bz) rfl) (ld1 Jj rfl) ⟨by omega,by omega,by omega,by omega,by omega⟩
   have m3:=ga.n
   have w9:=(ga.get _ (by omega)).trans sR
   have j6:=bQ.ext ga
   have Jk:jh F h g3:=⟨by omega,λz aW hf=>(ga.get z (by omega)).trans (Ji.get z aW hf)⟩
   cases an:cM s.ax c with
   |none=>
    rw[an] at c3
    have e:gk cl a b s=(0,5,s):=by unfold gk;rw[ab];simp only[ak,an]
    rw[e]
    refine⟨g3,call (r:=5) (n:=0) (g:=g3) ?_ (λ_=>⟨rfl,rfl⟩) (λaA=>by omega),w8 j6,Jk⟩
    rw[el] at hl pw sR⊢
    exact⟨hl,0,da,aT,.inr ⟨rfl,hl,0,g1,c1,.inr ⟨rfl,pw,0,g2,c2,.inr ⟨rfl,sR,5,g3,c3,.inl ⟨by omega,rfl,rfl⟩⟩⟩⟩⟩
   |some f=>
    rw[an] at c3
    obtain⟨g4,gG,kL⟩:=zH m (h:=g3) (c0:=h.n+4+4) (c1:=h.n+4+4+1) (c2:=h.n+4+4+2) (c3:=h.n+4+4+3) (a:=h.n+1) (e:=14) (b:=false) (t:=d) j6 (ld1 ((ga.get _ (by omega)).trans ((up _ (by omega) (by omega)).trans t0)) rfl) (ld1 ((ga.get _ (by omega)).trans ((up _ (by omega) (by omega)).trans t1)) rfl) (ld1 ((ga.get _ (by omega)).trans ((up _ (by omega) (by omega)).trans t2)) rfl) (ld1 ((ga.get _ (by omega)).trans ((up _ (by omega) (by omega)).trans t3)) rfl) (ld1 ((ga.get _ (by omega)).trans a2) rfl) ⟨by omega,by omega,by omega,by omega,by omega⟩
    have m4:=kL.n
    have Jl:=(kL.get _ (by omega)).trans w9
    have hX:=j6.ext kL
    have Jm:jh F h g4:=⟨by omega,λz aW hf=>(kL.get z (by omega)).trans (Jk.get z aW hf)⟩
    cases eb:cM s.ax d with
    |some fd=>
     rw[eb] at gG
     have e:gk cl a b s=(0,14,s):=by unfold gk;rw[ab];simp only[ak,an,eb];rfl
     rw[e]
     refine⟨g4,call (r:=14) (n:=0) (g:=g4) ?_ (λ_=>⟨rfl,rfl⟩) (λaA=>by omega),w8 hX,Jm⟩
     rw[el] at hl pw sR w9⊢
     exact⟨hl,0,da,aT,.inr ⟨rfl,hl,0,g1,c1,.inr ⟨rfl,pw,0,g2,c2,.inr ⟨rfl,sR,0,g3,c3,.inr ⟨rfl,w9,14,g4,gG,.inl ⟨by omega,rfl,rfl⟩⟩⟩⟩⟩⟩
    |none=>
     rw[eb] at gG
     have e:gk cl a b s=((fg d f.x (d_ c s)).1,0,(fg d f.x (d_ c s)).2):=by unfold gk;rw[ab];simp only[ak,an,eb];rfl
     rw[e]
     have XR:f.x.length<=1000000:=by
      have h1:=wW ok.dG c
      have aa:dE s.ax c=f.x.length:=by unfold dE;rw[an]
      have ao:=ok.ia
      rw[ao] at ae
      simp only[Int.ofNat_eq_natCast] at ae
      omega
     have R8:=(zE ok c).1
     have yJ:(d_ c s).e1<=1000000000:=by
      show s.e1-Int.ofNat (dE s.ax c)<=_
      simp only[Int.ofNat_eq_natCast];omega
     obtain⟨g5,qR,jC,ny⟩:=IG (m+1) (a:=c) hX ok (by omega) an
     obtain⟨g6,h3,kj,gQ⟩:=IL (m+1) (a:=d) (t:=f.x) jC R8 yJ (by omega) (by show cE s.ts d<=_;have:=bk d;omega)
     have m5:=ny.n
     refine⟨g6,call (r:=0) (g:=g4) ?_ (λaA=>absurd rfl aA) (λ_=>⟨c,f.x,d,g5,ld1 ((kL.get _ (by omega)).trans ((ga.get _ (by omega)).trans Jj)) rfl,qR,ld1 ((ny.get _ (by omega) (.inr (by omega))).trans ((kL.get _ (by omega)).trans ((ga.get _ (by omega)).trans a2))) rfl,h3⟩),w8 kj,⟨by have:=gQ.n;omega,λz aW hf=>(gQ.get z (by omega) (.inl hf)).trans ((ny.get z (by omega) (.inl hf)).trans (Jm.get z aW hf))⟩⟩
     rw[el] at hl pw sR w9 Jl⊢
     exact⟨hl,0,da,aT,.inr ⟨rfl,hl,0,g1,c1,.inr ⟨rfl,pw,0,g2,c2,.inr ⟨rfl,sR,0,g3,c3,.inr ⟨rfl,w9,0,g4,gG,.inr ⟨rfl,Jl,rfl,rfl⟩⟩⟩⟩⟩⟩
end Go.Proofs.hD
