/-
  PROVED HERE: contracts of functions (Dz). No condition beside each statement's own.
-/
import Derived.Test.YtlelojncabdnoaaDoorDh
set_option linter.unusedVariables false
set_option linter.unusedSimpArgs false
set_option maxRecDepth 100000
set_option maxHeartbeats 1000000
namespace Go.Proofs.hD
open Go aS Go.Proofs
variable {Q:aU->aB->Prop} {R:bM->Prop} (call:cJ)
def pB:List (List UInt8)->List UInt8
 |[]=>[]
 |z::l=>47::(z++pB l)
theorem DX:∀(l:List (List UInt8)) (a:List UInt8),hn a l=a++pB l
 |[],a=>by simp[hn,pB]
 |z::l,a=>by rw[hn,DX l];simp[pB]
theorem Kv:∀(y cur:List UInt8),47∉y->di cur y=[cur++y]
 |[],cur,_=>by simp[di]
 |c::y,cur,h=>by
  simp only[List.mem_cons,not_or] at h
  simp only[di,if_neg (Ne.symm h.1)]
  rw[Kv y _ h.2];simp
theorem Kw:∀(y cur r:List UInt8),47∉y->di cur (y++47::r)=(cur++y)::di [] r
 |[],cur,r,_=>by simp[di]
 |c::y,cur,r,h=>by
  simp only[List.mem_cons,not_or] at h
  simp only[List.cons_append,di,if_neg (Ne.symm h.1)]
  rw[Kw y _ r h.2];simp
theorem Kx:∀(l:List (List UInt8)) (y:List UInt8),(∀z∈y::l,47∉z)->di [] (y++pB l)=y::l
 |[],y,h=>by
  have:=Kv y [] (h y (by simp))
  simpa[pB] using this
 |z::l,y,h=>by
  rw[pB,Kw y [] _ (h y (by simp)),Kx l z (λw hw=>h w (by simp at hw⊢;exact .inr hw))]
  simp
theorem VR{z:List UInt8}(h:fo z=true):47∉z:=by
 intro hm
 simp only[fo,Bool.and_eq_true,List.all_eq_true] at h
 have:=h.1.1 47 hm
 simp[kk] at this
theorem VS{z:List UInt8}(h:fo z=true):¬(z=[]\/z=[46])/\z≠[46,46]:=by
 refine⟨?_,?_⟩
 · rintro(rfl|rfl)<;>simp[fo,kk] at h
 · rintro rfl;simp[fo,kk] at h
theorem Ky:∀(l st:List (List UInt8)),(∀x∈l,fo x=true)->fold st l=some (st++l)
 |[],st,_=>by simp[fold]
 |x::l,st,h=>by
  have U:=h x (by simp)
  obtain⟨h1,aa⟩:=VS U
  simp only[fold,if_neg h1,if_neg aa,if_pos U]
  rw[Ky l _ λy aP=>h y (by simp[aP])];simp
theorem Kz:∀(l:List (List UInt8)),(∀z∈l,z.length<=16)->(pB l).length<=17*l.length
 |[],_=>Nat.le_refl _
 |z::l,h=>by
  have h1:=Kz l λy aP=>h y (by simp[aP])
  have aa:=h z (by simp)
  rw[pB,List.length_cons,List.length_append,List.length_cons];omega
theorem VT{p x:List UInt8}(h:eh p=some x):eh x=some x/\x.length<=1000:=by
 unfold eh at h
 split at h
 · rename_i y l hf
   split at h
   · rename_i cZ
     cases h
     have ad:=xa _ _ _ hf (λy aP=>by cases aP)
     have a8:di [] (hn y l)=y::l:=by
      rw[DX]
      exact Kx l y (λz aW=>VR (ad z aW))
     have nK:=Ky (y::l) [] ad
     rw[List.nil_append] at nK
     refine⟨?_,?_⟩
     · simp only[eh,a8,nK,if_pos cZ]
     · rw[DX,List.length_append]
       have h1:=xb (ad y (by simp))
       have aa:=Kz l λz aW=>xb (ad z (by simp[aW]))
       omega
   · cases h
 · cases h
theorem kS.ext{O:Nat->Prop}{h g:J}{r:Nat}{Q:cT}{s:fp}(w:kS O h r Q s)(x:Ext h.n h g):kS O g r Q s:=by
 obtain⟨dd,dM,w⟩:=w
 exact⟨dd,dM,w.ext x⟩
theorem kS.sub{O j9:Nat->Prop}{h:J}{r:Nat}{Q:cT}{s:fp}(w:kS O h r Q s)(hO:∀d,O d->j9 d):kS j9 h r Q s:=by
 obtain⟨dd,dM,w⟩:=w
 exact⟨dd,dM,w.move (Nat.le_refl _) (λ_ _ _=>rfl) hO⟩
theorem eo.after{O:Nat->Prop}{h g k:J}(x:Ext h.n h g)(b:eo O g k):eo O h k:=⟨Nat.le_trans x.n b.n,λd ak hO=>(b.get d (Nat.lt_of_lt_of_le ak x.n) hO).trans (x.get d ak)⟩
theorem ei.after{O:Nat->Prop}{h g k:J}(aC:h.n<=g.n):∀d,ei O g k d->ei O h k d:=λd ak=>by
 rcases ak with ak|ak
 · exact .inl ak
 · exact .inr ⟨by omega,ak.2⟩
theorem ei.two{O:Nat->Prop}{h g k:J}(aC:h.n<=g.n)(hk:g.n<=k.n):∀d,ei (ei O h g) g k d->ei O h k d:=λd ak=>by
 rcases ak with(ak|ak)|ak
 · exact .inl ak
 · exact .inr ⟨ak.1,by omega⟩
 · exact .inr ⟨by omega,ak.2⟩
theorem VU{h:J}{b e:Nat}{cs:List I}(ar:aS.loadCells h b 0 3=some cs):hL al (bG Tryd.f37) Tryd.f37 [(4,.ptr b 0),(5,ai e)] h=some (.aF [.agg cs,ai e]):=by
 have av:Tryd.f37.results.toList=[ResultVar.cell 4 40,ResultVar.tmp 5]:=by kernel_rfl
 have au:Nat.testBit (bG Tryd.f37) 4=true:=by kernel_rfl
 have n0:Nat.testBit (bG Tryd.f37) 5=true:=by kernel_rfl
 have bm:jX al 40=some true:=by kernel_rfl
 have cN:cQ al 40=some 3:=by kernel_rfl
 have fE:c4 4 [(4,I.ptr b 0),(5,ai e)]=some (.ptr b 0):=rfl
 have nj:c4 5 [(4,I.ptr b 0),(5,ai e)]=some (ai e):=rfl
 have h8:aS.jP al (bG Tryd.f37) [(4,I.ptr b 0),(5,ai e)] h (ResultVar.cell 4 40)=some (.agg cs):=by
  unfold aS.jP
  simp only[au,bm,cN,fE,ar]
 have ra:aS.jP al (bG Tryd.f37) [(4,I.ptr b 0),(5,ai e)] h (ResultVar.tmp 5)=some (ai e):=by
  unfold aS.jP
  simp only[n0,nj]
 unfold hL
 rw[av]
 simp only[lK,h8,ra]
structure iS(O:Nat->Prop)(h:J)(r:Nat)(Q:cT)(i:Nat)(s:cj)(rs:fp):Prop where
 cV:kS O h r Q rs
 rel:Rel s rs
 kV:rs.ts.length<=i
theorem iS.ext{O:Nat->Prop}{h g:J}{r i:Nat}{Q:cT}{s:cj}{rs:fp}(w:iS O h r Q i s rs)(x:Ext h.n h g):iS O g r Q i s rs:=⟨w.cV.ext x,w.rel,w.kV⟩
theorem iS.s4{O:Nat->Prop}{h:J}{r i:Nat}{Q:cT}{s:cj}{rs:fp}(w:iS O h r Q i s rs)(ok:ir s):rs.ax.length<=64:=by
 rw[w.rel.len ok];exact ok.wX.2
theorem KA(l:List (bf×Nat))(p:bf)(n:Nat):(e9 l p n).length<=l.length+1:=by
 unfold e9
 split
 · rw[List.length_map];omega
 · rw[List.length_append];simp
theorem DY(m:Nat){O:Nat->Prop}{h:J}{r i:Nat}{Q:cT}{s:cj}{rs:fp}{a:bf}(w:iS O h r Q i s rs)(ok:ir s)(eH:a.length<=50000):
  ∃g,Y (m+3) (.fn 37) [.ptr r 0,.str a] h=.ret (.aF [.agg (cW (eR eh a s).1),ai (eR eh a s).2]) g/\Ext h.n h g:=by
 obtain⟨H,hH⟩:∃H,H=h.push (ay [.str [],.str [],aK 0] 40):=⟨_,rfl⟩
 have uD:H.n=h.n+1:=by rw[hH];rfl
 have gW:Ext h.n h H:=by rw[hH];exact Ext.push (Nat.le_refl _) _
 have VV:H.get h.n=some (ay [.str [],.str [],aK 0] 40):=by rw[hH];exact c8 rfl
 obtain⟨g1,c1,cH⟩:=z8 m a H eH
 have aE:=cH.n
 have bS:=(cH.get h.n (by omega)).trans VV
 have KB:Ext h.n h g1:=gW.trans gW.n (cH.le (by omega))
 have ar:=w.s4 ok
 have rg:=w.rel.get ok
 have b5:=w.cV.ext KB
 have fin:∀(f:bV) (e:Nat),bU al Tryd.f37 (Y (m+2)) [] (aR [(0,.ptr r 0),(1,.str a)] h) (λx st=>x=.ret/\st=⟨[(4,.ptr h.n 0),(5,ai e)],[],.none,g1.set h.n (some (ay (cW f) 40))⟩)->∃g,Y (m+3) (.fn 37) [.ptr r 0,.str a] h=.ret (.aF [.agg (cW f),ai e]) g/\Ext h.n h g:=λf e an=>
  ⟨_,tW (P:=al) (intr:=fl) (n:=m+2) (args:=[.ptr r 0,.str a]) (R:=λy=>y=.ret (.aF [.agg (cW f),ai e]) (g1.set h.n (some (ay (cW f) 40)))) Tryd.func37 (by kernel_rfl) (by kernel_rfl) (by kernel_rfl) an (λx st bj=>by
    obtain⟨rfl,rfl⟩:=bj
    exact .inl ⟨.inl rfl,rfl,_,VU (ih (e8 rfl) rfl),rfl⟩),Ext.l3 (by omega) KB⟩
 unfold eR
 cases ab:eh a with
 |none=>
  rw[ab] at c1
  exact fin _ _ (Kb _ r a h (by rw[<-hH];exact⟨[],6,g1,c1,λaA=>(by omega),λ_=>⟨_,gI bS rfl rfl,rfl,rfl⟩⟩))
 |some p=>
  rw[ab] at c1
  simp only
  obtain⟨dd,dM,bQ⟩:=b5
  rcases DO (m+1) bQ (by omega) p with⟨j,aG,an,hf⟩|⟨an,hf⟩
  · rw[<-rg p,an]
    refine fin _ _ (Vg _ r a h (by
     rw[<-hH]
     refine⟨p,0,g1,c1,λ_=>⟨j,g1,hf,by omega,?_⟩,λaA=>absurd rfl aA⟩
     rcases bQ.et with⟨_,e⟩|⟨b,rfl,bt,bA,eU,fe⟩
     · have e:rs.ax=[]:=e
       rw[e] at aG;cases aG
     · exact⟨b,rs.ax.length,ld1 bQ.st rfl,aG,_,_,_,s0 bA aG,_,gI bS rfl rfl,rfl,rfl⟩))
  · rw[<-rg p,an]
    exact fin _ _ (Kb _ r a h (by rw[<-hH];exact⟨p,0,g1,c1,λ_=>⟨g1,hf,rfl,_,gI bS rfl rfl,rfl,rfl⟩,λaA=>absurd rfl aA⟩))
theorem VW(m:Nat){O:Nat->Prop}{h:J}{r i:Nat}{Q:cT}{s:cj}{rs:fp}{a:bf}(w:iS O h r Q i s rs)(ok:ir s)(eH:a.length<=50000):
  ∃g jV,Y (m+4) (.fn 35) [.ptr r 0,.str a] h=.ret (ai (iQ eh a s).1) g/\iS (ei O h g) g r Q (i+1) (iQ eh a s).2 jV/\eo O h g:=by
 obtain⟨g1,c1,cH⟩:=DY m w ok eH
 have aE:=cH.n
 obtain⟨g2,t2,a_,cn,cD⟩:=xm g1 (eR eh a s).1
 have pC:Ext h.n h g2:=cH.trans aE cD
 have bQ:=w.ext pC
 have ar:=w.s4 ok
 have kV:=w.kV
 have bad:∀e,¬e=0->(eR eh a s).2=e->∃g jV,Y (m+4) (.fn 35) [.ptr r 0,.str a] h=.ret (ai e) g/\iS (ei O h g) g r Q (i+1) s jV/\eo O h g:=λe he ey=>
  ⟨g2,rs,Kc (m+3) r a h (R:=λx=>x=.ret (ai e) g2) ⟨_,_,_,_,g1,c1,g2,t2,λaA=>absurd (ey.symm.trans aA) he,λ_=>by rw[ey]⟩,⟨bQ.cV.sub λd ak=>.inl ak,w.rel,by omega⟩,eo.ext pC⟩
 unfold iQ
 cases ab:eh a with
 |none=>exact bad 6 (by omega) (by unfold eR;rw[ab])
 |some p=>
  simp only
  cases an:cM s.ax p with
  |none=>exact bad 5 (by omega) (by unfold eR;rw[ab];simp only[an])
  |some f=>
   have av:eR eh a s=(f,0):=by unfold eR;rw[ab];simp only[an]
   have au:f.p=p:=(lx an).2
   rw[av] at c1 t2 cn
   obtain⟨dd,dM,j6⟩:=bQ.cV
   obtain⟨g3,v3,c3,hX,eU,_⟩:=DQ (m+2) j6 (by omega) f.p
   refine⟨g3,⟨dZ rs.ax p,rs.ts⟩,Kc (m+3) r a h (R:=λx=>x=.ret (ai 0) g3) ⟨f.p,f.x,f.n,0,g1,c1,g2,t2,λ_=>⟨f.p,ld1 cn rfl,g3,c3,rfl⟩,λaA=>absurd rfl aA⟩,⟨?_,w.rel.drop p,by show rs.ts.length<=_;omega⟩,eo.after pC eU⟩
   rw[au] at hX
   exact kS.sub ⟨_,_,hX⟩ (ei.after (by omega))
theorem VX(m:Nat){O:Nat->Prop}{h:J}{r i:Nat}{Q:cT}{s:cj}{rs:fp}{a t:bf}(w:iS O h r Q i s rs)(fit:h4 i s)(ag:i<=200)(X6:s.nL=Q.a)(nM:s.nM=Q.b)(eH:a.length<=50000)(X7:t.length<=50000):
  ∃g jV,Y (m+3) (.fn 34) [.ptr r 0,.str a,.str t] h=.ret (.aF [aK (gL eh a t s).1,ai (gL eh a t s).2.1]) g/\iS (ei O h g) g r Q (i+1) (gL eh a t s).2.2 jV/\eo O h g:=by
 have ok:=fit.ok
 obtain⟨g1,c1,cH⟩:=z8 m a h eH
 have aE:=cH.n
 have ar:=w.s4 ok
 have kV:=w.kV
 have ae:=fit.fs
 have X8:=w.rel.sum ok
 have hlen:=w.rel.len ok
 have kO:=ok.ia
 simp only[Int.ofNat_eq_natCast] at ae kO
 have gy:Ext h.n h (g1.room 13):=cH.trans aE (Ext.room _ _ _)
 have b5:=w.ext cH
 have VY:=w.ext gy
 obtain⟨dd,dM,bQ⟩:=VY.cV
 have kT:=bQ.et.len (g1.room 13)
 have dq:=Kh (m+1) bQ (by omega) (by omega)
 have vs:dd.sound=true:=bQ.et.sound
 have eM:∀{g:J},Ext h.n h g->iS (ei O h g) g r Q (i+1) s rs/\eo O h g:=λx=>⟨⟨(w.ext x).cV.sub λd ak=>.inl ak,w.rel,by omega⟩,eo.ext x⟩
 unfold gL
 cases ab:eh a with
 |none=>
  rw[ab] at c1
  obtain⟨bt,bA⟩:=eM cH
  exact⟨g1,rs,DN (m+2) r a t h (R:=λx=>x=.ret (.aF [aK 0,ai 6]) g1) ⟨[],6,g1,c1,λaA=>(by omega),λ_=>rfl⟩,bt,bA⟩
 |some p=>
  rw[ab] at c1
  simp only
  by_cases bk:t.length<=4096
  · rw[if_pos bk]
    obtain⟨bt,bA⟩:=eM gy
    have rg:=w.rel.get ok p
    have go:∀{Z:bM->Prop},(iq p t s=true->∀g,Y (m+2) (.fn 50) [.ptr r 0,.str p,.str t] (g1.room 13)=.ret (aK (cE rs.ts p+1)) g->kS (ei O (g1.room 13) g) g r Q (mL p t rs)->eo O (g1.room 13) g->Z (.ret (.aF [aK (cE rs.ts p+1),ai 0]) g))->(¬iq p t s=true->Z (.ret (.aF [aK 0,ai 7]) (g1.room 13)))->Z (Y (m+3) (.fn 34) [.ptr r 0,.str a,.str t] h):=λ{Z} aP aC=>by
     obtain⟨g3,c3,j6,eU⟩:=Kn m bQ w.rel.uI (by omega) (by omega) p t (by rw[w.rel.bF];have:=fit.bF p;omega)
     rcases DO (m+1) bQ (by omega) p with⟨j,aG,an,hf⟩|⟨an,hf⟩
     · have pD:cM s.ax p=some rs.ax[j]:=rg▸an
       have hle:dE s.ax p=rs.ax[j].x.length:=by unfold dE;rw[pD]
       have U:rs.ax[j].x.length<=gj rs.ax:=by
        have h1:=Kf aG
        have aa:=Kg (l:=rs.ax) (j+1)
        omega
       have aj:iq p t s=!(decide (min s.nL 64<Int.ofNat (s.ax.length+0))||decide (s.nM<s.e1-Int.ofNat rs.ax[j].x.length+Int.ofNat t.length)):=by
        unfold iq
        rw[hle,pD];rfl
       rcases bQ.et with⟨_,e⟩|⟨b,rfl,aT,bb,bP,gP⟩
       · have e:rs.ax=[]:=e
         rw[e] at aG;cases aG
       refine Vf (m+2) r a t h ⟨p,0,g1,c1,λ_=>⟨λaA=>absurd aA (by omega),λ_=>⟨_,ld1 bQ.st rfl,_,kT,by omega,_,g1.room 13,dq,by omega,vs,ld1 bQ.st rfl,j,g1.room 13,hf,by omega,by omega,b,rs.ax.length,ld1 bQ.st rfl,aG,_,Kd bb aG,by omega,Q.a,ld1 bQ.st rfl,λaW=>?_,λaW=>⟨λnk=>?_,λnk=>⟨Q.b,ld1 bQ.st rfl,λnU=>?_,λnU=>⟨_,g3,c3,?_⟩⟩⟩⟩⟩,λaA=>absurd rfl aA⟩
       · refine aC λaf=>?_
         rw[aj] at af
         rw[nQ,decide_eq_true_eq] at aW
         simp only[Int.ofNat_eq_natCast,Bool.not_eq_true',Bool.or_eq_false_iff,decide_eq_false_iff_not] at af aW
         omega
       · refine aC λaf=>?_
         rw[aj] at af
         simp only[Int.ofNat_eq_natCast,Bool.not_eq_true',Bool.or_eq_false_iff,decide_eq_false_iff_not] at af
         omega
       · refine aC λaf=>?_
         rw[aj] at af
         rw[nQ,decide_eq_true_eq] at nU
         simp only[Int.ofNat_eq_natCast,Bool.not_eq_true',Bool.or_eq_false_iff,decide_eq_false_iff_not] at af nU
         omega
       · refine aP ?_ g3 c3 j6 eU
         rw[aj]
         rw[nQ,decide_eq_false_iff_not] at aW nU
         simp only[Int.ofNat_eq_natCast,Bool.not_eq_true',Bool.or_eq_false_iff,decide_eq_false_iff_not] at aW nU⊢
         omega
     · have pD:cM s.ax p=none:=rg▸an
       have hle:dE s.ax p=0:=by unfold dE;rw[pD]
       have aj:iq p t s=!(decide (min s.nL 64<Int.ofNat (s.ax.length+1))||decide (s.nM<s.e1-Int.ofNat 0+Int.ofNat t.length)):=by
        unfold iq
        rw[hle,pD];rfl
       refine DN (m+2) r a t h ⟨p,0,g1,c1,λ_=>⟨λaA=>absurd aA (by omega),λ_=>⟨_,ld1 bQ.st rfl,_,kT,by omega,_,g1.room 13,dq,by omega,vs,ld1 bQ.st rfl,g1.room 13,hf,rfl,Q.a,ld1 bQ.st rfl,λaW=>?_,λaW=>⟨λnk=>?_,λnk=>⟨Q.b,ld1 bQ.st rfl,λnU=>?_,λnU=>⟨_,g3,c3,?_⟩⟩⟩⟩⟩,λaA=>absurd rfl aA⟩
       · refine aC λaf=>?_
         rw[aj] at af
         rw[nQ,decide_eq_true_eq] at aW
         simp only[Int.ofNat_eq_natCast,Bool.not_eq_true',Bool.or_eq_false_iff,decide_eq_false_iff_not] at af aW
         omega
       · refine aC λaf=>?_
         rw[aj] at af
         simp only[Int.ofNat_eq_natCast,Bool.not_eq_true',Bool.or_eq_false_iff,decide_eq_false_iff_not] at af
         omega
       · refine aC λaf=>?_
         rw[aj] at af
         rw[nQ,decide_eq_true_eq] at nU
         simp only[Int.ofNat_eq_natCast,Bool.not_eq_true',Bool.or_eq_false_iff,decide_eq_false_iff_not] at af nU
         omega
       · refine aP ?_ g3 c3 j6 eU
         rw[aj]
         rw[nQ,decide_eq_false_iff_not] at aW nU
         simp only[Int.ofNat_eq_natCast,Bool.not_eq_true',Bool.or_eq_false_iff,decide_eq_false_iff_not] at aW nU⊢
         omega
    by_cases aj:iq p t s=true
    · rw[if_pos aj]
      refine go (Z:=λx=>∃g jV,x=.ret (.aF [aK (fg p t s).1,ai 0]) g/\iS (ei O h g) g r Q (i+1) (fg p t s).2 jV/\eo O h g) (λ_ g c hX fe=>⟨g,mL p t rs,by rw[w.rel.Ka p t],⟨hX.sub (ei.after gy.n),w.rel.put p t,?_⟩,eo.after gy fe⟩) (λaA=>absurd aj aA)
      have:=KA rs.ts p (cE rs.ts p+1)
      show(e9 rs.ts p (cE rs.ts p+1)).length<=i+1
      omega
    · rw[if_neg aj]
      exact go (Z:=λx=>∃g jV,x=.ret (.aF [aK 0,ai 7]) g/\iS (ei O h g) g r Q (i+1) s jV/\eo O h g) (λaA=>absurd aA aj) (λ_=>⟨g1.room 13,rs,rfl,bt,bA⟩)
  · rw[if_neg bk]
    obtain⟨bt,bA⟩:=eM cH
    exact⟨g1,rs,DN (m+2) r a t h (R:=λx=>x=.ret (.aF [aK 0,ai 3]) g1) ⟨p,0,g1,c1,λ_=>⟨λ_=>rfl,λaA=>absurd (by omega) aA⟩,λaA=>absurd rfl aA⟩,bt,bA⟩
theorem VZ(m:Nat){O:Nat->Prop}{h:J}{r i:Nat}{Q:cT}{s:cj}{rs:fp}{a b:bf}(w:iS O h r Q i s rs)(fit:h4 i s)(ag:i<=200)(eH:a.length<=50000)(ox:b.length<=50000):
  ∃g jV,Y (m+4) (.fn 36) [.ptr r 0,.str a,.str b] h=.ret (.aF [aK (gk eh a b s).1,ai (gk eh a b s).2.1]) g/\iS (ei O h g) g r Q (i+1) (gk eh a b s).2.2 jV/\eo O h g:=by
 have ok:=fit.ok
 obtain⟨g1,c1,cH⟩:=z8 (m+1) a h eH
 have aE:=cH.n
 obtain⟨g2,c2,cD⟩:=z8 (m+1) b g1 ox
 have a_:=cD.n
 have pC:Ext h.n h g2:=cH.trans aE cD
 have ar:=w.s4 ok
 have kV:=w.kV
 have eM:∀{g:J},Ext h.n h g->iS (ei O h g) g r Q (i+1) s rs/\eo O h g:=λx=>⟨⟨(w.ext x).cV.sub λd ak=>.inl ak,w.rel,by omega⟩,eo.ext x⟩
 unfold gk
 cases ab:eh a with
 |none=>
  rw[ab] at c1
  obtain⟨bt,bA⟩:=eM cH
  exact⟨g1,rs,z_ (m+3) r a b h (R:=λx=>x=.ret (.aF [aK 0,ai 6]) g1) ⟨[],6,g1,c1,λaA=>(by omega),λ_=>rfl⟩,bt,bA⟩
 |some p=>
  rw[ab] at c1
  simp only
  cases ak:eh b with
  |none=>
   rw[ak] at c2
   obtain⟨bt,bA⟩:=eM pC
   exact⟨g2,rs,z_ (m+3) r a b h (R:=λx=>x=.ret (.aF [aK 0,ai 6]) g2) ⟨p,0,g1,c1,λ_=>⟨[],6,g2,c2,λaA=>(by omega),λ_=>rfl⟩,λaA=>absurd rfl aA⟩,bt,bA⟩
  |some d=>
   rw[ak] at c2
   simp only
   obtain⟨dO,ef⟩:=VT ab
   obtain⟨g3,c3,ga⟩:=DY m (w.ext pC) ok (a:=p) (by omega)
   have bZ:=ga.n
   have Ad:eR eh p s=match cM s.ax p with|none=>(⟨[],[],0⟩,5)|some f=>(f,0):=by unfold eR;rw[dO];rfl
   obtain⟨g4,t4,cG,kg,kL⟩:=xm g3 (eR eh p s).1
   have V0:Ext g2.n g2 g4:=ga.trans bZ kL
   have qV:Ext h.n h g4:=pC.trans pC.n V0
   obtain⟨bt,bA⟩:=eM qV
   cases an:cM s.ax p with
   |none=>
    rw[an] at Ad
    rw[Ad] at c3 t4
    exact⟨g4,rs,z_ (m+3) r a b h (R:=λx=>x=.ret (.aF [aK 0,ai 5]) g4) ⟨p,0,g1,c1,λ_=>⟨d,0,g2,c2,λ_=>⟨[],[],0,5,g3,c3,g4,t4,λaA=>(by omega),λ_=>rfl⟩,λaA=>absurd rfl aA⟩,λaA=>absurd rfl aA⟩,bt,bA⟩
   |some f=>
    rw[an] at Ad
    rw[Ad] at c3 t4 kg
    simp only
    obtain⟨dd,dM,hX⟩:=(w.ext qV).cV
    have rg:=w.rel.get ok d
    rcases DO (m+2) hX (by omega) d with⟨j,aG,xP,hf⟩|⟨xP,hf⟩
    · have pD:(cM s.ax d).isSome=true:=by rw[<-rg,xP];rfl
      rw[if_pos pD]
      exact⟨g4,rs,Vh (m+3) r a b h (R:=λx=>x=.ret (.aF [aK 0,ai 14]) g4) ⟨p,0,g1,c1,λ_=>⟨d,0,g2,c2,λ_=>⟨f.p,f.x,f.n,0,g3,c3,g4,t4,λ_=>⟨j,g4,hf,by omega,rfl⟩,λaA=>absurd rfl aA⟩,λaA=>absurd rfl aA⟩,λaA=>absurd rfl aA⟩,bt,bA⟩
    · have pD:¬(cM s.ax d).isSome=true:=by rw[<-rg,xP];simp
      rw[if_neg pD]
      obtain⟨g5,v5,qR,jC,ny,xp⟩:=DQ (m+2) hX (by omega) p
      have eg:=ny.n
      have iE:=w.rel.drop p
      have VL:(dZ rs.ax p).length<=64:=Nat.le_trans (DP _ _) ar
      obtain⟨g6,h3,kj,gQ⟩:=Kn (m+1) jC iE.uI (by show(dZ rs.ax p).length<=400;omega) (by show rs.ts.length<=400;omega) d f.x (by rw[iE.bF];show cE s.ts d<=_;have:=fit.bF d;omega)
      have aj:r<g4.n:=hX.up.1
      have BR:=(xp g3.n (by omega) (λe=>by have h1:=w.cV;obtain⟨_,_,h1⟩:=h1;have:=h1.up.1;have:=pC.n;omega)).trans kg
      refine⟨g6,mL d f.x ⟨dZ rs.ax p,rs.ts⟩,z_ (m+3) r a b h (R:=λx=>x=.ret (.aF [aK (fg d f.x (d_ p s)).1,ai 0]) g6) ⟨p,0,g1,c1,λ_=>⟨d,0,g2,c2,λ_=>⟨f.p,f.x,f.n,0,g3,c3,g4,t4,λ_=>⟨g4,hf,rfl,g5,qR,f.x,ld1 BR rfl,_,g6,h3,by rw[iE.Ka d f.x]⟩,λaA=>absurd rfl aA⟩,λaA=>absurd rfl aA⟩,λaA=>absurd rfl aA⟩,⟨kj.sub λq bj=>ei.after qV.n q (ei.two eg gQ.n q bj),iE.put d f.x,?_⟩,eo.after qV (ny.trans gQ)⟩
      have:=KA rs.ts d (cE rs.ts d+1)
      show(e9 rs.ts d (cE rs.ts d+1)).length<=i+1
      omega
theorem V1(m p m1 m2 bt bA:Nat)(h:J)(H:∃bS:Int,∃z2:Int,∃z3:Int,∃aE a_,aS.loadCells (h.room 21) p 0 5=some [.int .i64 bS,.int .i64 z2,.int .i64 z3,aK aE,aK a_]/\aO (h.room 21) p 5=some (.map m1)/\∃g1,Y m (.fn 38) [.map m1] (h.room 21)=.ret (.map bt) g1/\aO g1 p 6=some (.map m2)/\∃g2,Y m (.fn 39) [.map m2] g1=.ret (.map bA) g2/\∃bZ,aO g2 p 7=some (ai bZ)/\I.ca (.int .i64 bS)=true/\I.ca (.int .i64 z2)=true/\I.ca (.int .i64 z3)=true/\I.ca (.int .i64 bS)=true/\I.ca (.int .i64 z2)=true/\I.ca (.int .i64 z3)=true/\I.sound (.int .i64 bS)=true/\I.sound (.int .i64 z2)=true/\I.sound (.int .i64 z3)=true/\aS.loadCells (J.set g2 (h.n+19) (some (ay [.int .i64 bS,.int .i64 z2,.int .i64 z3,aK aE,aK a_,.map bt,.map bA,ai bZ] 59))) p 0 5=some [.int .i64 bS,.int .i64 z2,.int .i64 z3,aK aE,aK a_]/\aS.loadCells g1 p 0 5=some [.int .i64 bS,.int .i64 z2,.int .i64 z3,aK aE,aK a_]/\aO (h.room 21) p 6=some (.map m2)/\aO (J.set g2 (h.n+19) (some (ay [.int .i64 bS,.int .i64 z2,.int .i64 z3,aK aE,aK a_,.map bt,.map bA,ai bZ] 59))) p 7=some (ai bZ)/\aO g1 p 7=some (ai bZ)/\aO (h.room 21) p 7=some (ai bZ)/\I.sound (.int .i64 bS)=true/\I.sound (.int .i64 z2)=true/\I.sound (.int .i64 z3)=true/\R (.ret (aq (h.n+19)) (J.set g2 (h.n+19) (some (ay [.int .i64 bS,.int .i64 z2,.int .i64 z3,aK aE,aK a_,.map bt,.map bA,ai bZ] 59))))):
  R (Y (m+1) (.fn 20) [aq p] h):=
 fv [(8,.aY (.c6 [.z .i64,.z .i64,.z .i64,.n .u64,.n .u64])),(12,.aY (.is (.map m1))),(13,.aY (.is (.map bt))),(17,.aY (.is (.map m2))),(18,.aY (.is (.map bA))),(22,.aY (.n .i64))] [] Tryd.func20 H
theorem V2(m c k:Nat)(h:J)(H:∃ck,ec al h .eql 57 (.tmp 3) (.const (.map none)) (.map c) .fy=some (.bool ck)/\(ck=true->R (.ret .fy h))/\(ck=false->∃g1,Y m (.fn 52) [.iface 57 (.map c)] h=.ret (.iface 57 (.map k)) g1/\R (.ret (.map k) g1))):
  R (Y (m+1) (.fn 38) [.map c] h):=
 fv [(7,.aY (.is (.iface 57 (.map k))))] [] Tryd.func38 H
theorem V3(m c k:Nat)(h:J)(H:∃ck,ec al h .eql 28 (.tmp 3) (.const (.map none)) (.map c) .fy=some (.bool ck)/\(ck=true->R (.ret .fy h))/\(ck=false->∃g1,Y m (.fn 52) [.iface 28 (.map c)] h=.ret (.iface 28 (.map k)) g1/\R (.ret (.map k) g1))):
  R (Y (m+1) (.fn 39) [.map c] h):=
 fv [(7,.aY (.is (.iface 28 (.map k))))] [] Tryd.func39 H
theorem V4(h:J)(f:bV)(x y:Operand):ec al h .neq 40 x y (.agg (cW f)) (.agg (cW f))=some (.bool false):=by
 have e:ec al h .neq 40 x y (.agg (cW f)) (.agg (cW f))=(match JU (cr f.p f.p) (cr f.x f.x) (dP (Int.ofNat f.n) (Int.ofNat f.n)) with|some b=>some (.bool (!b))|none=>none):=by kernel_rfl
 have a:∀s:bf,cr s s=true:=λs=>by rw[ha];simp
 have b:dP (Int.ofNat f.n) (Int.ofNat f.n)=true:=by rw[sS];simp
 rw[e,a,a,b];rfl
theorem V5(m:Nat){h:J}{xt ez:I}{ds:List bV}(aJ:sZ h xt ds)(ae:sZ h ez ds)(ar:ds.length<=1000):∃g,Y (m+1) (.fn 18) [xt,ez] h=.ret (.bool true) g/\Ext h.n h g:=by
 refine Vj m xt ez h (R:=λx=>∃g,x=.ret (.bool true) g/\Ext h.n h g) ⟨_,aJ.len h,_,ae.len h,rfl,?_⟩
 refine mH (λk st=>∃i y Γ,st=hi Γ y/\eI [(0,xt),(1,ez),(5,ai i)] Γ/\ds.length-i=k/\i<=ds.length/\Ext h.n h y) ?_ ds.length _ (by omega) ⟨0,h,_,rfl,⟨rfl,rfl,rfl,trivial⟩,by omega,by omega,Ext.refl _ _⟩
 rintro k st ⟨i,y,Γ,rfl,fL,hk,ag,aP⟩
 by_cases dC:i<ds.length
 · rcases aJ with⟨_,rfl⟩|⟨nC,rfl,V6,qz⟩
   · cases dC
   rcases ae with⟨_,rfl⟩|⟨KC,rfl,V7,iK⟩
   · cases dC
   have gy:Ext h.n h (y.room 9):=aP.trans aP.n (Ext.room _ _ _)
   exact ij (Vk _ nC KC _ _ i y ⟨λi1=>⟨i1,_,_,_,s0 ((gy.get nC V6).trans qz) i1,i1,_,_,_,s0 ((gy.get KC V7).trans iK) i1,V4 _ _ _ _,by omega,_,(by show _<k;omega),i+1,y.room 9,_,rfl,⟨rfl,rfl,rfl,trivial⟩,rfl,by omega,gy⟩,λi1=>absurd dC i1⟩) fL
 · exact ij (Vl _ xt ez i y ⟨_,aJ.len y,dC,y,_,rfl,rfl,trivial,y,rfl,aP⟩) fL
theorem KD(n:Nat){h:J}{T c k:Nat}{es:List dj}(ab:h.get c=some (.map es k)):Y (n+1) (.fn 52) [.iface T (.map c)] h=.ret (.iface T (.map h.n)) (h.push (.map es k)):=by
 have bm:(Tryd.f52).body=none:=by kernel_rfl
 have cN:(Tryd.f52).name= "maps.clone" :=by kernel_rfl
 have fE:fl 52 [.iface T (.map c)] h=none:=rfl
 have dc:pH al Tryd.f52 "maps.clone" [.iface T (.map c)] h=some (.iface T (.map h.n),h.push (.map es k)):=by
  have aE:¬ "maps.clone" = "internal/abi.NoEscape" :=by decide
  simp only[pH,if_neg aE,if_true,ab]
 show cF al fl (n+1) _ _ _=_
 simp only[cF,fE,oO,Tryd.func52,bm,cN,dc]
theorem V8(h:J)(c:Nat)(x y:Operand):ec al h .eql 57 x y (.map c) .fy=some (.bool false):=by kernel_rfl
theorem V9(h:J)(c:Nat)(x y:Operand):ec al h .eql 28 x y (.map c) .fy=some (.bool false):=by kernel_rfl
theorem V_(m:Nat){F G:Nat->Prop}{h:J}{p:Nat}{q:cT}{s:cj}(w:dL F h p q s)(lf:∀d,G d->d<h.n):∃g KE,Y (m+3) (.fn 20) [.ptr p 0] h=.ret (.ptr KE 0) g/\dL G g KE q s/\Ext h.n h g:=by
 obtain⟨m1,m2,c1,c2,dF,A,T,w,ba⟩:=w
 obtain⟨eF,fG,jT⟩:=w.up
 obtain⟨g0,er⟩:∃g,g=h.room 21:=⟨_,rfl⟩
 have gx:g0.n=h.n+21:=by rw[er];rfl
 have kt:∀d,d<h.n->g0.get d=h.get d:=λd ak=>by rw[er];rfl
 obtain⟨g1,av⟩:∃g,g=g0.push (.map (A.map (fw po)) c1):=⟨_,rfl⟩
 have aE:g1.n=g0.n+1:=by rw[av];rfl
 have bt:∀d,d<h.n->g1.get d=h.get d:=λd ak=>by rw[av];exact(ch (by omega) rfl).trans (kt d ak)
 obtain⟨g2,au⟩:∃g,g=g1.push (.map (T.map (fw uw)) c2):=⟨_,rfl⟩
 have a_:g2.n=g1.n+1:=by rw[au];rfl
 have bA:∀d,d<h.n->g2.get d=h.get d:=λd ak=>by rw[au];exact(ch (by omega) rfl).trans (bt d ak)
 obtain⟨g3,bm⟩:∃g,g=g2.set (h.n+19) (some (sN q g0.n g1.n dF)):=⟨_,rfl⟩
 have bZ:g3.n=g2.n:=by rw[bm];rfl
 have eU:∀d,d<h.n->g3.get d=h.get d:=λd ak=>by rw[bm];exact(c9 (by omega) rfl).trans (bA d ak)
 have bO:Y (m+2) (.fn 38) [.map m1] g0=.ret (.map g0.n) g1:=
  V2 (m+1) m1 g0.n g0 (R:=λx=>x=.ret (.map g0.n) g1) ⟨false,V8 _ _ _ _,λaA=>(by cases aA),λ_=>⟨g1,by rw[av];exact KD m ((kt m1 fG).trans w.f1),rfl⟩⟩
 have a2:Y (m+2) (.fn 39) [.map m2] g1=.ret (.map g1.n) g2:=
  V3 (m+1) m2 g1.n g1 (R:=λx=>x=.ret (.map g1.n) g2) ⟨false,V9 _ _ _ _,λaA=>(by cases aA),λ_=>⟨g2,by rw[au];exact KD m ((bt m2 jT).trans w.f2),rfl⟩⟩
 have aR:=(kt p eF).trans w.st
 have s1:=(bt p eF).trans w.st
 have s2:=(bA p eF).trans w.st
 have bz:=(eU p eF).trans w.st
 refine⟨g3,h.n+19,V1 (m+2) p m1 m2 g0.n g1.n h (R:=λx=>x=.ret (.ptr (h.n+19) 0) g3) ?_,⟨g0.n,g1.n,c1,c2,dF,A,T,⟨?_,?_,?_,w.aE,w.a_,w.jg,w.sO,w.fs,⟨by omega,by omega,by omega⟩,⟨by omega,by omega,by omega⟩,⟨λaf=>?_,λaf=>?_,λaf=>?_⟩⟩,ba⟩,⟨by omega,eU⟩⟩
 · rw[<-er]
   rw[bm] at bz
   exact⟨q.a,q.b,q.c,q.d,q.e,ih aR rfl,ld1 aR rfl,g1,bO,ld1 s1 rfl,g2,a2,dF,ld1 s2 rfl,rfl,rfl,rfl,rfl,rfl,rfl,rfl,rfl,rfl,ih bz rfl,ih s1 rfl,ld1 aR rfl,ld1 bz rfl,ld1 s1 rfl,ld1 aR rfl,rfl,rfl,rfl,by rw[bm];rfl⟩
 · rw[bm];exact e8 rfl
 · rw[bm];refine(c9 (by omega) rfl).trans ?_;rw[au];refine(ch (by omega) rfl).trans ?_;rw[av];exact c8 rfl
 · rw[bm];refine(c9 (by omega) rfl).trans ?_;rw[au];exact c8 rfl
 · have:=lf _ af;omega
 · have:=lf _ af;omega
 · have:=lf _ af;omega
theorem KF{D:Type}{enc:D->List I}{w:Nat}{el sT:TypeId}(T:pa al enc w el sT){h:J}{v:I}{ds:List D}(o:fU enc w el 0 h v ds)(ar:ds.length<=1000):∃v' g,en al h sT (some sT) .bn v=some (v',g)/\fU enc w el h.n g v' ds/\Ext h.n h g/\I.ca v'=true:=by
 rcases o with⟨rfl,rfl⟩|⟨p,rfl,aa,ao,aI,bl⟩
 · exact⟨.bn,h,G9 T rfl,.inl ⟨rfl,rfl⟩,Ext.refl _ _,rfl⟩
 · have ad:=fU.src T (.inr ⟨p,rfl,aa,ao,aI,bl⟩:fU enc w el 0 h (.slice p 0 ds.length (.aH w)) ds)
   exact⟨_,_,Ch T ad aa (by omega),.inr ⟨h.n,rfl,aa,c8 rfl,Nat.le_refl _,Nat.lt_succ_self _⟩,Ext.push (Nat.le_refl _) _,rfl⟩
theorem Wa(m:Nat){O:Nat->Prop}{h:J}{r:Nat}{Q:cT}{s:fp}(w:kS O h r Q s)(ar:s.ax.length<=1000)(bk:s.ts.length<=1000):∃g r',Y (m+1) (.fn 21) [.ptr r 0] h=.ret (.ptr r' 0) g/\kS (λd=>h.n<=d/\d<g.n) g r' Q s/\Ext h.n h g:=by
 obtain⟨dd,dM,w⟩:=w
 have aj:=w.up.1
 obtain⟨h1,av⟩:∃g,g=(h.push (lC Q .bn .bn)).room 13:=⟨_,rfl⟩
 have aE:h1.n=h.n+14:=by rw[av];rfl
 have cH:Ext h.n h h1:=by rw[av];exact(Ext.push (Nat.le_refl _) _).trans (Nat.le_succ _) (Ext.room _ _ _)
 have ck:h1.get h.n=some (lC Q .bn .bn):=by rw[av];exact c8 rfl
 have b5:=w.ext cH
 obtain⟨v2,g2,a2,ef,cD,c2⟩:=KF r8 b5.et ar
 have a_:=cD.n
 have cn:=(cD.get h.n (by omega)).trans ck
 obtain⟨g3,bm⟩:∃g,g=g2.set h.n (some (lC Q v2 .bn)):=⟨_,rfl⟩
 have bZ:g3.n=g2.n:=by rw[bm];rfl
 have fT:g3.get h.n=some (lC Q v2 .bn):=by rw[bm];exact e8 rfl
 have ga:Ext h.n h g3:=by rw[bm];exact Ext.l3 (Nat.le_refl _) (cH.trans cH.n (cD.le (by omega)))
 have sC:iv h1.n g3 v2 s.ax:=by rw[bm];exact ef.r9 cn
 obtain⟨aI,cN⟩:∃g,g=g3.room 13:=⟨_,rfl⟩
 have cG:aI.n=g3.n+13:=by rw[cN];rfl
 have kL:Ext g3.n g3 aI:=by rw[cN];exact Ext.room _ _ _
 have kg:aI.get h.n=some (lC Q v2 .bn):=by rw[cN];exact fT
 have qV:Ext h.n h aI:=ga.trans ga.n kL
 have hX:=w.ext qV
 obtain⟨v5,g5,a5,xp,hh,qR⟩:=KF qA hX.fj bk
 have eg:=hh.n
 have pf:=(hh.get h.n (by omega)).trans kg
 obtain⟨g6,h8⟩:∃g,g=g5.set h.n (some (lC Q v2 v5)):=⟨_,rfl⟩
 have n6:g6.n=g5.n:=by rw[h8];rfl
 have w6:Ext h.n h g6:=by rw[h8];exact Ext.l3 (Nat.le_refl _) (qV.trans qV.n (hh.le (by omega)))
 have KG:iv h1.n g6 v2 s.ax:=by rw[h8];exact((sC.mono kL (Nat.le_refl _)).mono hh (Nat.le_refl _)).r9 pf
 have t6:s3 aI.n g6 v5 s.ts:=by rw[h8];exact xp.r9 pf
 refine⟨g6,h.n,Vi m r h (R:=λx=>x=.ret (.ptr h.n 0) g6) ?_,⟨v2,v5,⟨by rw[h8];exact e8 rfl,KG.le (Nat.zero_le _),t6.le (Nat.zero_le _),⟨by omega,Nat.le_refl _,by omega⟩,λb o n c e=>?_,λb o n c e=>?_⟩⟩,w6⟩
 · refine⟨Q.a,Q.b,Q.c,Q.d,Q.e,ih w.st rfl,rfl,rfl,rfl,rfl,rfl,rfl,?_⟩
   rw[show(ay [.int .i64 Q.a,.int .i64 Q.b,.int .i64 Q.c,aK Q.d,aK Q.e,.bn,.bn] 51)=lC Q .bn .bn from rfl,<-av]
   refine⟨ld1 ck rfl,dd,ld1 b5.st rfl,v2,g2,a2,c2,g3,by rw[bm];exact gI cn rfl (by simp only[putCells,c2]),w.et.sound,?_⟩
   rw[<-cN]
   exact⟨ld1 kg rfl,dM,ld1 hX.st rfl,v5,g5,a5,qR,g6,by rw[h8];exact gI pf rfl (by simp only[putCells,qR]),w.fj.sound,rfl⟩
 · rcases KG with⟨aM,_⟩|⟨ku,aM,_,_,bP,gP⟩
   · rw[aM] at e;cases e
   · rw[aM] at e;cases e;exact⟨by omega,gP⟩
 · rcases t6 with⟨aM,_⟩|⟨ku,aM,_,_,bP,gP⟩
   · rw[aM] at e;cases e
   · rw[aM] at e;cases e;exact⟨by omega,gP⟩
theorem Wb(f r:Nat)(a e:Int)(p q s:List UInt8)(h:J)(H:Q .nrm (aR [(0,aq f),(1,aq r),(5,aq h.n),(6,.bool false)] (J.push h (ay [.int .i64 a,.str p,.str q,.str s,.int .i64 e] 30)))):
  bU al Tryd.f17 call [0] (aR [(0,aq f),(1,aq r),(2,.agg [.int .i64 a,.str p,.str q,.str s,.int .i64 e])] h) Q:=
 HI [] [0,1,5,6] [(0,.v (aq f)),(1,.v (aq r)),(2,.c6 [.v (.int .i64 a),.v (.str p),.v (.str q),.v (.str s),.v (.int .i64 e)])] H
theorem Wc(f r x:Nat)(h:J)(H:∃s1,aO (h.room 8) x 1=some (.str s1)/\∃s2 g1,call (.fn 7) [.str s1] (h.room 8)=.ret (.str s2) g1/\∃bz,aO g1 x 2=some (.str bz)/\∃bT g2,call (.fn 7) [.str bz] g1=.ret (.str bT) g2/\aO (h.room 8) x 2=some (.str bz)/\Q .nrm (aR [(0,aq f),(1,aq r),(5,aq x),(6,.bool false),(7,.str s2),(8,.str bT)] g2)):
  bU al Tryd.f17 call [1,0] (aR [(0,aq f),(1,aq r),(5,aq x),(6,.bool false)] h) Q:=
 du [] [0,1,5,6,7,8] [] H
theorem Wd(f r x:Nat)(p q:List UInt8)(h:J)(H:∃bS:Int,aO h x 0=some (.int .i64 bS)/\Q .nrm (aR [(0,aq f),(1,aq r),(5,aq x),(6,.bool false),(7,.str p),(8,.str q),(28,.int .i64 bS)] h)):
  bU al Tryd.f17 call [1,1,0,0] (aR [(0,aq f),(1,aq r),(5,aq x),(6,.bool false),(7,.str p),(8,.str q)] h) Q:=
 du [(28,.aY (.z .i64))] [0,1,5,6,7,8,28] [] H
theorem We(f r x:Nat)(p q:List UInt8)(z:Int)(h:J)(H:(dP z (.ofNat 0)=true->Q .nrm (aR [(0,aq f),(1,aq r),(5,aq x),(6,.bool false),(7,.str p),(8,.str q),(28,.int .i64 z),(29,.bool true)] h))/\(dP z (.ofNat 0)=false->(dP z (.ofNat 1)=true->Q .nrm (aR [(0,aq f),(1,aq r),(5,aq x),(6,.bool false),(7,.str p),(8,.str q),(28,.int .i64 z),(29,.bool true)] h))/\(dP z (.ofNat 1)=false->Q .nrm (aR [(0,aq f),(1,aq r),(5,aq x),(6,.bool false),(7,.str p),(8,.str q),(28,.int .i64 z),(29,.bool (dP z (.ofNat 2)))] h)))):
  bU al Tryd.f17 call [1,1,0,1,0,0] (aR [(0,aq f),(1,aq r),(5,aq x),(6,.bool false),(7,.str p),(8,.str q),(28,.int .i64 z)] h) Q:=
 du [] [0,1,5,6,7,8,28,29] [28] H
theorem Wf(f r x:Nat)(p q:List UInt8)(z:Int)(h:J)(H:true=true/\∃bS:Int,∃s1 s2 bz,∃z2:Int,aS.loadCells h x 0 5=some [.int .i64 bS,.str s1,.str s2,.str bz,.int .i64 z2]/\∃bT g1,call (.fn 10) [.agg [.int .i64 bS,.str s1,.str s2,.str bz,.int .i64 z2]] h=.ret (.str bT) g1/\∃aE a_ g2,call (.fn 9) [aq f,.str p,.str bT] g1=.ret (.aF [aK aE,ai a_]) g2/\∃z3:Int,∃b0 cC cY,∃z4:Int,aS.loadCells g2 x 0 5=some [.int .i64 z3,.str b0,.str cC,.str cY,.int .i64 z4]/\∃xu g3,call (.fn 10) [.agg [.int .i64 z3,.str b0,.str cC,.str cY,.int .i64 z4]] g2=.ret (.str xu) g3/\∃bZ cG g4,call (.fn 34) [aq r,.str p,.str xu] g3=.ret (.aF [aK bZ,ai cG]) g4/\aE=bZ/\Q .ret (aR [(6,.bool (eJ a_ cG))] g4)):
  bU al Tryd.f17 call [1,1,0,1,0,1] (aR [(0,aq f),(1,aq r),(5,aq x),(6,.bool false),(7,.str p),(8,.str q),(28,.int .i64 z),(29,.bool true)] h) Q:=
 du [(1029,.t),(36,.aY (.c6 [.z .i64,.st,.st,.st,.z .i64])),(38,.aY (.dw [.n .u64,.n .i64])),(33,.aY (.dw [.n .u64,.n .i64])),(44,.aY (.c6 [.z .i64,.st,.st,.st,.z .i64])),(46,.aY (.dw [.n .u64,.n .i64])),(41,.aY (.dw [.n .u64,.n .i64])),(1053,.t)] [6] [28] H
theorem Wg(f r x:Nat)(p q:List UInt8)(z:Int)(h:J)(H:false=false/\dP z (.ofNat 3)=true/\∃aE g1,call (.fn 12) [aq f,.str p] h=.ret (ai aE) g1/\∃a_ g2,call (.fn 35) [aq r,.str p] g1=.ret (ai a_) g2/\Q .ret (aR [(6,.bool (eJ aE a_))] g2)):
  bU al Tryd.f17 call [1,1,0,1,0,1] (aR [(0,aq f),(1,aq r),(5,aq x),(6,.bool false),(7,.str p),(8,.str q),(28,.int .i64 z),(29,.bool false)] h) Q:=
 du [(1029,.f),(1057,.t),(61,.aY (.n .i64)),(64,.aY (.n .i64))] [6] [28] H
theorem Wh(f r x:Nat)(p q:List UInt8)(z:Int)(h:J)(H:false=false/\dP z (.ofNat 3)=false/\dP z (.ofNat 4)=true/\∃aE a_ g1,call (.fn 13) [aq f,.str p,.str q] h=.ret (.aF [aK aE,ai a_]) g1/\∃bZ cG g2,call (.fn 36) [aq r,.str p,.str q] g1=.ret (.aF [aK bZ,ai cG]) g2/\aE=bZ/\Q .ret (aR [(6,.bool (eJ a_ cG))] g2)):
  bU al Tryd.f17 call [1,1,0,1,0,1] (aR [(0,aq f),(1,aq r),(5,aq x),(6,.bool false),(7,.str p),(8,.str q),(28,.int .i64 z),(29,.bool false)] h) Q:=
 du [(1029,.f),(1057,.f),(1066,.t),(72,.aY (.dw [.n .u64,.n .i64])),(68,.aY (.dw [.n .u64,.n .i64])),(79,.aY (.dw [.n .u64,.n .i64])),(75,.aY (.dw [.n .u64,.n .i64])),(1086,.t)] [6] [28] H
theorem Wi(f r x:Nat)(p q:List UInt8)(z:Int)(h:J)(H:false=false/\dP z (.ofNat 3)=false/\dP z (.ofNat 4)=false/\Q .nrm (aR [(0,aq f),(1,aq r),(6,.bool false),(7,.str p)] h)):
  bU al Tryd.f17 call [1,1,0,1,0,1] (aR [(0,aq f),(1,aq r),(5,aq x),(6,.bool false),(7,.str p),(8,.str q),(28,.int .i64 z),(29,.bool false)] h) Q:=
 du [(1029,.f),(1057,.f),(1066,.f)] [0,1,6,7] [28] H
theorem Wj(f r:Nat)(p:List UInt8)(h:J)(H:∃s1 s2 aE a_ g1,call (.fn 11) [aq f,.str p] h=.ret (.aF [.agg [.str s1,.str s2,aK aE],ai a_]) g1/\∃g2,aS.storeCells (J.push g1 (ay [.str [],.str [],aK 0] 40)) g1.n 0 [.str s1,.str s2,aK aE]=some g2/\∃bz bT bZ cG g3,call (.fn 37) [aq r,.str p] g2=.ret (.aF [.agg [.str bz,.str bT,aK bZ],ai cG]) g3/\∃g4,aS.storeCells (J.push g3 (ay [.str [],.str [],aK 0] 40)) g3.n 0 [.str bz,.str bT,aK bZ]=some g4/\∃b0 cC eg,aS.loadCells g4 g1.n 0 3=some [.str b0,.str cC,aK eg]/\∃cY xu n6,aS.loadCells g4 g3.n 0 3=some [.str cY,.str xu,aK n6]/\ec al g4 .eql 40 (.tmp 102) (.tmp 103) (.agg [.str b0,.str cC,aK eg]) (.agg [.str cY,.str xu,aK n6])=some (.bool true)/\Q .ret (aR [(6,.bool (eJ a_ cG))] g4)):
  bU al Tryd.f17 call [1,1,1] (aR [(0,aq f),(1,aq r),(6,.bool false),(7,.str p)] h) Q:=
 du [(93,.aY (.dw [.c6 [.st,.st,.n .u64],.n .i64])),(90,.aY (.dw [.c6 [.st,.st,.n .u64],.n .i64])),(99,.aY (.dw [.c6 [.st,.st,.n .u64],.n .i64])),(96,.aY (.dw [.c6 [.st,.st,.n .u64],.n .i64])),(102,.aY (.c6 [.st,.st,.n .u64])),(103,.aY (.c6 [.st,.st,.n .u64])),(104,.aY (.is (.bool true))),(1106,.t)] [6] [] H
structure qW(O eA Or:Nat->Prop)(h:J)(f r:Nat)(Q:cT)(i:Nat)(s:cj)(rs:fp):Prop where
 mS:dL (λd=>¬eA d/\d<h.n) h f Q s
 eN:iS Or h r Q i s rs
 fit:h4 i s
 of:∀d,eA d->O d
 or:∀d,Or d->O d
 ds:∀d,eA d->¬Or d
 bY:∀d,O d->d<h.n
def fM(O:Nat->Prop)(h:J)(f r:Nat)(Q:cT)(i:Nat)(s:cj):Prop:=∃eA Or rs,qW O eA Or h f r Q i s rs
theorem dL.wide{eA:Nat->Prop}{h g:J}{f:Nat}{Q:cT}{s:cj}(w:dL (λd=>¬eA d/\d<h.n) h f Q s)(aC:h.n<=g.n)(hk:∀d,d<h.n->eA d->g.get d=h.get d):dL (λd=>¬eA d/\d<g.n) g f Q s:=
 w.move aC (λd ak kh=>hk d ak (Classical.byContradiction λaf=>kh ⟨af,ak⟩)) λd ak af=>⟨af.1,ak⟩
theorem qW.ext{O eA Or:Nat->Prop}{h g:J}{f r:Nat}{Q:cT}{i:Nat}{s:cj}{rs:fp}(w:qW O eA Or h f r Q i s rs)(x:Ext h.n h g):qW O eA Or g f r Q i s rs:=
 ⟨w.mS.wide x.n λd ak _=>x.get d ak,w.eN.ext x,w.fit,w.of,w.or,w.ds,λd ak=>Nat.lt_of_lt_of_le (w.bY d ak) x.n⟩
theorem fM.ext{O:Nat->Prop}{h g:J}{f r:Nat}{Q:cT}{i:Nat}{s:cj}(w:fM O h f r Q i s)(x:Ext h.n h g):fM O g f r Q i s:=by
 obtain⟨eA,Or,rs,w⟩:=w
 exact⟨eA,Or,rs,w.ext x⟩
theorem fM.eM{O j9:Nat->Prop}{h g:J}{f r:Nat}{Q:cT}{i:Nat}{s:cj}(w:fM O h f r Q i s)(k:eo j9 h g)(ak:∀d,O d->¬j9 d):fM O g f r Q i s:=by
 obtain⟨eA,Or,rs,w⟩:=w
 obtain⟨dd,dM,bQ⟩:=w.eN.cV
 exact⟨eA,Or,rs,w.mS.wide k.n λd h1 aa=>k.get d h1 (ak d (w.of d aa)),⟨⟨dd,dM,bQ.move k.n (λd h1 aa=>k.get d h1 (ak d (w.or d aa))) λ_ h=>h⟩,w.eN.rel,w.eN.kV⟩,w.fit,w.of,w.or,w.ds,λd ak=>Nat.lt_of_lt_of_le (w.bY d ak) k.n⟩
theorem fM.sub{O j9:Nat->Prop}{h:J}{f r:Nat}{Q:cT}{i:Nat}{s:cj}(w:fM O h f r Q i s)(hO:∀d,O d->j9 d)(ae:∀d,j9 d->d<h.n):fM j9 h f r Q i s:=by
 obtain⟨eA,Or,rs,w⟩:=w
 exact⟨eA,Or,rs,w.mS,w.eN,w.fit,λd h=>hO d (w.of d h),λd h=>hO d (w.or d h),w.ds,ae⟩
theorem fM.up{O:Nat->Prop}{h:J}{f r:Nat}{Q:cT}{i:Nat}{s:cj}(w:fM O h f r Q i s):fM O h f r Q (i+1) s:=by
 obtain⟨eA,Or,rs,w⟩:=w
 exact⟨eA,Or,rs,w.mS,⟨w.eN.cV,w.eN.rel,by have:=w.eN.kV;omega⟩,w.fit.up,w.of,w.or,w.ds,w.bY⟩
theorem jh.xv{O eA:Nat->Prop}{h g:J}(k:jh (λd=>¬eA d/\d<h.n) h g)(of:∀d,eA d->O d):eo O h g:=⟨k.n,λd ak hO=>k.get d ak ⟨λaf=>hO (of d af),ak⟩⟩
theorem qW.mid{O eA Or:Nat->Prop}{h g:J}{f r:Nat}{Q:cT}{i:Nat}{s:cj}{rs:fp}(w:qW O eA Or h f r Q i s rs)(xw:jh (λd=>¬eA d/\d<h.n) h g):iS Or g r Q i s rs:=by
 obtain⟨dd,dM,bQ⟩:=w.eN.cV
 exact⟨⟨dd,dM,bQ.move xw.n (λd h1 aa=>xw.get d h1 ⟨λaf=>w.ds d af aa,h1⟩) λ_ h=>h⟩,w.eN.rel,w.eN.kV⟩
theorem qW.step{O eA Or:Nat->Prop}{h g ct k:J}{f r:Nat}{Q:cT}{i:Nat}{s aV:cj}{rs jV:fp}(w:qW O eA Or h f r Q i s rs)(xw:jh (λd=>¬eA d/\d<h.n) h g)(wf:dL (λd=>¬eA d/\d<h.n) g f Q aV)(cH:Ext g.n g ct)(eN:iS (ei Or ct k) k r Q (i+1) aV jV)(xv:eo Or ct k)(fit:h4 (i+1) aV):fM (ei O h k) k f r Q (i+1) aV/\eo O h k:=by
 have aE:=xw.n
 have a_:=cH.n
 have bZ:=xv.n
 have b2:∀d,eA d->d<h.n:=λd ak=>w.bY d (w.of d ak)
 have FR:∀d,Or d->d<h.n:=λd ak=>w.bY d (w.or d ak)
 have f1:dL (λd=>¬ei eA h g d/\d<g.n) g f Q aV:=wf.move (Nat.le_refl _) (λ_ _ _=>rfl) λd ak af=>⟨λh1=>af.1 (.inl h1),Classical.byContradiction λh1=>af.1 (.inr ⟨by omega,ak⟩)⟩
 have gb:∀d,ei eA h g d->¬Or d:=λd ak hO=>by
  rcases ak with ak|ak
  · exact w.ds d ak hO
  · have:=FR d hO;omega
 have f2:dL (λd=>¬ei eA h g d/\d<k.n) k f Q aV:=f1.wide (by omega) λd ak af=>(xv.get d (by omega) (gb d af)).trans (cH.get d ak)
 refine⟨⟨ei eA h g,ei Or ct k,jV,f2,eN,fit,λd ak=>?_,λd ak=>?_,λd ak tp=>?_,λd ak=>?_⟩,⟨by omega,λd ak hO=>?_⟩⟩
 · exact ak.imp (w.of d) λak=>⟨ak.1,by omega⟩
 · exact ak.imp (w.or d) λak=>⟨by omega,ak.2⟩
 · rcases tp with tp|tp
   · exact gb d ak tp
   · rcases ak with ak|ak
     · have:=b2 d ak;omega
     · omega
 · rcases ak with ak|ak
   · have:=w.bY d ak;omega
   · exact ak.2
 · exact(xv.get d (by omega) λaf=>hO (w.or d af)).trans ((cH.get d (by omega)).trans ((xw.xv w.of).get d ak hO))
theorem Wk(h:J):hL al (bG Tryd.f17) Tryd.f17 [(6,.bool true)] h=some (.bool true):=by kernel_rfl
theorem Ae(n:Nat):eJ n n=true:=by unfold eJ;rw[sS];simp
theorem Wl(h:J)(f:bV)(x y:Operand):ec al h .eql 40 x y (.agg (cW f)) (.agg (cW f))=some (.bool true):=by
 rw[TK,(TL f f).2 rfl]
theorem DZ(s:cj):nO [] s:=λc=>Nat.zero_le _
theorem KH(m:Nat)(hm:60<=m){O:Nat->Prop}{h:J}{f r i:Nat}{Q:cT}{s:cj}(w:fM O h f r Q i s)(ag:i<=150)(a:Act):
  ∃g aV,Y (m+5) (.fn 17) [.ptr f 0,.ptr r 0,.agg (kR a)] h=.ret (.bool true) g/\fM (ei O h g) g f r Q (i+1) aV/\eo O h g:=by
 obtain⟨Z,uL⟩:∃Z:aU->aB->Prop,Z=λe st=>∃g aV,e=.ret/\st=aR [(6,.bool true)] g/\fM (ei O h g) g f r Q (i+1) aV/\eo O h g:=⟨_,rfl⟩
 refine tW (P:=al) (intr:=fl) (n:=m+4) (R:=λy=>∃g aV,y=.ret (.bool true) g/\fM (ei O h g) g f r Q (i+1) aV/\eo O h g) Tryd.func17 (by kernel_rfl) (by rfl) (by kernel_rfl) (Q:=Z) ?_ (λe st bj=>?_)
 rotate_left
 · rw[uL] at bj
   obtain⟨g,aV,rfl,rfl,a,b⟩:=bj
   exact .inl ⟨.inl rfl,rfl,_,Wk _,g,aV,rfl,a,b⟩
 obtain⟨h1,av⟩:∃g,g=h.push (ay (kR a) 30):=⟨_,rfl⟩
 have aE:h1.n=h.n+1:=by rw[av];rfl
 have cH:Ext h.n h h1:=by rw[av];exact Ext.push (Nat.le_refl _) _
 have ck:h1.get h.n=some (ay (kR a) 30):=by rw[av];exact c8 rfl
 obtain⟨cZ,nj⟩:∃g,g=h1.room 8:=⟨_,rfl⟩
 have n8:cZ.n=h1.n+8:=by rw[nj];rfl
 have zM:Ext h1.n h1 cZ:=by rw[nj];exact Ext.room _ _ _
 have uN:cZ.get h.n=some (ay (kR a) 30):=by rw[nj];exact ck
 have D0:Ext h.n h cZ:=cH.trans (by omega) zM
 have dw:(a.p.take 200).length<=200:=by rw[List.length_take];omega
 have fj:(a.t.take 200).length<=200:=by rw[List.length_take];omega
 generalize a8:a.p.take 200=p at dw
 generalize bj:a.t.take 200=q at fj
 have kV:=TG a.x a.m
 have gV:=w.ext D0
 obtain⟨eA,Or,rs,gV⟩:=gV
 have Wm:O h.n->False:=λaf=>by
  obtain⟨_,_,_,w⟩:=w
  have:=w.bY _ af;omega
 have X9:∀d,(¬eA d/\d<cZ.n)->d<cZ.n:=λd ak=>ak.2
 have D1:s.e1<=1000000:=by have:=gV.fit.fs;simp only[Int.ofNat_eq_natCast] at this;omega
 have KI:∀c,cE s.ts c<=1000000:=λc=>by have:=gV.fit.bF c;omega
 have fin:∀{k:J} {aV:cj},fM (ei O cZ k) k f r Q (i+1) aV->eo O cZ k->Z .ret (aR [(6,.bool true)] k):=λ{k aV} a b=>by
  rw[uL]
  have:=b.n
  exact⟨k,aV,rfl,rfl,a.sub (ei.after D0.n) λd ak=>(by
   rcases ak with ak|ak
   · obtain⟨_,_,_,w⟩:=w
     have:=w.bY _ ak;omega
   · exact ak.2),eo.after D0 b⟩
 have W:bU al Tryd.f17 (Y (m+4)) [1,1,0,1,0,1] (aR [(0,.ptr f 0),(1,.ptr r 0),(5,.ptr h.n 0),(6,.bool false),(7,.str p),(8,.str q),(28,.int .i64 a.w),(29,.bool true)] cZ) λe st=>e=.ret/\Z e st:=by
  obtain⟨g1,c1,gH⟩:=JR (m+2) a.w a.m a.p a.t a.x cZ
  have m1:=gH.n
  have b5:=gV.ext gH
  obtain⟨g2,c2,f2,bA⟩:=RT (m+3) z1 (a:=p) (t:=uG a.x a.m) (by omega) b5.mS b5.fit.ok D1 (by omega) (by omega) KI λd ak=>ak.2
  obtain⟨h9,_⟩:=TN (cl:=eh) b5.fit (DZ s) p kV
  have m2:=bA.n
  have cn:g2.get h.n=some (ay (kR a) 30):=(bA.get h.n (by omega) ⟨λaf=>Wm (b5.of _ af),by omega⟩).trans ((gH.get h.n (by omega)).trans uN)
  obtain⟨g3,c3,sV⟩:=JR (m+2) a.w a.m a.p a.t a.x g2
  have dv:=(b5.mid bA).ext sV
  obtain⟨Wn,Wo⟩:=b5.mS.q
  obtain⟨g4,jV,gG,dm,fe⟩:=VX (m+1) dv b5.fit (by omega) Wn Wo (a:=p) (t:=uG a.x a.m) (by omega) (by omega)
  obtain⟨xx,qX⟩:=b5.step bA f2 sV dm fe h9
  refine Wf _ f r h.n p q a.w cZ ⟨rfl,a.w,a.p,a.t,a.x,a.m,ih uN rfl,_,g1,c1,_,_,g2,c2,a.w,a.p,a.t,a.x,a.m,ih cn rfl,_,g3,c3,_,_,g4,gG,rfl,rfl,?_⟩
  rw[Ae]
  exact fin (xx.sub (ei.after gH.n) λd ak=>(by
   rcases ak with ak|ak
   · have:=gV.bY d ak;have:=qX.n;omega
   · exact ak.2)) (eo.after gH qX)
 refine fZ [] (Wb _ f r a.w a.m a.p a.t a.x h ?_)
 rw[show(h.push (ay [.int .i64 a.w,.str a.p,.str a.t,.str a.x,.int .i64 a.m] 30))=h1 from av.symm]
 refine fZ [1] (Wc _ f r h.n h1 ?_)
 rw[<-nj]
 refine⟨a.p,ld1 uN rfl,p,cZ,by rw[<-a8];exact DE _ _ _,a.t,ld1 uN rfl,q,cZ,by rw[<-bj];exact DE _ _ _,ld1 uN rfl,?_⟩
 refine fZ [1,1] (fZ [1,1,0] (Wd _ f r h.n p q cZ ⟨a.w,ld1 uN rfl,bU.block (p:=[1,1,0,1]) (id:=0) (by kernel_rfl) (fZ [1,1,0,1,0] ?_)⟩))
 have D2:∀{R:aU->aB->Prop},(∀st,Z .ret st->R .ret st)->bU al Tryd.f17 (Y (m+4)) [1,1,0,1,0,1] (aR [(0,.ptr f 0),(1,.ptr r 0),(5,.ptr h.n 0),(6,.bool false),(7,.str p),(8,.str q),(28,.int .i64 a.w),(29,.bool true)] cZ) R:=λ{R} dJ=>by
  obtain⟨e,st,h1,aa,ao⟩:=W
  subst aa
  exact⟨_,st,h1,dJ st ao⟩
 refine We _ f r h.n p q a.w cZ ⟨λ_=>D2 λst af=>af,λ_=>⟨λ_=>D2 λst af=>af,λ_=>?_⟩⟩
 cases cn:dP a.w (.ofNat 2) with
 |true=>exact D2 λst af=>af
 |false=>
  cases fT:dP a.w (.ofNat 3) with
  |true=>
   obtain⟨g2,c2,f2,bA⟩:=RY (m+3) z1 (a:=p) (by omega) gV.mS gV.fit.ok D1 (by omega) λd ak=>ak.2
   obtain⟨h9,_⟩:=AX (cl:=eh) gV.fit (DZ s) p
   obtain⟨g4,jV,gG,dm,fe⟩:=VW m (gV.mid bA) gV.fit.ok (a:=p) (by omega)
   obtain⟨xx,qX⟩:=gV.step bA f2 (Ext.refl _ _) dm fe h9
   refine Wg _ f r h.n p q a.w cZ ⟨rfl,fT,_,g2,c2,_,g4,gG,?_⟩
   rw[Ae]
   exact fin xx qX
  |false=>
   cases kg:dP a.w (.ofNat 4) with
   |true=>
    obtain⟨g2,c2,f2,bA⟩:=R7 (m+3) z1 (a:=p) (b:=q) (by omega) gV.mS gV.fit.ok D1 (by omega) (by omega) KI λd ak=>ak.2
    obtain⟨h9,_⟩:=TO (cl:=eh) gV.fit (DZ s) p q
    obtain⟨g4,jV,gG,dm,fe⟩:=VZ m (gV.mid bA) gV.fit (by omega) (a:=p) (b:=q) (by omega) (by omega)
    obtain⟨xx,qX⟩:=gV.step bA f2 (Ext.refl _ _) dm fe h9
    refine Wh _ f r h.n p q a.w cZ ⟨rfl,fT,kg,_,_,g2,c2,_,_,g4,gG,rfl,?_⟩
    rw[Ae]
    exact fin xx qX
   |false=>
    refine Wi _ f r h.n p q a.w cZ ⟨rfl,fT,kg,?_⟩
    obtain⟨g1,c1,v1,gH⟩:=R2 (m+3) z1 (a:=p) (by omega) gV.mS (by omega) λd ak=>ak.2
    have m1:=gH.n
    obtain⟨g2,t2,m2,d2,ic⟩:=xm g1 (eR eh p s).1
    have D3:Ext cZ.n cZ g2:=gH.trans m1 ic
    obtain⟨g3,c3,sV⟩:=DY (m+1) (gV.eN.ext D3) gV.fit.ok (a:=p) (by omega)
    have m3:=sV.n
    obtain⟨g4,t4,m4,d4,Du⟩:=xm g3 (eR eh p s).1
    have KJ:Ext g2.n g2 g4:=sV.trans m3 Du
    have D4:Ext cZ.n cZ g4:=D3.trans D3.n KJ
    refine Wj _ f r p cZ ⟨_,_,_,_,g1,c1,g2,t2,_,_,_,_,g3,c3,g4,t4,_,_,_,ih ((KJ.get g1.n (by omega)).trans d2) rfl,_,_,_,ih d4 rfl,Wl _ _ _ _,?_⟩
    rw[Ae]
    exact fin (fM.up (fM.sub (fM.ext ⟨eA,Or,rs,gV⟩ D4) (λd ak=>.inl ak) λd ak=>(by
     rcases ak with ak|ak
     · have:=gV.bY d ak;have:=D4.n;omega
     · exact ak.2))) (eo.ext D4)
theorem Wp(a b c:Int)(d e:Nat)(v:I)(h:J)(H:Q .nrm (aR [(1,v),(2,aq h.n)] (J.push h (ay [.int .i64 a,.int .i64 b,.int .i64 c,aK d,aK e] 24)))):
  bU al Tryd.f4 call [0] (aR [(0,.agg [.int .i64 a,.int .i64 b,.int .i64 c,aK d,aK e]),(1,v)] h) Q:=
 HI [] [1,2] [(0,.c6 [.v (.int .i64 a),.v (.int .i64 b),.v (.int .i64 c),.v (aK d),.v (aK e)]),(1,.o v)] H
theorem Wq(q:Nat)(v:I)(h:J)(H:∃bS:Int,∃z2:Int,∃z3:Int,∃aE a_,aS.loadCells (h.room 7) q 0 5=some [.int .i64 bS,.int .i64 z2,.int .i64 z3,aK aE,aK a_]/\∃bZ g1,call (.fn 6) [.agg [.int .i64 bS,.int .i64 z2,.int .i64 z3,aK aE,aK a_]] (h.room 7)=.ret (aq bZ) g1/\∃z4:Int,∃z5:Int,∃ly:Int,∃cG eg,aS.loadCells g1 q 0 5=some [.int .i64 z4,.int .i64 z5,.int .i64 ly,aK cG,aK eg]/\I.ca (.int .i64 z4)=true/\I.ca (.int .i64 z5)=true/\I.ca (.int .i64 ly)=true/\I.ca (.int .i64 z4)=true/\I.ca (.int .i64 z5)=true/\I.ca (.int .i64 ly)=true/\I.sound (.int .i64 bS)=true/\I.sound (.int .i64 z2)=true/\I.sound (.int .i64 z3)=true/\I.sound (.int .i64 z4)=true/\I.sound (.int .i64 z5)=true/\I.sound (.int .i64 ly)=true/\aS.loadCells (J.set g1 (h.n+4) (some (ay [.int .i64 z4,.int .i64 z5,.int .i64 ly,aK cG,aK eg,.bn,.bn] 51))) q 0 5=some [.int .i64 z4,.int .i64 z5,.int .i64 ly,aK cG,aK eg]/\aS.loadCells (h.room 7) q 0 5=some [.int .i64 z4,.int .i64 z5,.int .i64 ly,aK cG,aK eg]/\I.sound (.int .i64 z4)=true/\I.sound (.int .i64 z5)=true/\I.sound (.int .i64 ly)=true/\Q .nrm (aR [(1,v),(5,aq bZ),(6,aq (h.n+4))] (J.set g1 (h.n+4) (some (ay [.int .i64 z4,.int .i64 z5,.int .i64 ly,aK cG,aK eg,.bn,.bn] 51))))):
  bU al Tryd.f4 call [1,0] (aR [(1,v),(2,aq q)] h) Q:=
 du [(12,.aY (.c6 [.z .i64,.z .i64,.z .i64,.n .u64,.n .u64])),(14,.aY (.c6 [.z .i64,.z .i64,.z .i64,.n .u64,.n .u64]))] [1,5,6] [1] H
theorem Wr(f r:Nat)(v:I)(h:J)(H:Q .nrm (aR [(1,v),(5,aq f),(6,aq r)] h)):
  bU al Tryd.f4 call [1,1,0] (aR [(1,v),(5,aq f),(6,aq r)] h) Q:=
 du [] [1,5,6] [1] H
theorem Ws(f r:Nat)(v:I)(h:J)(H:Q .nrm (aR [(1,v),(5,aq f),(6,aq r),(7,.c_)] h)):
  bU al Tryd.f4 call [1,1,1,0] (aR [(1,v),(5,aq f),(6,aq r)] h) Q:=
 du [] [1,5,6,7] [1] H
theorem Wt(f r:Nat)(v:I)(h:J)(H:Q .nrm (aR [(1,v),(5,aq f),(6,aq r),(7,.c_),(8,.c_)] h)):
  bU al Tryd.f4 call [1,1,1,1,0] (aR [(1,v),(5,aq f),(6,aq r),(7,.c_)] h) Q:=
 du [] [1,5,6,7,8] [1] H
theorem Wu(f r:Nat)(v:I)(h:J)(H:Q .nrm (aR [(1,v),(5,aq f),(6,aq r),(7,.c_),(8,.c_),(9,ai 0)] h)):
  bU al Tryd.f4 call [1,1,1,1,1,0,0] (aR [(1,v),(5,aq f),(6,aq r),(7,.c_),(8,.c_)] h) Q:=
 du [] [1,5,6,7,8,9] [1] H
theorem Wv(f r i:Nat)(v g7 g8:I)(h:J)(H:∃aE,fO al h 25 v=some (ai aE)/\(i<aE->(i<60->Q .nrm (aR [(1,v),(5,aq f),(6,aq r),(7,g7),(8,g8),(9,ai i)] h))/\(¬i<60->Q (.exit 0) (aR [(1,v),(5,aq f),(6,aq r),(7,g7),(8,g8),(9,ai i)] h)))/\(¬i<aE->Q (.exit 0) (aR [(1,v),(5,aq f),(6,aq r),(7,g7),(8,g8),(9,ai i)] h))):
  bU al Tryd.f4 call [1,1,1,1,1,0,1,0,0,0] (aR [(1,v),(5,aq f),(6,aq r),(7,g7),(8,g8),(9,ai i)] h) Q:=
 du [] [1,5,6,7,8,9] [1,7,8] H
theorem Ww(eS off N f r i:Nat)(cp:cb)(g7 g8:I)(h:J)(H:i<N/\∃bS:Int,∃s1 s2 bz,∃z2:Int,aS.loadCells (h.room 25) eS (off+i*5) 5=some [.int .i64 bS,.str s1,.str s2,.str bz,.int .i64 z2]/\∃g1,call (.fn 17) [aq f,aq r,.agg [.int .i64 bS,.str s1,.str s2,.str bz,.int .i64 z2]] (h.room 25)=.ret (.bool true) g1/\∃v1 g2,call (.fn 8) [aq f] g1=.ret v1 g2/\∃v2,aO g2 r 5=some v2/\∃g3,call (.fn 18) [v1,v2] g2=.ret (.bool true) g3/\∃aE g4,call (.fn 15) [aq f] g3=.ret (ai aE) g4/\∃a_ g5,call (.fn 19) [aq r] g4=.ret (ai a_) g5/\I.sound (.int .i64 bS)=true/\I.sound (.int .i64 z2)=true/\l9 v2/\aO g1 r 5=some v2/\aE=a_/\Q .nrm (aR [(1,.slice eS off N cp),(5,aq f),(6,aq r),(7,g7),(8,g8),(9,ai i)] g5)):
  bU al Tryd.f4 call [1,1,1,1,1,0,1,0,0,1,0,0,0] (aR [(1,.slice eS off N cp),(5,aq f),(6,aq r),(7,g7),(8,g8),(9,ai i)] h) Q:=
 du [(34,.aY (.c6 [.z .i64,.st,.st,.st,.z .i64])),(35,.aY (.is (.bool true))),(1038,.f),(39,.aY .o),(43,.aY .o),(44,.aY (.is (.bool true))),(1048,.f),(49,.aY (.n .i64)),(51,.aY (.n .i64)),(1053,.f)] [1,5,6,7,8,9] [7,8] H
theorem Wx(eS off N f r i:Nat)(cp:cb)(g7 g8:I)(h:J)(H:∃aE,arith .quo .i64 (.ofNat N) (.ofNat 3)=some (ai aE)/\Q .nrm (aR [(1,.slice eS off N cp),(5,aq f),(6,aq r),(7,g7),(8,g8),(9,ai i),(58,.bool (eJ i aE))] h)):
  bU al Tryd.f4 call [1,1,1,1,1,0,1,0,0,1,0,0,1,0,0] (aR [(1,.slice eS off N cp),(5,aq f),(6,aq r),(7,g7),(8,g8),(9,ai i)] h) Q:=
 du [(57,.aY (.n .i64))] [1,5,6,7,8,9,58] [7,8] H
theorem Wy(eS off N f r i:Nat)(cp:cb)(g7 g8:I)(h:J)(H:(true=true->∃aE g1,call (.fn 20) [aq f] h=.ret (aq aE) g1/\∃a_ g2,call (.fn 21) [aq r] g1=.ret (aq a_) g2/\Q .nrm (aR [(1,.slice eS off N cp),(5,aq f),(6,aq r),(7,aq aE),(8,aq a_),(9,ai i)] g2))/\(true=false->Q .nrm (aR [(1,.slice eS off N cp),(5,aq f),(6,aq r),(7,g7),(8,g8),(9,ai i)] h))):
  bU al Tryd.f4 call [1,1,1,1,1,0,1,0,0,1,0,0,1,0,1] (aR [(1,.slice eS off N cp),(5,aq f),(6,aq r),(7,g7),(8,g8),(9,ai i),(58,.bool true)] h) Q:=
 du [] [1,5,6,7,8,9] [7,8] H
theorem Wz(eS off N f r i:Nat)(cp:cb)(g7 g8:I)(h:J)(H:(false=true->∃aE g1,call (.fn 20) [aq f] h=.ret (aq aE) g1/\∃a_ g2,call (.fn 21) [aq r] g1=.ret (aq a_) g2/\Q .nrm (aR [(1,.slice eS off N cp),(5,aq f),(6,aq r),(7,aq aE),(8,aq a_),(9,ai i)] g2))/\(false=false->Q .nrm (aR [(1,.slice eS off N cp),(5,aq f),(6,aq r),(7,g7),(8,g8),(9,ai i)] h))):
  bU al Tryd.f4 call [1,1,1,1,1,0,1,0,0,1,0,0,1,0,1] (aR [(1,.slice eS off N cp),(5,aq f),(6,aq r),(7,g7),(8,g8),(9,ai i),(58,.bool false)] h) Q:=
 du [] [1,5,6,7,8,9] [7,8] H
theorem WA(eS off N f r i:Nat)(cp:cb)(h:J)(H:Q .nrm (aR [(1,.slice eS off N cp),(5,aq f),(6,aq r),(7,.c_),(8,.c_),(9,ai i)] (h.room 32))):
  bU al Tryd.f4 call [1,1,1,1,1,0,1,0,0,1,0,0,1,1] (aR [(1,.slice eS off N cp),(5,aq f),(6,aq r),(7,.c_),(8,.c_),(9,ai i)] h) Q:=
 du [] [1,5,6,7,8,9] [] H
theorem WB(eS off N f r g s i:Nat)(cp:cb)(h:J)(H:∃aE,arith .rem .i64 (.ofNat i) (.ofNat 3)=some (ai aE)/\¬aE=0/\Q .nrm (aR [(1,.slice eS off N cp),(5,aq f),(6,aq r),(7,aq g),(8,aq s),(9,ai i)] (h.room 32))):
  bU al Tryd.f4 call [1,1,1,1,1,0,1,0,0,1,0,0,1,1] (aR [(1,.slice eS off N cp),(5,aq f),(6,aq r),(7,aq g),(8,aq s),(9,ai i)] h) Q:=
 du [(69,.aY (.n .i64)),(1073,.f)] [1,5,6,7,8,9] [] H
theorem WC(eS off N f r g s i:Nat)(cp:cb)(h:J)(H:∃aE,arith .rem .i64 (.ofNat i) (.ofNat 3)=some (ai aE)/\aE=0/\(1<=N/\N<9223372036854775808)/\∃a_,arith .quo .i64 (.ofNat i) (.ofNat 3)=some (ai a_)/\(a_<=N-1/\N-1<9223372036854775808)/\N-1-a_<N/\∃bS:Int,∃s1 s2 bz,∃z2:Int,aS.loadCells (h.room 32) eS (off+(N-1-a_)*5) 5=some [.int .i64 bS,.str s1,.str s2,.str bz,.int .i64 z2]/\∃g1,call (.fn 17) [aq g,aq s,.agg [.int .i64 bS,.str s1,.str s2,.str bz,.int .i64 z2]] (h.room 32)=.ret (.bool true) g1/\∃v1 g2,call (.fn 8) [aq g] g1=.ret v1 g2/\∃v2,aO g2 s 5=some v2/\∃g3,call (.fn 18) [v1,v2] g2=.ret (.bool true) g3/\I.sound (.int .i64 bS)=true/\I.sound (.int .i64 z2)=true/\l9 v2/\aO g1 s 5=some v2/\Q .nrm (aR [(1,.slice eS off N cp),(5,aq f),(6,aq r),(7,aq g),(8,aq s),(9,ai i)] g3)):
  bU al Tryd.f4 call [1,1,1,1,1,0,1,0,0,1,0,0,1,1] (aR [(1,.slice eS off N cp),(5,aq f),(6,aq r),(7,aq g),(8,aq s),(9,ai i)] h) Q:=
 du [(69,.aY (.n .i64)),(80,.aY (.n .i64)),(83,.aY (.c6 [.z .i64,.st,.st,.st,.z .i64])),(1073,.t),(84,.aY (.is (.bool true))),(1087,.f),(88,.aY .o),(92,.aY .o),(93,.aY (.is (.bool true)))] [1,5,6,7,8,9] [] H
theorem KK(f r i:Nat)(v g7 g8:I)(h:J)(H:i+1<9223372036854775808/\Q .nrm (aR [(1,v),(5,aq f),(6,aq r),(7,g7),(8,g8),(9,ai (i+1))] h)):
  bU al Tryd.f4 call [1,1,1,1,1,0,1,0,0,1,1] (aR [(1,v),(5,aq f),(6,aq r),(7,g7),(8,g8),(9,ai i)] h) Q:=
 du [] [1,5,6,7,8,9] [1,7,8] H
theorem WD(f r:Nat)(h:J)(H:∃v1 g1,call (.fn 8) [aq f] h=.ret v1 g1/\Q .nrm (aR [(5,aq f),(6,aq r),(10,v1)] g1)):
  bU al Tryd.f4 call [1,1,1,1,1,1,0] (aR [(5,aq f),(6,aq r)] h) Q:=
 du [(98,.aY .o)] [5,6,10] [] H
theorem WE(f r:Nat)(v:I)(h:J)(H:Q .nrm (aR [(5,aq f),(6,aq r),(10,v),(11,ai 0)] h)):
  bU al Tryd.f4 call [1,1,1,1,1,1,1,0,0] (aR [(5,aq f),(6,aq r),(10,v)] h) Q:=
 du [] [5,6,10,11] [10] H
theorem WG(f r b N i:Nat)(h:J)(H:(i<N->i<N/\∃g1,aS.storeCells h b (0+i*3+0) [.str [97,110,111,116,104,101,114]]=some g1/\i+1<9223372036854775808/\Q .nrm (aR [(5,aq f),(6,aq r),(10,.slice b 0 N (.aH 3)),(11,ai (i+1))] g1))/\(¬i<N->Q (.exit 2) (aR [(5,aq f),(6,aq r),(10,.slice b 0 N (.aH 3)),(11,ai i)] h))):
  bU al Tryd.f4 call [1,1,1,1,1,1,1,0,1,0,0] (aR [(5,aq f),(6,aq r),(10,.slice b 0 N (.aH 3)),(11,ai i)] h) Q:=
 du [] [5,6,10,11] [] H
theorem WH(f r i:Nat)(v:I)(h:J)(H:∃aE,fO al h 32 v=some (ai aE)/\¬i<aE/\Q (.exit 2) (aR [(5,aq f),(6,aq r),(10,v),(11,ai i)] h)):
  bU al Tryd.f4 call [1,1,1,1,1,1,1,0,1,0,0] (aR [(5,aq f),(6,aq r),(10,v),(11,ai i)] h) Q:=
 du [(1102,.f)] [5,6,10,11] [10] H
theorem WI(f r:Nat)(h:J)(H:∃v1 g1,call (.fn 8) [aq f] (h.room 11)=.ret v1 g1/\∃v2,aO g1 r 5=some v2/\∃g2,call (.fn 18) [v1,v2] g1=.ret (.bool true) g2/\∃ck g3,call (.fn 16) [] g2=.ret (.bool ck) g3/\l9 v2/\aO (h.room 11) r 5=some v2/\Q .ret (aR [(4,.bool ck)] g3)):
  bU al Tryd.f4 call [1,1,1,1,1,1,1,1] (aR [(5,aq f),(6,aq r)] h) Q:=
 du [(110,.aY .o),(114,.aY .o),(115,.aY (.is (.bool true))),(1117,.t)] [4] [] H
theorem Af(m:Nat){O:Nat->Prop}{h:J}{f r i:Nat}{Q:cT}{s:cj}(w:fM O h f r Q i s):∃g1 v dd g2,Y (m+2) (.fn 8) [.ptr f 0] h=.ret v g1/\aO g1 r 5=some dd/\aO h r 5=some dd/\dd.sound=true/\Y (m+2) (.fn 18) [v,dd] g1=.ret (.bool true) g2/\Ext h.n h g2/\Ext h.n h g1/\(∃ds,sZ g1 v ds/\ds.length<=64)/\∀b o n c,v=.slice b o n c->h.n<=b:=by
 obtain⟨eA,Or,rs,w⟩:=w
 obtain⟨g1,v,L,c1,ba,hY,iW,cH,bB⟩:=TJ m w.mS w.fit.ok
 have ar:=w.eN.s4 w.fit.ok
 obtain⟨dd,dM,bQ⟩:=w.eN.cV
 have j6:=bQ.ext cH
 have e:=w.eN.rel.list hY iW
 rw[e] at ba
 obtain⟨g2,c2,cD⟩:=V5 (m+1) ba j6.et.row (by omega)
 exact⟨g1,v,dd,g2,c1,ld1 j6.st rfl,ld1 bQ.st rfl,bQ.et.sound,c2,cH.trans cH.n cD,cH,⟨_,ba,ar⟩,bB⟩
theorem WJ(m:Nat){O:Nat->Prop}{h:J}{f r i:Nat}{Q:cT}{s:cj}(w:fM O h f r Q i s)(ag:i<=150):∃n,Y (m+1) (.fn 15) [.ptr f 0] h=.ret (ai n) h/\Y (m+1) (.fn 19) [.ptr r 0] h=.ret (ai n) h:=by
 obtain⟨eA,Or,rs,w⟩:=w
 have a:=Rl m w.mS
 have ar:=w.eN.s4 w.fit.ok
 have ad:=w.eN.rel.sum w.fit.ok
 have ia:=w.fit.ok.ia
 have ae:=w.fit.fs
 obtain⟨dd,dM,bQ⟩:=w.eN.cV
 have ev:gj rs.ax<=1000000:=by
  rw[ad]
  simp only[Int.ofNat_eq_natCast] at ae ia
  omega
 have b:=Kh m bQ (by omega) ev
 refine⟨gj rs.ax,?_,b⟩
 rw[a,ad]
 exact congrArg (λz=>bM.ret (.int .i64 z) h) ia
theorem WK(m:Nat){O:Nat->Prop}{h:J}{f r i:Nat}{Q:cT}{s:cj}(w:fM O h f r Q i s)(ag:i<=150):∃g1 mC g2 r',Y (m+3) (.fn 20) [.ptr f 0] h=.ret (.ptr mC 0) g1/\Y (m+3) (.fn 21) [.ptr r 0] g1=.ret (.ptr r' 0) g2/\fM (λd=>h.n<=d/\d<g2.n) g2 mC r' Q i s/\Ext h.n h g2:=by
 obtain⟨eA,Or,rs,w⟩:=w
 obtain⟨g1,mC,c1,b5,cH⟩:=V_ m (G:=λd=>d<h.n) w.mS λd ak=>ak
 have ar:=w.eN.s4 w.fit.ok
 have kV:=w.eN.kV
 obtain⟨g2,r',c2,bQ,cD⟩:=Wa (m+2) (w.eN.cV.ext cH) (by omega) (by omega)
 have aE:=cH.n
 have a_:=cD.n
 refine⟨g1,mC,g2,r',c1,c2,⟨λd=>h.n<=d/\d<g1.n,λd=>g1.n<=d/\d<g2.n,rs,b5.move a_ (λd ak _=>cD.get d ak) λd ak af=>Classical.byContradiction λh1=>af.1 ⟨by omega,ak⟩,⟨bQ,w.eN.rel,kV⟩,w.fit,λd ak=>⟨ak.1,by omega⟩,λd ak=>⟨by omega,ak.2⟩,λd h1 aa=>by omega,λd ak=>ak.2⟩,cH.trans aE cD⟩
theorem KL{id:Nat}{A AL:aB->Prop}{Q:aU->aB->Prop}{s:aB}(h:Q .nrm s):nx A (nx AL (pb id Q)) (.exit id) s:=by simpa[pb,nx] using h
theorem KM{id:Nat}{A:aB->Prop}{Q:aU->aB->Prop}{s:aB}(h:Q .nrm s):nx A (pb id Q) (.exit id) s:=by simpa[pb,nx] using h
theorem WL(m:Nat){O:Nat->Prop}{y:J}{f r i:Nat}{Q:cT}{s:cj}(w:fM O y f r Q i s):bU al Tryd.f4 (Y (m+2)) [1,1,1,1,1,1] (aR [(5,.ptr f 0),(6,.ptr r 0)] y) λe st=>e=.ret/\∃g,st=aR [(4,.bool true)] g:=by
 obtain⟨g1,v,_,_,c1,_,_,_,_,_,cH,⟨ds,ba,RI⟩,bB⟩:=Af m w
 have aE:=cH.n
 have fin:∀z,Ext y.n y z->bU al Tryd.f4 (Y (m+2)) [1,1,1,1,1,1,1,1] (aR [(5,.ptr f 0),(6,.ptr r 0)] z) λe st=>e=.ret/\∃g,st=aR [(4,.bool true)] g:=λz Ag=>by
  obtain⟨h1,u,dd,aa,d1,d2,d3,d4,d5,_⟩:=Af m ((w.ext Ag).ext (Ext.room _ _ _))
  exact WI _ f r z ⟨u,h1,d1,dd,d2,aa,d5,true,aa,TP (m+1) aa,d4,d3,rfl,aa,rfl⟩
 refine fZ [1,1,1,1,1,1] (WD _ f r y ⟨v,g1,c1,?_⟩)
 refine fZ [1,1,1,1,1,1,1] (fZ [1,1,1,1,1,1,1,0] (WE _ f r v g1 (bU.block (p:=[1,1,1,1,1,1,1,0,1]) (id:=2) (by kernel_rfl) ?_)))
 rcases ba with⟨rfl,rfl⟩|⟨b,rfl,ae,an⟩
 · refine mH (λk st=>∃Γ,st=hi Γ g1/\eI [(5,.ptr f 0),(6,.ptr r 0),(10,.bn),(11,ai 0)] Γ) ?_ 0 _ (by omega) ⟨_,rfl,⟨rfl,rfl,rfl,rfl,trivial⟩⟩
   rintro k st ⟨Γ,rfl,fL⟩
   exact ij (WH _ f r 0 .bn g1 ⟨0,rfl,by omega,KM (ij (fin g1 cH) ⟨rfl,rfl,trivial⟩)⟩) fL
 · have rh:=bB _ _ _ _ rfl
   refine mH (λk st=>∃j z cs Γ,st=hi Γ z/\eI [(5,.ptr f 0),(6,.ptr r 0),(10,.slice b 0 ds.length (.aH 3)),(11,ai j)] Γ/\ds.length-j=k/\j<=ds.length/\Ext y.n y z/\z.get b=some (.cells cs 40 .aH 0 0)/\cs.length=ds.length*3) ?_ ds.length _ (by omega) ⟨0,g1,_,_,rfl,⟨rfl,rfl,rfl,rfl,trivial⟩,by omega,by omega,cH,an,by rw[oh (w:=3) (λ_=>rfl)]⟩
   rintro k st ⟨j,z,cs,Γ,rfl,fL,hk,aG,Ag,aW,ab⟩
   exact ij (WG _ f r b ds.length j z ⟨λh9=>⟨h9,_,gI aW (Km _ _) (DS _ rfl _ _ (by omega)),by omega,_,(by show _<k;omega),j+1,_,_,_,rfl,⟨rfl,rfl,rfl,rfl,trivial⟩,rfl,by omega,Ext.l3 rh Ag,e8 rfl,by rw[List.length_set];exact ab⟩,λ_=>KM (ij (fin z Ag) ⟨rfl,rfl,trivial⟩)⟩) fL
structure jW(iw f r:Nat)(g7 g8:I)(Q:cT)(i j:Nat)(h1 y:J)(ix:Nat->Prop)(s1:cj):Prop where
 one:fM ix y f r Q i s1
 bB:∀d,ix d->iw<=d
 n:iw<=y.n
 jg:∀d,d<iw->y.get d=h1.get d
 two:(g7=.c_/\g8=.c_)\/∃g s,∃ko:Nat->Prop,∃s2,g7=.ptr g 0/\g8=.ptr s 0/\fM ko y g s Q j s2/\(∀d,ko d->iw<=d)/\∀d,ix d->¬ko d
theorem fM.bY{O:Nat->Prop}{h:J}{f r:Nat}{Q:cT}{i:Nat}{s:cj}(w:fM O h f r Q i s):∀d,O d->d<h.n:=by
 obtain⟨eA,Or,rs,w⟩:=w
 exact w.bY
theorem jW.ext{iw f r:Nat}{g7 g8:I}{Q:cT}{i j:Nat}{h1 y g:J}{ix:Nat->Prop}{s1:cj}(b3:jW iw f r g7 g8 Q i j h1 y ix s1)(x:Ext y.n y g):jW iw f r g7 g8 Q i j h1 g ix s1:=
 ⟨b3.one.ext x,b3.bB,Nat.le_trans b3.n x.n,λd ak=>(x.get d (Nat.lt_of_lt_of_le ak b3.n)).trans (b3.jg d ak),b3.two.imp_right λ⟨g,s,ko,s2,av,au,w,k⟩=>⟨g,s,ko,s2,av,au,w.ext x,k⟩⟩
theorem jW.WM{iw f r:Nat}{g7 g8:I}{Q:cT}{i rO j:Nat}{h1 y g:J}{ix:Nat->Prop}{s1 aV:cj}(b3:jW iw f r g7 g8 Q i j h1 y ix s1)(w:fM (ei ix y g) g f r Q rO aV)(k:eo ix y g):jW iw f r g7 g8 Q rO j h1 g (ei ix y g) aV:=
 ⟨w,λd ak=>ak.elim (b3.bB d) λak=>Nat.le_trans b3.n ak.1,Nat.le_trans b3.n k.n,λd ak=>(k.get d (Nat.lt_of_lt_of_le ak b3.n) λaf=>absurd (b3.bB d af) (Nat.not_le.2 ak)).trans (b3.jg d ak),b3.two.imp_right λ⟨ct,s,ko,s2,av,au,bQ,bt,bA⟩=>⟨ct,s,ko,s2,av,au,bQ.eM k λd aa h1=>bA d h1 aa,bt,λd ak aa=>ak.elim (λh1=>bA d h1 aa) λh1=>absurd (bQ.bY d aa) (Nat.not_lt.2 h1.1)⟩⟩
theorem jW.WN{iw f r a b:Nat}{Q:cT}{i j gZ:Nat}{h1 y g:J}{ix ko:Nat->Prop}{s1 s2 aV:cj}{g7 g8:I}(b3:jW iw f r g7 g8 Q i j h1 y ix s1)(bQ:fM ko y a b Q j s2)(bt:∀d,ko d->iw<=d)(bA:∀d,ix d->¬ko d)(w:fM (ei ko y g) g a b Q gZ aV)(k:eo ko y g):jW iw f r (.ptr a 0) (.ptr b 0) Q i gZ h1 g ix s1:=
 ⟨b3.one.eM k bA,b3.bB,Nat.le_trans b3.n k.n,λd ak=>(k.get d (Nat.lt_of_lt_of_le ak b3.n) λaf=>absurd (bt d af) (Nat.not_le.2 ak)).trans (b3.jg d ak),.inr ⟨a,b,_,aV,rfl,rfl,w,λd ak=>ak.elim (bt d) λak=>Nat.le_trans b3.n ak.1,λd h1 ak=>ak.elim (bA d h1) λaa=>absurd (b3.one.bY d h1) (Nat.not_lt.2 aa.1)⟩⟩
theorem jW.nP{iw f r:Nat}{g7 g8:I}{Q:cT}{i j:Nat}{h1 y:J}{ix:Nat->Prop}{s1:cj}(b3:jW iw f r g7 g8 Q i j h1 y ix s1):jW iw f r g7 g8 Q i (j+1) h1 y ix s1:=
 ⟨b3.one,b3.bB,b3.n,b3.jg,b3.two.imp_right λ⟨g,s,ko,s2,av,au,w,k⟩=>⟨g,s,ko,s2,av,au,w.up,k⟩⟩
theorem KN(m:Nat)(hm:60<=m){iw p r eS off i:Nat}{cp:cb}{Q:cT}{h1:J}{ls:List Act}(i1:i<ls.length)(i2:i<60)(fX:ls.length<9223372036854775808)(ld:∀(z:J),(∀d,d<iw->z.get d=h1.get d)->∀j (aG:j<ls.length),aS.loadCells z eS (off+j*5) 5=some (kR ls[j])){R:aU->aB->Prop}
  (dJ:∀jz jA z O s,jW iw p r jz jA Q (i+1) (i+1+1) h1 z O s->R .nrm (aR [(1,.slice eS off ls.length cp),(5,.ptr p 0),(6,.ptr r 0),(7,jz),(8,jA),(9,ai i)] z)){jz jA:I}{y:J}{O:Nat->Prop}{s:cj}(me:jW iw p r jz jA Q (i+1) (i+1) h1 y O s):
  bU al Tryd.f4 (Y (m+6)) [1,1,1,1,1,0,1,0,0,1,0,0,1,1] (aR [(1,.slice eS off ls.length cp),(5,.ptr p 0),(6,.ptr r 0),(7,jz),(8,jA),(9,ai i)] y) R:=by
 have Ah:=me.ext (Ext.room y.n y 32)
 rcases me.two with⟨rfl,rfl⟩|⟨a,b,ko,s2,rfl,rfl,qX,bt,bA⟩
 · exact WA _ eS off _ p r i cp y (dJ _ _ _ _ _ Ah.nP)
 · by_cases ao:i %3=0
   · have KO:=qX.ext (Ext.room y.n y 32)
     have aG:ls.length-1-i/3<ls.length:=by omega
     obtain⟨g1,aV,c1,xy,D5⟩:=KH (m+1) (by omega) KO (by omega) (ls[ls.length-1-i/3])
     obtain⟨dQ,k6,kT,la,d1,d2,d3,d4,d5,ga,_⟩:=Af (m+4) xy
     have WO:=(Ah.WN KO bt bA xy D5).ext ga
     exact WC _ eS off _ p r a b i cp y ⟨i %3,G4 .i64 (by omega),ao,⟨by omega,fX⟩,i/3,GZ (by omega) (by omega),⟨by omega,by omega⟩,aG,_,_,_,_,_,ld _ Ah.jg _ aG,g1,c1,k6,dQ,d1,kT,d2,la,d5,rfl,rfl,d4,d3,dJ _ _ _ _ _ WO⟩
   · exact WB _ eS off _ p r a b i cp y ⟨i %3,G4 .i64 (by omega),ao,dJ _ _ _ _ _ Ah.nP⟩
theorem WQ(m:Nat)(hm:60<=m){h:J}{v:I}{ls:List Act}(Q:cT)(aM:xo h.n h v ls)(fX:ls.length<9223372036854775808):∃g,Y (m+7) (.fn 4) [.agg [.int .i64 Q.a,.int .i64 Q.b,.int .i64 Q.c,aK Q.d,aK Q.e],v] h=.ret (.bool true) g:=by
 refine tW (P:=al) (intr:=fl) (n:=m+6) (R:=λy=>∃g,y=.ret (.bool true) g) Tryd.func4 (by kernel_rfl) (by rfl) (by kernel_rfl) (Q:=λe st=>e=.ret/\∃g,st=aR [(4,.bool true)] g) ?_ (λe st bj=>?_)
 rotate_left
 · obtain⟨rfl,g,rfl⟩:=bj
   exact .inl ⟨.inl rfl,rfl,_,(by kernel_rfl:hL al (bG Tryd.f4) Tryd.f4 [(4,.bool true)] g=some (.bool true)),g,rfl⟩
 obtain⟨h1,gN⟩:∃x,x=h.push (xn Q):=⟨_,rfl⟩
 have X_:h1.n=h.n+1:=by rw[gN];rfl
 have WR:h1.get h.n=some (xn Q):=by rw[gN];exact c8 rfl
 have WS:Ext h.n h h1:=by rw[gN];exact Ext.push (Nat.le_refl _) _
 obtain⟨dJ,Ai⟩:∃x,x=h1.room 7:=⟨_,rfl⟩
 have Dj:dJ.n=h1.n+7:=by rw[Ai];rfl
 have gy:Ext h1.n h1 dJ:=by rw[Ai];exact Ext.room _ _ _
 have D6:dJ.get h.n=some (xn Q):=by rw[Ai];exact WR
 obtain⟨g1,p,c1,b5,cH⟩:=Rk (m+5) (F:=λd=>d<dJ.n) (h:=dJ) Q λd ak=>ak
 have aE:=cH.n
 obtain⟨g2,au⟩:∃x,x=g1.set (h1.n+4) (some (lC Q .bn .bn)):=⟨_,rfl⟩
 have a_:g2.n=g1.n:=by rw[au];rfl
 have ef:∀d,d≠h1.n+4->g2.get d=g1.get d:=λd ak=>by rw[au];exact c9 ak rfl
 have aT:g1.get h.n=some (xn Q):=(cH.get _ (by omega)).trans D6
 have bb:g2.get h.n=some (xn Q):=(ef _ (by omega)).trans aT
 have WT:jW h1.n p (h1.n+4) .c_ .c_ Q 0 1 h1 g2 (λd=>h1.n<=d/\d<g2.n) ⟨Q.a,Q.b,[],[],0⟩:=by
  refine⟨⟨λd=>dJ.n<=d/\d<g2.n,λd=>d=h1.n+4,⟨[],[]⟩,b5.move (by omega) (λd ak ae=>ef d (by omega)) (λd ak af=>Classical.byContradiction λao=>af.1 ⟨by omega,by omega⟩),⟨⟨.bn,.bn,⟨by rw[au];exact e8 rfl,.inl ⟨rfl,rfl⟩,.inl ⟨rfl,rfl⟩,⟨by omega,rfl⟩,λb o n c e=>(by cases e),λb o n c e=>(by cases e)⟩⟩,⟨.nil,λf=>Iff.rfl,λp=>rfl,List.nodup_nil⟩,Nat.le_refl _⟩,⟨⟨.nil,rfl,⟨by simp only[List.length_nil,Int.ofNat_eq_natCast];omega,by simp⟩,by show(0:Int)<=max Q.b 0;omega⟩,by simp,λc=>Nat.le_refl _⟩,λd ak=>⟨by omega,ak.2⟩,λd ak=>⟨by omega,by omega⟩,λd h1 aa=>by omega,λd ak=>ak.2⟩,λd ak=>ak.1,by omega,λd ak=>(ef d (by omega)).trans ((cH.get d (by omega)).trans (gy.get d (by omega))),.inl ⟨rfl,rfl⟩⟩
 refine fZ [] (Wp _ Q.a Q.b Q.c Q.d Q.e v h ?_)
 rw[show(h.push (ay [.int .i64 Q.a,.int .i64 Q.b,.int .i64 Q.c,aK Q.d,aK Q.e] 24))=h1 from gN.symm]
 refine fZ [1] (Wq _ h.n v h1 ?_)
 rw[<-Ai]
 refine⟨Q.a,Q.b,Q.c,Q.d,Q.e,ih D6 rfl,p,g1,c1,Q.a,Q.b,Q.c,Q.d,Q.e,ih aT rfl,rfl,rfl,rfl,rfl,rfl,rfl,rfl,rfl,rfl,rfl,rfl,rfl,by rw[au] at bb;exact ih bb rfl,ih D6 rfl,rfl,rfl,rfl,?_⟩
 rw[show(g1.set (h1.n+4) (some (ay [.int .i64 Q.a,.int .i64 Q.b,.int .i64 Q.c,aK Q.d,aK Q.e,.bn,.bn] 51)))=g2 from au.symm]
 refine fZ [1,1] (Wr _ p (h1.n+4) v g2 ?_)
 refine fZ [1,1,1] (Ws _ p (h1.n+4) v g2 ?_)
 refine fZ [1,1,1,1] (Wt _ p (h1.n+4) v g2 ?_)
 refine fZ [1,1,1,1,1] (fZ [1,1,1,1,1,0] (Wu _ p (h1.n+4) v g2 (bU.block (p:=[1,1,1,1,1,0,1]) (id:=0) (by kernel_rfl) ?_)))
 generalize h1.n+4=r at*
 refine mH (λk st=>∃i y g7 g8,∃ix:Nat->Prop,∃s1 Γ,st=hi Γ y/\eI [(1,v),(5,.ptr p 0),(6,.ptr r 0),(7,g7),(8,g8),(9,ai i)] Γ/\60-i=k/\i<=60/\jW h1.n p r g7 g8 Q i (i+1) h1 y ix s1) ?_ 60 _ (by omega) ⟨0,g2,_,_,_,_,_,rfl,⟨rfl,rfl,rfl,rfl,rfl,rfl,trivial⟩,by omega,by omega,WT⟩
 rintro k st ⟨i,y,g7,g8,ix,s1,Γ,rfl,fL,hk,ag,b3⟩
 have iy:=WL (m+4) b3.one
 refine ij (fZ [1,1,1,1,1,0,1,0,0] (Wv _ p r i v g7 g8 y ⟨ls.length,aM.len y,λi1=>⟨λi2=>?_,λ_=>KL (ij iy ⟨rfl,rfl,trivial⟩)⟩,λ_=>KL (ij iy ⟨rfl,rfl,trivial⟩)⟩)) fL
 rcases aM with⟨rfl,rfl⟩|⟨eS,off,cp,rfl,kx,l4⟩
 · simp at i1
 have ld:∀(z:J),(∀d,d<h1.n->z.get d=h1.get d)->∀j (aG:j<ls.length),aS.loadCells z eS (off+j*5) 5=some (kR ls[j]):=λz aW j aG=>TQ ((aW eS (by omega)).trans (WS.get eS kx)) (l4 j aG)
 have D7:=b3.ext (Ext.room y.n y 25)
 obtain⟨g3,bz,c3,xy,D5⟩:=KH (m+1) (by omega) D7.one (by omega) ls[i]
 obtain⟨dQ,k6,kT,la,d1,d2,d3,d4,d5,ga,_⟩:=Af (m+4) xy
 have me:=(D7.WM xy D5).ext ga
 obtain⟨lv,ck,cn⟩:=WJ (m+5) me.one (by omega)
 refine fZ [1,1,1,1,1,0,1,0,0,1] (bU.block (p:=[1,1,1,1,1,0,1,0,0,1,0]) (id:=1) (by kernel_rfl) (fZ [1,1,1,1,1,0,1,0,0,1,0,0] (Ww _ eS off ls.length p r i cp g7 g8 y ⟨i1,_,_,_,_,_,ld _ D7.jg i i1,g3,c3,k6,dQ,d1,kT,d2,la,d5,lv,la,ck,lv,la,cn,rfl,rfl,d4,d3,rfl,?_⟩)))
 refine fZ [1,1,1,1,1,0,1,0,0,1,0,0,1] (fZ [1,1,1,1,1,0,1,0,0,1,0,0,1,0] (Wx _ eS off ls.length p r i cp g7 g8 la ⟨ls.length/3,GZ (by omega) fX,?_⟩))
 cases ae:eJ i (ls.length/3) with
 |true=>
  obtain⟨g4,mC,g5,r',gG,qR,WU,hh⟩:=WK (m+3) me.one (by omega)
  have WV:jW h1.n p r (.ptr mC 0) (.ptr r' 0) Q (i+1) (i+1) h1 g5 _ bz:=⟨me.one.ext hh,me.bB,Nat.le_trans me.n hh.n,λd ak=>(hh.get d (Nat.lt_of_lt_of_le ak me.n)).trans (me.jg d ak),.inr ⟨mC,r',_,bz,rfl,rfl,WU,λd ak=>Nat.le_trans me.n ak.1,λd h1 aa=>absurd (me.one.bY d h1) (Nat.not_lt.2 aa.1)⟩⟩
  exact Wy _ eS off ls.length p r i cp g7 g8 la ⟨λ_=>⟨mC,g4,gG,r',g5,qR,KN m hm i1 i2 fX ld (λjz jA z O s K=>KK _ p r i _ jz jA z ⟨by omega,60-(i+1),by omega,i+1,z,jz,jA,O,s,_,rfl,⟨rfl,rfl,rfl,rfl,rfl,rfl,trivial⟩,rfl,by omega,K⟩) WV⟩,λh=>(by cases h)⟩
 |false=>
  exact Wz _ eS off ls.length p r i cp g7 g8 la ⟨λh=>(by cases h),λ_=>KN m hm i1 i2 fX ld (λjz jA z O s K=>KK _ p r i _ jz jA z ⟨by omega,60-(i+1),by omega,i+1,z,jz,jA,O,s,_,rfl,⟨rfl,rfl,rfl,rfl,rfl,rfl,trivial⟩,rfl,by omega,K⟩) me⟩
open Go aS Go.Proofs Go.ChangeShapes
theorem WW{H:Type}{enc:TypeId×Value->H}{W:World}{base:Nat}{sp:Nat->Bool}{held:Bool}{fuel:Nat}{v:Value}{x:DataW H×List MemPlace}(jv:al.globals.size<=W.heap.size)(aM:Value.okWide al W .any base 25 v)(h:DataW.trod enc al W 0 sp held fuel 25 [v]=some x):
  ∃(l:List Act) (μ:bd) (g:J) (u:I),bg μ g W/\fR al μ/\rV g/\xo g.n g u l/\a1 μ u v/\l.length<9223372036854775808:=by
 rcases TT h with rfl|⟨a,len,cap,rfl,ds,rfl,ab⟩
 · obtain⟨aa,ao,aI⟩:=BM (P:=al) jv
   exact⟨[],_,_,.bn,aa,ao,aI,.inl ⟨rfl,rfl⟩,rfl,by simp⟩
 · have fX:ds.length<9223372036854775808:=by
     have sE:=aM
     simp only[Value.okWide,z6,Cell.okWide,Cell.ok] at sE
     have h1:=sE.1
     have aa:=sE.2.1
     have bm:IntKind.i64.max=9223372036854775807:=by decide
     rw[bm] at aa
     omega
   by_cases aA:ds.length=0
   · obtain⟨ba,bH,dv,i,dm⟩:=T1 (P:=al) jv (T0 z6 aM)
     obtain rfl:=List.eq_nil_of_length_eq_zero aA
     exact⟨[],_,_,.slice 0 0 0 .dead,ba,bH,dv,.inr ⟨0,0,.dead,rfl,Nat.succ_pos _,λi ag=>by simp at ag⟩,⟨i,dm,rfl,a,cap,rfl⟩,fX⟩
   · obtain⟨μ,g,u,ba,bH,dv,dm,hN⟩:=TZ jv (cap:=cap) (by omega) ab
     exact⟨ds,μ,g,u,ba,bH,dv,dm,hN,fX⟩
end Go.Proofs.hD
