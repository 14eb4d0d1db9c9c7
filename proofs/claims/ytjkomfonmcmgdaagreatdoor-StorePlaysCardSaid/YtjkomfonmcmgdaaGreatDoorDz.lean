/-
  PROVED HERE: contracts of functions (Dz). No condition beside each statement's own.
-/
import Derived.Test.YtjkomfonmcmgdaaGreatDoorDy
set_option linter.unusedVariables false
set_option linter.unusedSimpArgs false
set_option maxRecDepth 100000
set_option maxHeartbeats 1000000
namespace Go.Proofs.kU
open Go bg Go.Proofs ir Go.Proofs.kh
variable {Q:bW->bL->Prop} {R:bE->Prop} (call:aW)
theorem S3(m r id:Nat)(h:ab)(H:bp an Tryz.f23 (Y m) [1,0,1,0] (aj [(0,af r),(1,aC id),(5,J 0)] h) (λb2 cc=>((∃ak bt,b2=.exit 0/\cc=aj bt ak/\bY [] bt/\R (.ret (.int .i64 (.negSucc 0)) ak))\/(∃aB av bw,b2=.ret/\cc=aj bw av/\bY [(4,J aB)] bw/\R (.ret (J aB) av))))):
  R (Y (m+1) (.fn 23) [af r,aC id] h):=
 dB [(4000,.fj [0,1,5] [(.exit 0,[]),(.ret,[(4,.n .i64)])])] [] Tryz.func23 H
theorem S4(r id i:Nat)(h:ab)(H:∃v1,aq h r 3=some v1/\∃aB,bV an h 38 v1=some (J aB)/\(i<aB->∃aY bd,aq h r 3=some (.slice aY 0 bd (.aL 8))/\i<bd/\∃bj,aq h aY (0+i*8+0)=some (aC bj)/\(bj=id->Q .ret (aj [(0,af r),(1,aC id),(4,J i),(5,J i)] h))/\(¬bj=id->i+1<9223372036854775808/\Q .nrm (aj [(0,af r),(1,aC id),(5,J (i+1))] h)))/\(¬i<aB->Q (.exit 0) (aj [(0,af r),(1,aC id),(5,J i)] h))):
  bp an Tryz.f23 call [1,0,1,0,0] (aj [(0,af r),(1,aC id),(5,J i)] h) Q:=
 c3 [(10,.a1 .o),(18,.a1 (.gH (.aL 8)))] [0,1,4,5] [] H
theorem S5(m r id:Nat)(h:ab)(H:bp an Tryz.f42 (Y m) [1,0,1,0] (aj [(0,af r),(1,aC id),(5,J 0)] h) (λb2 cc=>((∃ak bt,b2=.exit 0/\cc=aj bt ak/\bY [] bt/\R (.ret (.bool false) ak))\/(∃av bw,b2=.ret/\cc=aj bw av/\bY [(4,.bool true)] bw/\R (.ret (.bool true) av))))):
  R (Y (m+1) (.fn 42) [af r,aC id] h):=
 dB [(4000,.fj [0,1,5] [(.exit 0,[]),(.ret,[(4,.is (.bool true))])])] [] Tryz.func42 H
theorem S6(r id i:Nat)(h:ab)(H:∃v1,aq h r 3=some v1/\∃aB,bV an h 38 v1=some (J aB)/\(i<aB->∃aY bd,aq h r 3=some (.slice aY 0 bd (.aL 8))/\i<bd/\∃bj,aq h aY (0+i*8+5)=some (aC bj)/\(bj=id->Q .ret (aj [(0,af r),(1,aC id),(4,.bool true),(5,J i)] h))/\(¬bj=id->bp an Tryz.f42 call [1,0,1,0,0,1,0,0,1,1,0] (aj [(0,af r),(1,aC id),(5,J i),(6,J 0)] h) (λb2 cc=>((∃ak bt,b2=.exit 2/\cc=aj bt ak/\bY [(0,af r),(1,aC id),(5,J i)] bt/\i+1<9223372036854775808/\Q .nrm (aj [(0,af r),(1,aC id),(5,J (i+1))] ak))\/(∃av bw,b2=.ret/\cc=aj bw av/\bY [(4,.bool true)] bw/\Q .ret (aj [(4,.bool true)] av))))))/\(¬i<aB->Q (.exit 0) (aj [(0,af r),(1,aC id),(5,J i)] h))):
  bp an Tryz.f42 call [1,0,1,0,0] (aj [(0,af r),(1,aC id),(5,J i)] h) Q:=
 c3 [(11,.a1 .o),(19,.a1 (.gH (.aL 8))),(4002,.fj [0,1,5,6] [(.exit 2,[(0,.is (af r)),(1,.is (aC id)),(5,.is (J i))]),(.ret,[(4,.is (.bool true))])])] [0,1,4,5] [] H
theorem S7(r id i j:Nat)(h:ab)(H:∃aB aY,aq h r 3=some (.slice aB 0 aY (.aL 8))/\i<aY/\∃v1,aq h aB (0+i*8+4)=some v1/\∃bd,bV an h 44 v1=some (J bd)/\(j<bd->∃bj bC,aq h r 3=some (.slice bj 0 bC (.aL 8))/\i<bC/\∃bP cd,aq h bj (0+i*8+4)=some (.slice bP 0 cd (.aL 1))/\j<cd/\∃cR,aq h bP (0+j*1)=some (aC cR)/\(cR=id->Q .ret (aj [(0,af r),(1,aC id),(4,.bool true),(5,J i),(6,J j)] h))/\(¬cR=id->j+1<9223372036854775808/\Q .nrm (aj [(0,af r),(1,aC id),(5,J i),(6,J (j+1))] h)))/\(¬j<bd->Q (.exit 2) (aj [(0,af r),(1,aC id),(5,J i),(6,J j)] h))):
  bp an Tryz.f42 call [1,0,1,0,0,1,0,0,1,1,0,0] (aj [(0,af r),(1,aC id),(5,J i),(6,J j)] h) Q:=
 c3 [(30,.a1 (.gH (.aL 8))),(34,.a1 .o),(42,.a1 (.gH (.aL 8))),(46,.a1 (.gH (.aL 1)))] [0,1,4,5,6] [] H
theorem ag1(i1 bG r1 cT gO i2 b0 r2 dv j9:Nat)(aB aY:List UInt8)(CO CP FZ F0:ad)(h:ab)(H:g4 CO/\g4 CP/\g4 FZ/\g4 F0/\Q .nrm (aj [(2,af h.n),(3,.ptr (ab.n (ab.push h (aQ [aC i1,J bG,.str aB,CO,CP,aC r1,J cT,J gO] 67))) 0)] (ab.push (ab.push h (aQ [aC i1,J bG,.str aB,CO,CP,aC r1,J cT,J gO] 67)) (aQ [aC i2,J b0,.str aY,FZ,F0,aC r2,J dv,J j9] 67)))):
  bp an Tryz.f54 call [0] (aj [(0,.agg [aC i1,J bG,.str aB,CO,CP,aC r1,J cT,J gO]),(1,.agg [aC i2,J b0,.str aY,FZ,F0,aC r2,J dv,J j9])] h) Q:=
 X9 [] [2,3] [(0,.kA [.v (aC i1),.v (J bG),.v (.str aB),.o CO,.o CP,.v (aC r1),.v (J cT),.v (J gO)]),(1,.kA [.v (aC i2),.v (J b0),.v (.str aY),.o FZ,.o F0,.v (aC r2),.v (J dv),.v (J j9)])] H
theorem ag2(a b:Nat)(h:ab)(H:∃aB,aq h a 1=some (J aB)/\∃aY,aq h b 1=some (J aY)/\(aB=aY->∃s1,aq h a 2=some (.str s1)/\∃s2,aq h b 2=some (.str s2)/\((!c1 s1 s2)=true->Q .ret (aj [(2,af a),(3,af b),(4,.bool false)] h))/\((!c1 s1 s2)=false->∃bd,aq h a 5=some (aC bd)/\∃bj,aq h b 5=some (aC bj)/\(bd=bj->∃v1,aq h a 3=some v1/\∃bC,bV an h 63 v1=some (J bC)/\∃v2,aq h b 3=some v2/\∃bP,bV an h 63 v2=some (J bP)/\(bC=bP->∃b8,aq h a 4=some b8/\∃cd,bV an h 44 b8=some (J cd)/\∃v4,aq h b 4=some v4/\∃cR,bV an h 44 v4=some (J cR)/\(cd=cR->bp an Tryz.f54 call [1,1,0,1,0] (aj [(2,af a),(3,af b),(5,J 0)] h) (λb2 cc=>((∃ak bt,b2=.exit 0/\cc=aj bt ak/\bY [(2,af a),(3,af b)] bt/\bp an Tryz.f54 call [1,1,1,0,1,0] (aj [(2,af a),(3,af b),(6,J 0)] ak) (λb2 cc=>((∃av bw,b2=.exit 2/\cc=aj bw av/\bY [] bw/\Q .ret (aj [(4,.bool true)] av))\/(∃aD dL,b2=.ret/\cc=aj dL aD/\bY [(4,.bool false)] dL/\Q .ret (aj [(4,.bool false)] aD)))))\/(∃a4 h8,b2=.ret/\cc=aj h8 a4/\bY [(4,.bool false)] h8/\Q .ret (aj [(4,.bool false)] a4)))))/\(¬cd=cR->Q .ret (aj [(2,af a),(3,af b),(4,.bool false)] h)))/\(¬bC=bP->Q .ret (aj [(2,af a),(3,af b),(4,.bool false)] h)))/\(¬bd=bj->Q .ret (aj [(2,af a),(3,af b),(4,.bool false)] h))))/\(¬aB=aY->Q .ret (aj [(2,af a),(3,af b),(4,.bool false)] h))):
  bp an Tryz.f54 call [1] (aj [(2,af a),(3,af b)] h) Q:=
 c3 [(28,.a1 .o),(31,.a1 .o),(37,.a1 .o),(40,.a1 .o),(4000,.fj [2,3,5] [(.exit 0,[(2,.is (af a)),(3,.is (af b))]),(.ret,[(4,.is (.bool false))])]),(4002,.fj [2,3,6] [(.exit 2,[]),(.ret,[(4,.is (.bool false))])])] [2,3,4] [] H
theorem ag3(a b i:Nat)(h:ab)(H:∃v1,aq h a 3=some v1/\∃aB,bV an h 63 v1=some (J aB)/\(i<aB->∃aY bd,aq (h.room 11) a 3=some (.slice aY 0 bd (.aL 1))/\i<bd/\∃s1,aq (h.room 11) aY (0+i*1)=some (.str s1)/\∃bj bC,aq (h.room 11) b 3=some (.slice bj 0 bC (.aL 1))/\i<bC/\∃s2,aq (h.room 11) bj (0+i*1)=some (.str s2)/\((!c1 s1 s2)=true->Q .ret (aj [(2,af a),(3,af b),(4,.bool false),(5,J i)] (h.room 11)))/\((!c1 s1 s2)=false->i+1<9223372036854775808/\Q .nrm (aj [(2,af a),(3,af b),(5,J (i+1))] (h.room 11))))/\(¬i<aB->Q (.exit 0) (aj [(2,af a),(3,af b),(5,J i)] h))):
  bp an Tryz.f54 call [1,1,0,1,0,0] (aj [(2,af a),(3,af b),(5,J i)] h) Q:=
 c3 [(46,.a1 .o),(52,.a1 (.gH (.aL 1))),(57,.a1 (.gH (.aL 1))),(55,.a1 .st),(60,.a1 .st)] [2,3,4,5] [] H
theorem ag4(a b i:Nat)(h:ab)(H:∃v1,aq h a 4=some v1/\∃aB,bV an h 44 v1=some (J aB)/\(i<aB->∃aY bd,aq (h.room 11) a 4=some (.slice aY 0 bd (.aL 1))/\i<bd/\∃bj,aq (h.room 11) aY (0+i*1)=some (aC bj)/\∃bC bP,aq (h.room 11) b 4=some (.slice bC 0 bP (.aL 1))/\i<bP/\∃cd,aq (h.room 11) bC (0+i*1)=some (aC cd)/\(bj=cd->i+1<9223372036854775808/\Q .nrm (aj [(2,af a),(3,af b),(6,J (i+1))] (h.room 11)))/\(¬bj=cd->Q .ret (aj [(2,af a),(3,af b),(4,.bool false),(6,J i)] (h.room 11))))/\(¬i<aB->Q (.exit 2) (aj [(2,af a),(3,af b),(6,J i)] h))):
  bp an Tryz.f54 call [1,1,1,0,1,0,0] (aj [(2,af a),(3,af b),(6,J i)] h) Q:=
 c3 [(64,.a1 .o),(70,.a1 (.gH (.aL 1))),(75,.a1 (.gH (.aL 1)))] [2,3,4,6] [] H
structure fN where
 e:b3
 bA:ad
 aU:ad
 aH:bA.de=true
 aV:aU.de=true
def eX(x:fN):List ad:=[aC x.e.id,J x.e.k,.str x.e.nm,x.bA,x.aU,aC x.e.ret,J x.e.pins,J x.e.used]
theorem K6:lW an eX 8 67 38 where
 hu:=by kernel_rfl
 fG:=by kernel_rfl
 info:=by
  obtain⟨i,hi⟩:=Option.isSome_iff_exists.1 (show(an.info? 67).isSome=true by kernel_rfl)
  refine⟨i,hi,?_,?_⟩
  · have:(an.info? 67).map (·.size)=some 8:=by kernel_rfl
    rw[hi] at this;simpa using this
  · have:(an.info? 67).map (λi=>Nat.ble i.bytes 1000)=some true:=by kernel_rfl
    rw[hi] at this
    exact Nat.le_of_ble_eq_true (by simpa using this)
 zero:=⟨.agg [.int .u64 0,.int .i64 0,.str [],.aP,.aP,.int .u64 0,.int .i64 0,.int .i64 0],by kernel_rfl,rfl⟩
 size:=by kernel_rfl
 len:=λ_=>rfl
 cell:=λx=>by
  show(true&&(true&&(true&&(x.bA.de&&(x.aU.de&&(true&&(true&&(true&&true))))))))=true
  rw[x.aH,x.aV];rfl
 pos:=by decide
def ft(L:Nat->Prop)(h:ab)(v:ad)(vs:List ad):Prop:=(v=.aP/\vs=[])\/∃q,v=.slice q 0 vs.length (.aL 1)/\L q/\0<vs.length/\∀i (hi:i<vs.length),aq h q (0+i*1)=some vs[i]
theorem ft.bB{L eF:Nat->Prop}{h g:ab}{v:ad}{vs:List ad}(o:ft L h v vs)(e:∀d,L d->eF d/\g.get d=h.get d):ft eF g v vs:=by
 rcases o with o|⟨q,I,ae,ax,aN⟩
 · exact .inl o
 · exact .inr ⟨q,I,(e q ae).1,ax,λi hi=>(q1 (e q ae).2).trans (aN i hi)⟩
theorem ft.len{L:Nat->Prop}{h:ab}{v:ad}{vs:List ad}(o:ft L h v vs){T el:TypeId}(hu:an.underlying T=some (.slice el))(g:ab):bV an g T v=some (J vs.length):=by
 rcases o with⟨rfl,rfl⟩|⟨q,rfl,_⟩<;>simp only[bV,hu]<;>rfl
structure dU(R L:Nat->Prop)(h:ab)(r:Nat)(ck:ad)(M:List fN)(s:bZ):Prop where
 st:h.get r=some (aQ [J s.cap,aC s.given,J s.clock,ck] 40)
 row:bT eX 8 67 0 h ck M
 e:M.map (·.e)=s.l
 ns:∀x∈M,ft L h x.bA (x.e.ns.map .str)
 az:∀x∈M,ft L h x.aU (x.e.args.map jF)
 iZ:R r
 sO:∀d k cp,ck=.slice d 0 k cp->R d
 j2:∀d,L d->R d/\d≠r/\∀k cp,ck≠ .slice d 0 k cp
 up:∀d,R d->d<h.n
theorem dU.len{R L:Nat->Prop}{h:ab}{r:Nat}{ck:ad}{M:List fN}{s:bZ}(aT:dU R L h r ck M s)(g:ab):bV an g 38 ck=some (J M.length):=bT.len (P:=an) (sT:=38) (by kernel_rfl) aT.row g
theorem dU.at{R L:Nat->Prop}{h:ab}{r:Nat}{ck:ad}{M:List fN}{s:bZ}(aT:dU R L h r ck M s){i:Nat}(hi:i<M.length):∃q,ck=.slice q 0 M.length (.aL 8)/\∀j (c:ad),(eX M[i])[j]? =some c->j<8->aq h q (0+i*8+j)=some c:=by
 rcases aT.row with⟨_,e⟩|⟨q,I,ae,ax,_⟩
 · rw[e] at hi;cases hi
 · refine⟨q,I,λj c ah aO=>lb ax ?_⟩
   unfold dp
   rw[Ex (w:=8) (λ_=>rfl),if_pos (by omega),show(0+i*8+j)/8=i by omega,show(0+i*8+j) %8=j by omega,List.getElem?_eq_getElem hi]
   exact ah
theorem dU.ext{R L:Nat->Prop}{h g:ab}{r:Nat}{ck:ad}{M:List fN}{s:bZ}(aT:dU R L h r ck M s)(aH:h.n<=g.n)(e:∀d,R d->g.get d=h.get d):dU R L g r ck M s:=
 ⟨(e r aT.iZ).trans aT.st,bT.bB aT.row aH λq aK _=>e q (aT.sO q _ _ aK),aT.e,λx aa=>(aT.ns x aa).bB λd ai=>⟨ai,e d (aT.j2 d ai).1⟩,λx aa=>(aT.az x aa).bB λd ai=>⟨ai,e d (aT.j2 d ai).1⟩,aT.iZ,aT.sO,aT.j2,λd ai=>Nat.lt_of_lt_of_le (aT.up d ai) aH⟩
theorem F1(m:Nat){R L:Nat->Prop}{h:ab}{r id:Nat}{ck:ad}{M:List fN}{s:bZ}(aT:dU R L h r ck M s){i:Nat}(hi:i<M.length)(jf:M[i].e.id=id)(ag:∀j (aO:j<i),M[j].e.id≠id)(aA:M.length<=90000):Y (m+1) (.fn 23) [.ptr r 0,aC id] h=.ret (J i) h:=by
 refine S3 m r id h (R:=λx=>x=.ret (J i) h) ?_
 refine e8 (λk st=>∃j Γ,st=aks Γ h/\bY [(0,.ptr r 0),(1,aC id),(5,J j)] Γ/\M.length-j=k/\j<=i) ?_ M.length _ (by omega) ⟨0,_,rfl,⟨rfl,rfl,rfl,trivial⟩,by omega,by omega⟩
 rintro k st ⟨j,Γ,rfl,cn,ay,aO⟩
 refine ei (S4 _ r id j h ⟨ck,aF aT.st rfl,M.length,aT.len h,λfW=>?_,λfW=>absurd (by omega) fW⟩) cn
 obtain⟨q,aK,hD⟩:=aT.at fW
 refine⟨q,M.length,by rw[<-aK];exact aF aT.st rfl,fW,M[j].e.id,hD 0 _ rfl (by omega),λe=>?_,λe=>?_⟩
 · have:j=i:=by
     by_cases h:j<i
     · exact absurd e (ag j h)
     · omega
   subst this
   exact .inr ⟨j,h,_,rfl,rfl,⟨rfl,trivial⟩,rfl⟩
 · have:j≠i:=λh=>by subst h;exact e jf
   exact⟨by omega,_,(by show _<k;omega),j+1,_,rfl,⟨rfl,rfl,rfl,trivial⟩,rfl,by omega⟩
theorem K7(m:Nat){R L:Nat->Prop}{h:ab}{r id:Nat}{ck:ad}{M:List fN}{s:bZ}(aT:dU R L h r ck M s)(ag:∀x∈M,x.e.id≠id)(aA:M.length<=90000):Y (m+1) (.fn 23) [.ptr r 0,aC id] h=.ret (.int .i64 (Int.negSucc 0)) h:=by
 refine S3 m r id h (R:=λx=>x=.ret (.int .i64 (Int.negSucc 0)) h) ?_
 refine e8 (λk st=>∃j Γ,st=aks Γ h/\bY [(0,.ptr r 0),(1,aC id),(5,J j)] Γ/\M.length-j=k/\j<=M.length) ?_ M.length _ (by omega) ⟨0,_,rfl,⟨rfl,rfl,rfl,trivial⟩,by omega,by omega⟩
 rintro k st ⟨j,Γ,rfl,cn,ay,aO⟩
 refine ei (S4 _ r id j h ⟨ck,aF aT.st rfl,M.length,aT.len h,λfW=>?_,λfW=>.inl ⟨h,_,rfl,rfl,trivial,rfl⟩⟩) cn
 obtain⟨q,aK,hD⟩:=aT.at fW
 refine⟨q,M.length,by rw[<-aK];exact aF aT.st rfl,fW,M[j].e.id,hD 0 _ rfl (by omega),λe=>absurd e (ag _ (List.getElem_mem fW)),λe=>?_⟩
 exact⟨by omega,_,(by show _<k;omega),j+1,_,rfl,⟨rfl,rfl,rfl,trivial⟩,rfl,by omega⟩
theorem ag5(m:Nat){R L:Nat->Prop}{h:ab}{r id:Nat}{ck:ad}{M:List fN}{s:bZ}(aT:dU R L h r ck M s)(aA:M.length<=90000)(g1:∀x∈M,x.e.args.length<=90000):∃b,Y (m+1) (.fn 42) [.ptr r 0,aC id] h=.ret (.bool b) h/\(b=false<-> ∀x∈M,id∉x.e.parts):=by
 have key:∃b,(λx=>x=bE.ret (.bool b) h) (Y (m+1) (.fn 42) [.ptr r 0,aC id] h)/\(b=false<-> ∀x∈M,id∉x.e.parts):=by
  by_cases eL:∀x∈M,id∉x.e.parts
  · refine⟨false,S5 m r id h (R:=λx=>x=.ret (.bool false) h) ?_,⟨λ_=>eL,λ_=>rfl⟩⟩
    refine e8 (λk st=>∃j Γ,st=aks Γ h/\bY [(0,.ptr r 0),(1,aC id),(5,J j)] Γ/\M.length-j=k/\j<=M.length) ?_ M.length _ (by omega) ⟨0,_,rfl,⟨rfl,rfl,rfl,trivial⟩,by omega,by omega⟩
    rintro k st ⟨j,Γ,rfl,cn,ay,aO⟩
    refine ei (S6 _ r id j h ⟨ck,aF aT.st rfl,M.length,aT.len h,λfW=>?_,λfW=>.inl ⟨h,_,rfl,rfl,trivial,rfl⟩⟩) cn
    have aa:=List.getElem_mem fW
    have S8:=eL _ aa
    have K8:M[j].e.ret≠id:=λe=>S8 (by show id∈M[j].e.ret::M[j].e.args;rw[e];exact List.mem_cons_self ..)
    obtain⟨q,aK,hD⟩:=aT.at fW
    refine⟨q,M.length,by rw[<-aK];exact aF aT.st rfl,fW,M[j].e.ret,hD 5 _ rfl (by omega),λe=>absurd e K8,λ_=>?_⟩
    have oD:=aT.az _ aa
    have ag6:=g1 _ aa
    refine e8 (λk st=>∃i Γ,st=aks Γ h/\bY [(0,.ptr r 0),(1,aC id),(5,J j),(6,J i)] Γ/\M[j].e.args.length-i=k/\i<=M[j].e.args.length) ?_ M[j].e.args.length _ (by have:=g1 _ aa;omega) ⟨0,_,rfl,⟨rfl,rfl,rfl,rfl,trivial⟩,by omega,by omega⟩
    rintro cO cg ⟨i,cD,rfl,jY,fl,hi⟩
    refine ei (S7 _ r id j i h ⟨q,M.length,by rw[<-aK];exact aF aT.st rfl,fW,M[j].aU,hD 4 _ rfl (by omega),M[j].e.args.length,by have:=oD.len (T:=44) (el:=32) (by kernel_rfl) h;rwa [List.length_map] at this,λi1=>?_,λi1=>.inl ⟨h,_,rfl,rfl,⟨rfl,rfl,rfl,trivial⟩,by omega,_,(by show _<k;omega),j+1,_,rfl,⟨rfl,rfl,rfl,trivial⟩,rfl,by omega⟩⟩) jY
    rcases oD with⟨_,e⟩|⟨a2,aG,_,_,eu⟩
    · have:M[j].e.args=[]:=by simpa using e
      rw[this] at i1;cases i1
    have kO:=eu i (by rw[List.length_map];exact i1)
    rw[List.getElem_map] at kO
    rw[List.length_map] at aG
    refine⟨q,M.length,by rw[<-aK];exact aF aT.st rfl,fW,a2,M[j].e.args.length,by rw[<-aG];exact hD 4 _ rfl (by omega),i1,M[j].e.args[i],kO,λe=>?_,λe=>?_⟩
    · exact absurd (show id∈M[j].e.ret::M[j].e.args by rw[<-e];exact List.mem_cons_of_mem _ (List.getElem_mem i1)) S8
    · exact⟨by omega,_,(by show _<cO;omega),i+1,_,rfl,⟨rfl,rfl,rfl,rfl,trivial⟩,rfl,by omega⟩
  · have hex:∃x∈M,id∈x.e.parts:=by
      apply Classical.byContradiction
      intro ah
      exact eL λx aa a0=>ah ⟨x,aa,a0⟩
    obtain⟨x,aa,KT⟩:=hex
    obtain⟨t,bm,xy⟩:=List.mem_iff_getElem.1 aa
    subst xy
    refine⟨true,S5 m r id h (R:=λx=>x=.ret (.bool true) h) ?_,⟨λh=>(by cases h),λh=>absurd h eL⟩⟩
    refine e8 (λk st=>∃j Γ,st=aks Γ h/\bY [(0,.ptr r 0),(1,aC id),(5,J j)] Γ/\M.length-j=k/\j<=t) ?_ M.length _ (by omega) ⟨0,_,rfl,⟨rfl,rfl,rfl,trivial⟩,by omega,by omega⟩
    rintro k st ⟨j,Γ,rfl,cn,ay,aO⟩
    refine ei (S6 _ r id j h ⟨ck,aF aT.st rfl,M.length,aT.len h,λfW=>?_,λfW=>absurd (by omega) fW⟩) cn
    have K9:=List.getElem_mem fW
    obtain⟨q,aK,hD⟩:=aT.at fW
    refine⟨q,M.length,by rw[<-aK];exact aF aT.st rfl,fW,M[j].e.ret,hD 5 _ rfl (by omega),λe=>.inr ⟨h,_,rfl,rfl,⟨rfl,trivial⟩,rfl⟩,λK8=>?_⟩
    have oD:=aT.az _ K9
    have ag6:=g1 _ K9
    refine e8 (λk st=>∃i Γ,st=aks Γ h/\bY [(0,.ptr r 0),(1,aC id),(5,J j),(6,J i)] Γ/\M[j].e.args.length-i=k/\i<=M[j].e.args.length/\∀a (aV:a<i) (ag:a<M[j].e.args.length),M[j].e.args[a]≠id) ?_ M[j].e.args.length _ (by have:=g1 _ K9;omega) ⟨0,_,rfl,⟨rfl,rfl,rfl,rfl,trivial⟩,by omega,by omega,λa aV=>by omega⟩
    rintro cO cg ⟨i,cD,rfl,jY,fl,hi,lT⟩
    refine ei (S7 _ r id j i h ⟨q,M.length,by rw[<-aK];exact aF aT.st rfl,fW,M[j].aU,hD 4 _ rfl (by omega),M[j].e.args.length,by have:=oD.len (T:=44) (el:=32) (by kernel_rfl) h;rwa [List.length_map] at this,λi1=>?_,λi1=>.inl ⟨h,_,rfl,rfl,⟨rfl,rfl,rfl,trivial⟩,by omega,_,(by show _<k;omega),j+1,_,rfl,⟨rfl,rfl,rfl,trivial⟩,rfl,?_⟩⟩) jY
    · rcases oD with⟨_,e⟩|⟨a2,aG,_,_,eu⟩
      · have:M[j].e.args=[]:=by simpa using e
        rw[this] at i1;cases i1
      have kO:=eu i (by rw[List.length_map];exact i1)
      rw[List.getElem_map] at kO
      rw[List.length_map] at aG
      refine⟨q,M.length,by rw[<-aK];exact aF aT.st rfl,fW,a2,M[j].e.args.length,by rw[<-aG];exact hD 4 _ rfl (by omega),i1,M[j].e.args[i],kO,λe=>.inr ⟨h,_,rfl,rfl,⟨rfl,trivial⟩,.inr ⟨h,_,rfl,rfl,⟨rfl,trivial⟩,rfl⟩⟩,λe=>?_⟩
      refine⟨by omega,_,(by show _<cO;omega),i+1,_,rfl,⟨rfl,rfl,rfl,rfl,trivial⟩,rfl,by omega,λa aV ag=>?_⟩
      by_cases h:a<i
      · exact lT a h ag
      · obtain rfl:a=i:=by omega
        exact e
    · have:j≠t:=λe=>by
        subst e
        rcases List.mem_cons.1 (show id∈M[j].e.ret::M[j].e.args from KT) with h|h
        · exact K8 h.symm
        · obtain⟨a,aV,ag7⟩:=List.mem_iff_getElem.1 h
          exact lT a (by omega) aV ag7
      omega
 exact key
theorem ft.at{L:Nat->Prop}{h:ab}{v:ad}{D:Type}{f:D->ad}{vs:List D}(o:ft L h v (vs.map f)){i:Nat}(hi:i<vs.length):∃q,v=.slice q 0 vs.length (.aL 1)/\L q/\∀(i:Nat) (hi:i<vs.length),aq h q (0+i*1)=some (f vs[i]):=by
 rcases o with⟨_,e⟩|⟨q,aG,aE,bH,eu⟩
 · have:vs=[]:=by simpa using e
   rw[this] at hi;cases hi
 · rw[List.length_map] at aG
   refine⟨q,aG,aE,λi hi=>?_⟩
   have:=eu i (by rw[List.length_map];exact hi)
   rwa [List.getElem_map] at this
def ag8(h0:ab)(b:Bool)(a c:Nat)(e:bW)(st:bL):Prop:=e=.ret/\∃g,(st=⟨[(4,.bool b)],[],.none,g⟩\/st=⟨[(2,.ptr a 0),(3,.ptr c 0),(4,.bool b)],[],.none,g⟩)/\Ext h0.n h0 g
theorem ag9{x:b3}{k:Nat}{nm:bb}{ns:List bb}{az:List Nat}{r:Nat}(h:¬(x.k=k/\x.nm=nm/\x.ns=ns/\x.args=az/\x.ret=r)):b3.is k nm ns az r x=false:=by
 cases ag:b3.is k nm ns az r x with
 |false=>rfl
 |true=>unfold b3.is at ag;simp at ag;exact absurd ag h
theorem ag_{x:b3}{k:Nat}{nm:bb}{ns:List bb}{az:List Nat}{r:Nat}(h:x.k=k/\x.nm=nm/\x.ns=ns/\x.args=az/\x.ret=r):b3.is k nm ns az r x=true:=by
 unfold b3.is;simp;exact h
theorem aha(m:Nat){L:Nat->Prop}{h:ab}{x y:fN}(hY:∀d,L d->d<h.n)(er:ft L h x.bA (x.e.ns.map .str))(K_:ft L h x.aU (x.e.args.map jF))(FT:ft L h y.bA (y.e.ns.map .str))(S9:ft L h y.aU (y.e.args.map jF))(bn:x.e.ns.length<=90000)(bo:x.e.args.length<=90000):
  ∃g,Y (m+1) (.fn 54) [.agg (eX x),.agg (eX y)] h=.ret (.bool (b3.is y.e.k y.e.nm y.e.ns y.e.args y.e.ret x.e)) g/\Ext h.n h g:=by
 obtain⟨B,dd⟩:∃B,B=b3.is y.e.k y.e.nm y.e.ns y.e.args y.e.ret x.e:=⟨_,rfl⟩
 rw[<-dd]
 obtain⟨I,aG⟩:∃k,k=h.push (aQ (eX x) 67):=⟨_,rfl⟩
 obtain⟨ae,aE⟩:∃k,k=I.push (aQ (eX y) 67):=⟨_,rfl⟩
 have aB:I.n=h.n+1:=by rw[aG];rfl
 have aY:ae.n=I.n+1:=by rw[aE];rfl
 have cJ:Ext h.n h ae:=by rw[aE];refine Ext.lV (by omega) ?_;rw[aG];exact Ext.push (Nat.le_refl _) _
 have xD:ae.get h.n=some (aQ (eX x) 67):=by rw[aE];refine nn (by omega) ?_;rw[aG];exact e7 rfl
 have xE:ae.get I.n=some (aQ (eX y) 67):=by rw[aE];exact e7 rfl
 have goal:bp an Tryz.f54 (Y m) [] ⟨[(0,.agg (eX x)),(1,.agg (eX y))],[],.none,h⟩ (ag8 h B h.n I.n):=by
  refine ke [] (ag1 _ _ _ _ _ _ _ _ _ _ _ _ _ _ _ _ _ h ⟨x.aH,x.aV,y.aH,y.aV,?_⟩)
  subst aE
  subst aG
  have La:∀(z:fN) (H:ab),ft L h z.bA (z.e.ns.map .str)->bV an H 63 z.bA=some (J z.e.ns.length):=λz H o=>by
   have:=o.len (T:=63) (el:=9) (by kernel_rfl) H
   rwa [List.length_map] at this
  have Lb:∀(z:fN) (H:ab),ft L h z.aU (z.e.args.map jF)->bV an H 44 z.aU=some (J z.e.args.length):=λz H o=>by
   have:=o.len (T:=44) (el:=32) (by kernel_rfl) H
   rwa [List.length_map] at this
  have no:¬(x.e.k=y.e.k/\x.e.nm=y.e.nm/\x.e.ns=y.e.ns/\x.e.args=y.e.args/\x.e.ret=y.e.ret)->B=false:=λh=>by rw[dd];exact ag9 h
  refine ag2 _ h.n _ _ ⟨x.e.k,aF xD rfl,y.e.k,aF xE rfl,λa8=>⟨x.e.nm,aF xD rfl,y.e.nm,aF xE rfl,λa2=>?_,λa2=>⟨x.e.ret,aF xD rfl,y.e.ret,aF xE rfl,λbX=>⟨x.bA,aF xD rfl,x.e.ns.length,La x _ er,y.bA,aF xE rfl,y.e.ns.length,La y _ FT,λeG=>⟨x.aU,aF xD rfl,x.e.args.length,Lb x _ K_,y.aU,aF xE rfl,y.e.args.length,Lb y _ S9,λgi=>?_,λgi=>?_⟩,λeG=>?_⟩,λbX=>?_⟩⟩,λa8=>?_⟩
  · rw[no λh=>by rw[h.2.1,yx] at a2;cases a2]
    exact⟨rfl,_,.inr rfl,cJ⟩
  · have iN:x.e.nm=y.e.nm:=by
      cases ag:c1 x.e.nm y.e.nm with
      |true=>rw[nP] at ag;simpa using ag
      |false=>rw[ag] at a2;cases a2
    refine e8 (λk st=>∃i g Γ,st=aks Γ g/\bY [(2,.ptr h.n 0),(3,.ptr (h.n+1) 0),(5,J i)] Γ/\x.e.ns.length-i=k/\i<=x.e.ns.length/\Ext (h.n+2) ((h.push (aQ (eX x) 67)).push (aQ (eX y) 67)) g/\∀a (I:a<x.e.ns.length) (ae:a<y.e.ns.length),a<i->x.e.ns[a]=y.e.ns[a]) ?_ x.e.ns.length _ (by omega) ⟨0,_,_,rfl,⟨rfl,rfl,rfl,trivial⟩,by omega,by omega,Ext.refl _ _,λa _ _ h=>by omega⟩
    rintro k st ⟨i,g,Γ,rfl,cn,ay,hi,ar,S_⟩
    have qR:Ext h.n h g:=cJ.trans (Nat.le_refl _) (ar.le (by omega))
    have bB:∀{v:ad} {vs:List ad} {H:ab},Ext h.n h H->ft L h v vs->ft L H v vs:=λe o=>o.bB λd ai=>⟨ai,e.get d (hY d ai)⟩
    have Ta:=(ar.get h.n (by omega)).trans xD
    have ahb:=(ar.get (h.n+1) (by omega)).trans xE
    refine ei (ag3 _ h.n (h.n+1) i g ⟨x.bA,aF Ta rfl,x.e.ns.length,La x _ er,λi1=>?_,λi1=>.inl ⟨g,_,rfl,rfl,⟨rfl,rfl,trivial⟩,?_⟩⟩) cn
    · have i2:i<y.e.ns.length:=by omega
      have xF:Ext h.n h (g.room 11):=qR.trans (Nat.le_refl _) (Ext.room h.n g 11)
      obtain⟨Lc,f1,_,f3⟩:=(bB xF er).at i1
      obtain⟨Ld,f4,_,f6⟩:=(bB xF FT).at i2
      refine⟨Lc,x.e.ns.length,by rw[<-f1];exact aF (h:=g.room 11) Ta rfl,i1,x.e.ns[i],f3 i i1,Ld,y.e.ns.length,by rw[<-f4];exact aF (h:=g.room 11) ahb rfl,i2,y.e.ns[i],f6 i i2,λq=>.inr ⟨g.room 11,_,rfl,rfl,⟨rfl,trivial⟩,?_⟩,λq=>?_⟩
      · rw[no λh=>by
          have:=congrArg (λl=>l[i]?) h.2.2.1
          simp only[List.getElem?_eq_getElem i1,List.getElem?_eq_getElem i2,Option.some.injEq] at this
          rw[this,yx] at q;cases q]
        exact⟨rfl,_,.inl rfl,xF⟩
      · have heq:x.e.ns[i]=y.e.ns[i]:=by
          cases ag:c1 x.e.ns[i] y.e.ns[i] with
          |true=>rw[nP] at ag;simpa using ag
          |false=>rw[ag] at q;cases q
        refine⟨by omega,_,(by show _<k;omega),i+1,g.room 11,_,rfl,⟨rfl,rfl,rfl,trivial⟩,rfl,by omega,ar.trans (Nat.le_refl _) ((Ext.room (h.n+2) g 11)),λa I ae ax=>?_⟩
        by_cases aV:a<i
        · exact S_ a I ae aV
        · obtain rfl:a=i:=by omega
          exact heq
    · have ig:x.e.ns=y.e.ns:=List.ext_getElem eG λa I ae=>S_ a I ae (by omega)
      refine e8 (λk st=>∃i g Γ,st=aks Γ g/\bY [(2,.ptr h.n 0),(3,.ptr (h.n+1) 0),(6,J i)] Γ/\x.e.args.length-i=k/\i<=x.e.args.length/\Ext (h.n+2) ((h.push (aQ (eX x) 67)).push (aQ (eX y) 67)) g/\∀a (I:a<x.e.args.length) (ae:a<y.e.args.length),a<i->x.e.args[a]=y.e.args[a]) ?_ x.e.args.length _ (by omega) ⟨0,_,_,rfl,⟨rfl,rfl,rfl,trivial⟩,by omega,by omega,ar,λa _ _ h=>by omega⟩
      rintro cO cg ⟨oY,e6,cD,rfl,jY,fl,fi,m5,Tb⟩
      have Tc:Ext h.n h e6:=cJ.trans (Nat.le_refl _) (m5.le (by omega))
      have Td:=(m5.get h.n (by omega)).trans xD
      have ahc:=(m5.get (h.n+1) (by omega)).trans xE
      refine ei (ag4 _ h.n (h.n+1) oY e6 ⟨x.aU,aF Td rfl,x.e.args.length,Lb x _ K_,λi1=>?_,λi1=>.inl ⟨e6,_,rfl,rfl,trivial,?_⟩⟩) jY
      · have i2:oY<y.e.args.length:=by omega
        have xF:Ext h.n h (e6.room 11):=Tc.trans (Nat.le_refl _) (Ext.room h.n e6 11)
        obtain⟨Lc,f1,_,f3⟩:=(bB xF K_).at i1
        obtain⟨Ld,f4,_,f6⟩:=(bB xF S9).at i2
        refine⟨Lc,x.e.args.length,by rw[<-f1];exact aF (h:=e6.room 11) Td rfl,i1,x.e.args[oY],f3 oY i1,Ld,y.e.args.length,by rw[<-f4];exact aF (h:=e6.room 11) ahc rfl,i2,y.e.args[oY],f6 oY i2,λq=>?_,λq=>.inr ⟨e6.room 11,_,rfl,rfl,⟨rfl,trivial⟩,?_⟩⟩
        · refine⟨by omega,_,(by show _<cO;omega),oY+1,e6.room 11,_,rfl,⟨rfl,rfl,rfl,trivial⟩,rfl,by omega,m5.trans (Nat.le_refl _) ((Ext.room (h.n+2) e6 11)),λa I ae ax=>?_⟩
          by_cases aV:a<oY
          · exact Tb a I ae aV
          · obtain rfl:a=oY:=by omega
            exact q
        · rw[no λh=>q (by
            have:=congrArg (λl=>l[oY]?) h.2.2.2.1
            simpa only[List.getElem?_eq_getElem i1,List.getElem?_eq_getElem i2,Option.some.injEq] using this)]
          exact⟨rfl,_,.inl rfl,xF⟩
      · have oD:x.e.args=y.e.args:=List.ext_getElem gi λa I ae=>Tb a I ae (by omega)
        have:B=true:=by rw[dd];exact ag_ ⟨a8,iN,ig,oD,bX⟩
        rw[this]
        exact⟨rfl,_,.inl rfl,Tc⟩
  · rw[no λh=>gi (by rw[h.2.2.2.1])]
    exact⟨rfl,_,.inr rfl,cJ⟩
  · rw[no λh=>eG (by rw[h.2.2.1])]
    exact⟨rfl,_,.inr rfl,cJ⟩
  · rw[no λh=>bX h.2.2.2.2]
    exact⟨rfl,_,.inr rfl,cJ⟩
  · rw[no λh=>a8 h.1]
    exact⟨rfl,_,.inr rfl,cJ⟩
 refine wz (R:=λz=>∃g,z=.ret (.bool B) g/\Ext h.n h g) (intr:=ea) (n:=m) (args:=[.agg (eX x),.agg (eX y)]) Tryz.func54 (by kernel_rfl) (by kernel_rfl) (by kernel_rfl) goal ?_
 rintro e st ⟨rfl,g,ax,aN⟩
 rcases ax with rfl|rfl
 · exact .inl ⟨.inl rfl,rfl,.bool B,by kernel_rfl,g,rfl,aN⟩
 · exact .inl ⟨.inl rfl,rfl,.bool B,by kernel_rfl,g,rfl,aN⟩
theorem ahd(r t:Nat)(h:ab)(H:Q .nrm (aj [(0,af r),(1,af t)] h)):
  bp an Tryz.f29 call [0] (aj [(0,af r),(1,af t)] h) Q:=
 c3 [] [0,1] [] H
theorem ahe(r t:Nat)(h:ab)(H:∃aB,aq (h.room 11) t 0=some (J aB)/\∃s1,aq (h.room 11) t 1=some (.str s1)/\∃ak,bg.storeCells (ab.set (h.room 11) (h.n+9) (some (aQ [aC 0,J 0,.str [],.aP,.aP,aC 0,J 0,J 0] 67))) (h.n+9) 0 [aC 0,J aB,.str s1,.aP,.aP,aC 0,J 0,J 0]=some ak/\aq (ab.set (h.room 11) (h.n+9) (some (aQ [aC 0,J 0,.str [],.aP,.aP,aC 0,J 0,J 0] 67))) t 0=some (J aB)/\aq (ab.set (h.room 11) (h.n+9) (some (aQ [aC 0,J 0,.str [],.aP,.aP,aC 0,J 0,J 0] 67))) t 1=some (.str s1)/\Q .nrm (aj [(0,af r),(1,af t),(5,af (h.n+9))] ak)):
  bp an Tryz.f29 call [1,0] (aj [(0,af r),(1,af t)] h) Q:=
 c3 [] [0,1,5] [] H
theorem ahf(r t e:Nat)(h:ab)(H:aq (h.room 9) e 3=some .aP/\∃v1,aq (h.room 9) t 2=some v1/\∃v2 ak,dJ an (h.room 9) 63 (some 63) .aP v1=some (v2,ak)/\g4 v2/\∃av,bg.storeCells ak e 3 [v2]=some av/\cr v1/\Q .nrm (aj [(0,af r),(1,af t),(5,af e)] av)):
  bp an Tryz.f29 call [1,1,0] (aj [(0,af r),(1,af t),(5,af e)] h) Q:=
 c3 [(18,.a1 (.is .aP)),(22,.a1 .o),(23,.a1 .o)] [0,1,5] [] H
theorem ahg(r t e:Nat)(h:ab)(H:bp an Tryz.f29 call [1,1,1,0,1,0] (aj [(0,af r),(1,af t),(5,af e),(6,J 0)] h) (λb2 cc=>∃ak bt,b2=.exit 0/\cc=aj bt ak/\bY [(0,af r),(1,af t),(5,af e)] bt/\Q .nrm (aj [(0,af r),(1,af t),(5,af e)] ak))):
  bp an Tryz.f29 call [1,1,1,0] (aj [(0,af r),(1,af t),(5,af e)] h) Q:=
 c3 [(4000,.fj [0,1,5,6] [(.exit 0,[(0,.is (af r)),(1,.is (af t)),(5,.is (af e))])])] [0,1,5] [] H
theorem ahh(r t e i:Nat)(h:ab)(H:∃v1,aq h t 3=some v1/\∃aB,bV an h 50 v1=some (J aB)/\(i<aB->∃v2,aq (h.room 15) e 4=some v2/\∃aY bd bj,∃aM:ct,aq (h.room 15) t 3=some (.slice aY bd bj aM)/\i<bj/\∃bC,aq (h.room 15) aY (bd+i*1)=some (af bC)/\∃bP ak,call (.fn 29) [af r,af bC] (h.room 15)=.ret (aC bP) ak/\∃b8 av,dJ an (ab.set ak (h.n+11) (some (aQ [aC bP] 32))) 44 (some 44) v2 (.slice (h.n+11) 0 1 (.exact 1))=some (b8,av)/\g4 b8/\∃aD,bg.storeCells av e 4 [b8]=some aD/\cr v2/\aq (ab.set ak (h.n+11) (some (aQ [aC bP] 32))) e 4=some v2/\i+1<9223372036854775808/\Q .nrm (aj [(0,af r),(1,af t),(5,af e),(6,J (i+1))] aD))/\(¬i<aB->Q (.exit 0) (aj [(0,af r),(1,af t),(5,af e),(6,J i)] h))):
  bp an Tryz.f29 call [1,1,1,0,1,0,0] (aj [(0,af r),(1,af t),(5,af e),(6,J i)] h) Q:=
 c3 [(29,.a1 .o),(35,.a1 .o),(40,.a1 .gN),(43,.a1 .p),(46,.a1 .o)] [0,1,5,6] [] H
theorem ahi(r t e:Nat)(h:ab)(H:aq h t 4=some .aX/\Q .nrm (aj [(0,af r),(1,af t),(5,af e)] h)):
  bp an Tryz.f29 call [1,1,1,1,0] (aj [(0,af r),(1,af t),(5,af e)] h) Q:=
 c3 [(51,.a1 (.is .aX))] [0,1,5] [] H
theorem ahj(r t e:Nat)(h:ab)(H:∃aB,aq h t 4=some (af aB)/\∃aY,aq h t 4=some (af aY)/\∃bd ak,call (.fn 29) [af r,af aY] h=.ret (aC bd) ak/\∃av,bg.storeCells ak e 5 [aC bd]=some av/\Q .nrm (aj [(0,af r),(1,af t),(5,af e)] av)):
  bp an Tryz.f29 call [1,1,1,1,0] (aj [(0,af r),(1,af t),(5,af e)] h) Q:=
 c3 [(51,.a1 .p),(57,.a1 .p)] [0,1,5] [] H
theorem ahk(r e:Nat)(h:ab)(H:∃aB,aq h r 2=some (J aB)/\aB+1<9223372036854775808/\∃ak,bg.storeCells h r 2 [J (aB+1)]=some ak/\Q .nrm (aj [(0,af r),(5,af e)] ak)):
  bp an Tryz.f29 call [1,1,1,1,1,0] (aj [(0,af r),(5,af e)] h) Q:=
 c3 [] [0,5] [] H
theorem ahl(r e:Nat)(h:ab)(H:bp an Tryz.f29 call [1,1,1,1,1,1,0,1,0] (aj [(0,af r),(5,af e),(7,J 0)] h) (λb2 cc=>((∃ak bt,b2=.exit 2/\cc=aj bt ak/\bY [(0,af r),(5,af e)] bt/\Q .nrm (aj [(0,af r),(5,af e)] ak))\/(∃aB av bw,b2=.ret/\cc=aj bw av/\bY [(4,aC aB)] bw/\Q .ret (aj [(4,aC aB)] av))))):
  bp an Tryz.f29 call [1,1,1,1,1,1,0] (aj [(0,af r),(5,af e)] h) Q:=
 c3 [(4002,.fj [0,5,7] [(.exit 2,[(0,.is (af r)),(5,.is (af e))]),(.ret,[(4,.n .u64)])])] [0,4,5] [] H
theorem ahm(r e i:Nat)(h:ab)(H:∃v1,aq h r 3=some v1/\∃aB,bV an h 38 v1=some (J aB)/\(i<aB->∃aY bd,aq (h.room 9) r 3=some (.slice aY 0 bd (.aL 8))/\i<bd/\∃bj bC s1 v2 b8 bP cd cR,bg.loadCells (h.room 9) aY (0+i*8) 8=some [aC bj,J bC,.str s1,v2,b8,aC bP,J cd,J cR]/\∃dD dX s2 v4 eC eE e9 fw,bg.loadCells (h.room 9) e 0 8=some [aC dD,J dX,.str s2,v4,eC,aC eE,J e9,J fw]/\∃ak,call (.fn 54) [.agg [aC bj,J bC,.str s1,v2,b8,aC bP,J cd,J cR],.agg [aC dD,J dX,.str s2,v4,eC,aC eE,J e9,J fw]] (h.room 9)=.ret (.bool true) ak/\cr v2/\cr b8/\cr v4/\cr eC/\∃jo kV,aq (ak.room 12) r 3=some (.slice jo 0 kV (.aL 8))/\∃CQ,aq (ak.room 12) r 2=some (J CQ)/\i<kV/\∃av,bg.storeCells (ak.room 12) jo (0+i*8+7) [J CQ]=some av/\∃zO CR,aq av r 3=some (.slice zO 0 CR (.aL 8))/\i<CR/\∃CS,aq av zO (0+i*8+0)=some (aC CS)/\Q .ret (aj [(0,af r),(4,aC CS),(5,af e),(7,J i)] av))/\(¬i<aB->Q (.exit 2) (aj [(0,af r),(5,af e),(7,J i)] h))):
  bp an Tryz.f29 call [1,1,1,1,1,1,0,1,0,0] (aj [(0,af r),(5,af e),(7,J i)] h) Q:=
 c3 [(71,.a1 .o),(79,.a1 (.gH (.aL 8))),(88,.a1 (.gH (.aL 8))),(99,.a1 (.gH (.aL 8))),(84,.a1 (.is (.bool true)))] [0,4,5,7] [] H
theorem Te(r e i:Nat)(h:ab)(H:∃v1,aq h r 3=some v1/\∃aB,bV an h 38 v1=some (J aB)/\(i<aB->∃aY bd,aq (h.room 9) r 3=some (.slice aY 0 bd (.aL 8))/\i<bd/\∃bj bC s1 v2 b8 bP cd cR,bg.loadCells (h.room 9) aY (0+i*8) 8=some [aC bj,J bC,.str s1,v2,b8,aC bP,J cd,J cR]/\∃dD dX s2 v4 eC eE e9 fw,bg.loadCells (h.room 9) e 0 8=some [aC dD,J dX,.str s2,v4,eC,aC eE,J e9,J fw]/\∃ak,call (.fn 54) [.agg [aC bj,J bC,.str s1,v2,b8,aC bP,J cd,J cR],.agg [aC dD,J dX,.str s2,v4,eC,aC eE,J e9,J fw]] (h.room 9)=.ret (.bool false) ak/\cr v2/\cr b8/\cr v4/\cr eC/\i+1<9223372036854775808/\Q .nrm (aj [(0,af r),(5,af e),(7,J (i+1))] ak))/\(¬i<aB->Q (.exit 2) (aj [(0,af r),(5,af e),(7,J i)] h))):
  bp an Tryz.f29 call [1,1,1,1,1,1,0,1,0,0] (aj [(0,af r),(5,af e),(7,J i)] h) Q:=
 c3 [(71,.a1 .o),(79,.a1 (.gH (.aL 8))),(84,.a1 (.is (.bool false)))] [0,4,5,7] [] H
theorem ahn(r e:Nat)(h:ab)(H:∃aB,aq h r 1=some (aC aB)/\aB+1<18446744073709551616/\∃ak,bg.storeCells h r 1 [aC (aB+1)]=some ak/\∃aY,aq ak r 1=some (aC aY)/\∃av,bg.storeCells ak e 0 [aC aY]=some av/\∃bd,aq av r 2=some (J bd)/\∃aD,bg.storeCells av e 7 [J bd]=some aD/\∃v1,aq (aD.room 11) r 3=some v1/\∃bj bC s1 v2 b8 bP cd cR,bg.loadCells (aD.room 11) e 0 8=some [aC bj,J bC,.str s1,v2,b8,aC bP,J cd,J cR]/\g4 v2/\g4 b8/\∃v4 a4,dJ an (ab.set (aD.room 11) (aD.n+6) (some (aQ [aC bj,J bC,.str s1,v2,b8,aC bP,J cd,J cR] 67))) 38 (some 38) v1 (.slice (aD.n+6) 0 1 (.exact 1))=some (v4,a4)/\g4 v4/\∃bk,bg.storeCells a4 r 3 [v4]=some bk/\cr v1/\aq (ab.set (aD.room 11) (aD.n+6) (some (aQ [aC bj,J bC,.str s1,v2,b8,aC bP,J cd,J cR] 67))) r 3=some v1/\cr v2/\cr b8/\bg.loadCells (ab.set (aD.room 11) (aD.n+6) (some (aQ [aC bj,J bC,.str s1,v2,b8,aC bP,J cd,J cR] 67))) e 0 8=some [aC bj,J bC,.str s1,v2,b8,aC bP,J cd,J cR]/\∃dD,aq bk e 0=some (aC dD)/\Q .ret (aj [(4,aC dD)] bk)):
  bp an Tryz.f29 call [1,1,1,1,1,1,1] (aj [(0,af r),(5,af e)] h) Q:=
 c3 [(125,.a1 .o),(128,.a1 .o)] [4] [] H
theorem ft.sound{L:Nat->Prop}{h:ab}{v:ad}{vs:List ad}(o:ft L h v vs):ad.sound v=true:=by
 rcases o with⟨rfl,_⟩|⟨q,rfl,_⟩<;>rfl
theorem ft.mono{L eF:Nat->Prop}{h:ab}{v:ad}{vs:List ad}(o:ft L h v vs)(e:∀d,L d->eF d):ft eF h v vs:=o.bB λd ai=>⟨e d ai,rfl⟩
theorem Tf{D:Type}{enc:D->List ad}{w:Nat}(hw:∀d,(enc d).length=w){j:Nat}{z:ad}(aO:j<w):∀{ds:List D} {i:Nat} {d':D} (hi:i<ds.length),enc d'=(enc ds[i]).set j z->(dp enc ds).set (i*w+j) z=dp enc (ds.set i d')
 |[],i,_,hi,_=>by cases hi
 |d::ds,0,d',hi,h=>by
  rw[yy,List.set_cons_zero,yy,Nat.zero_mul,Nat.zero_add,List.set_append_left _ _ (by rw[hw];exact aO)]
  rw[h];rfl
 |d::ds,i+1,d',hi,h=>by
  rw[yy,List.set_cons_succ,yy,List.set_append_right _ _ (by rw[hw,Nat.succ_mul];omega),hw,show(i+1)*w+j-w=i*w+j by rw[Nat.succ_mul];omega]
  have:=Tf (ds:=ds) (i:=i) (d':=d') hw aO (by simpa using hi) (by simpa using h)
  rw[this]
theorem dU.apart{R L:Nat->Prop}{h:ab}{r:Nat}{ck:ad}{M:List fN}{s:bZ}(aT:dU R L h r ck M s):∀k cp,ck≠ .slice r 0 k cp:=by
 intro k cp e
 rcases aT.row with⟨I,_⟩|⟨q,I,_,ax,_⟩
 · rw[I] at e;cases e
 · rw[I] at e;cases e
   rw[aT.st] at ax
   injection ax with ax
   injection ax with _ _ ax
   cases ax
theorem dU.cells{R L:Nat->Prop}{h:ab}{r:Nat}{ck:ad}{M:List fN}{s:bZ}(aT:dU R L h r ck M s){i:Nat}(hi:i<M.length):∃q,ck=.slice q 0 M.length (.aL 8)/\h.get q=some (.cells (dp eX M) 67 .aL 0 0)/\bg.loadCells h q (0+i*8) 8=some (eX M[i]):=by
 rcases aT.row with⟨_,e⟩|⟨q,I,ae,ax,_⟩
 · rw[e] at hi;cases hi
 · exact⟨q,I,ax,XI (enc:=eX) (off:=0+i*8) (rest:=[]) (λ_=>rfl) (by rw[List.append_nil];exact ax) hi (by omega)⟩
theorem dU.own{R L:Nat->Prop}{h:ab}{r:Nat}{ck:ad}{M:List fN}{s s':bZ}(aT:dU R L h r ck M s)(aA:s'.l=s.l):dU R L (h.set r (some (aQ [J s'.cap,aC s'.given,J s'.clock,ck] 40))) r ck M s':=by
 have low:∀d,d≠r->(h.set r (some (aQ [J s'.cap,aC s'.given,J s'.clock,ck] 40))).get d=h.get d:=λd ai=>cX ai rfl
 exact⟨eK rfl,bT.bB aT.row (Nat.le_refl _) λq aK _=>low q λe=>aT.apart _ _ (e▸aK),aT.e.trans aA.symm,λx aa=>(aT.ns x aa).bB λd ai=>⟨ai,low d (aT.j2 d ai).2.1⟩,λx aa=>(aT.az x aa).bB λd ai=>⟨ai,low d (aT.j2 d ai).2.1⟩,aT.iZ,aT.sO,aT.j2,aT.up⟩
theorem dU.put{R L:Nat->Prop}{h:ab}{r:Nat}{ck:ad}{M:List fN}{s:bZ}(aT:dU R L h r ck M s){i j:Nat}(hi:i<M.length)(aO:j<8){x:fN}{z:ad}(a7:z.de=true)(aa:eX x=(eX M[i]).set j z)(aH:x.bA=M[i].bA/\x.aU=M[i].aU/\x.e.ns=M[i].e.ns/\x.e.args=M[i].e.args){nW:List b3}(aA:(M.set i x).map (·.e)=nW):
  ∃q g,ck=.slice q 0 M.length (.aL 8)/\bg.storeCells h q (0+i*8+j) [z]=some g/\dU R L g r ck (M.set i x) {s with l:=nW}/\(∀d,¬R d->g.get d=h.get d)/\g.n=h.n:=by
 obtain⟨q,I,ae,_⟩:=aT.cells hi
 have hlen:=s4 (w:=8) (enc:=eX) (λ_=>rfl) M
 have F2:R q:=aT.sO q _ _ I
 have md:=Tf (enc:=eX) (w:=8) (λ_=>rfl) aO hi aa
 refine⟨q,h.set q (some (.cells (dp eX (M.set i x)) 67 .aL 0 0)),I,?_,?_,λd ai=>cX (λe=>ai (e▸F2)) rfl,rfl⟩
 · refine eV ae rfl ?_
   rw[pe z a7 _ _ (by rw[hlen];omega),show 0+i*8+j=i*8+j by omega,md]
 · have aho:q≠r:=λe=>aT.apart _ _ (e▸I)
   have low:∀d,d≠q->(h.set q (some (.cells (dp eX (M.set i x)) 67 .aL 0 0))).get d=h.get d:=λd ai=>cX ai rfl
   have mD:∀d,L d->d≠q:=λd ai e=>(aT.j2 d ai).2.2 _ _ (e▸I)
   have Tg:∀y∈M.set i x,y=x\/y∈M:=λy aZ=>by
    rcases List.mem_or_eq_of_mem_set aZ with h|h
    · exact .inr h
    · exact .inl h
   refine⟨(low r λe=>aho e.symm).trans aT.st,.inr ⟨q,by rw[List.length_set];exact I,by rw[List.length_set];omega,eK rfl,Nat.zero_le _,aT.up q F2⟩,aA,λy aZ=>?_,λy aZ=>?_,aT.iZ,aT.sO,aT.j2,aT.up⟩
   · rcases Tg y aZ with rfl|aZ
     · rw[aH.1,aH.2.2.1];exact(aT.ns _ (List.getElem_mem hi)).bB λd ai=>⟨ai,low d (mD d ai)⟩
     · exact(aT.ns y aZ).bB λd ai=>⟨ai,low d (mD d ai)⟩
   · rcases Tg y aZ with rfl|aZ
     · rw[aH.2.1,aH.2.2.2];exact(aT.az _ (List.getElem_mem hi)).bB λd ai=>⟨ai,low d (mD d ai)⟩
     · exact(aT.az y aZ).bB λd ai=>⟨ai,low d (mD d ai)⟩
theorem map_id{l:List b3}(up:l.Pairwise λa b=>a.id<b.id){i:Nat}(hi:i<l.length){f g:b3->b3}(I:∀e,e.id=l[i].id->f e=g e)(ae:∀e,e.id≠l[i].id->f e=e):l.map f=l.set i (g l[i]):=by
 refine List.ext_getElem (by simp) λa aV ag=>?_
 rw[List.getElem_map,List.getElem_set]
 have aV:a<l.length:=by simpa using aV
 by_cases h:i=a
 · subst h
   rw[if_pos rfl];exact I _ rfl
 · rw[if_neg h]
   refine ae _ λe=>?_
   have a0:=List.pairwise_iff_getElem.1 up
   rcases Nat.lt_or_gt_of_ne h with h|h
   · have:=a0 i a hi aV h;omega
   · have:=a0 a i aV hi h;omega
theorem ahp(m:Nat){R L E:Nat->Prop}{h:ab}{r hn k ret:Nat}{nm:bb}{ns:List bb}{az:List Nat}{ck bA aU:ad}{M:List fN}{s:bZ}(aT:dU R L h r ck M s)(di:eg s)(he:h.get hn=some (aQ [aC 0,J k,.str nm,bA,aU,aC ret,J 0,J 0] 67))(hu:hn<h.n)(dV:¬R hn)
  (Le:bA.de=true)(mO:aU.de=true)(aH:ft E h bA (ns.map .str))(aV:ft E h aU (az.map jF))(e4:∀d,E d->d<h.n/\¬R d/\d≠hn)(gB:M.length<=20000)(ag:∀x∈M,x.e.ns.length<=1000/\x.e.args.length<=1000)(ar:s.given+1<=10000)(ah:s.clock+1<=10000){Q:bW->bL->Prop}
  (uI:∀g cC eF fT fx,dU cC eF g r fT fx (hG k nm ns az ret s).2->(∀d,d<h.n->¬R d->d≠hn->g.get d=h.get d)->(∀d,cC d->R d\/E d\/h.n<=d)->h.n<=g.n->Q .ret (bL.mk [(4,aC (hG k nm ns az ret s).1)] [] .none g)):
  bp an Tryz.f29 (Y (m+1)) [1,1,1,1,1] (bL.mk [(0,.ptr r 0),(5,.ptr hn 0)] [] .none h) Q:=by
 obtain⟨z,a7⟩:∃z:fN,z=⟨⟨0,k,nm,ns,az,ret,0,0⟩,bA,aU,Le,mO⟩:=⟨_,rfl⟩
 have Lf:hn≠r:=λe=>dV (e▸aT.iZ)
 obtain⟨I,tA⟩:∃x,x=h.set r (some (aQ [J s.cap,aC s.given,J (s.clock+1),ck] 40)):=⟨_,rfl⟩
 have aB:I.n=h.n:=by rw[tA];rfl
 have pZ:∀d,d≠r->I.get d=h.get d:=λd ai=>by rw[tA];exact cX ai rfl
 have sk:dU R L I r ck M {s with clock:=s.clock+1}:=by rw[tA];exact aT.own (s':={s with clock:=s.clock+1}) rfl
 have F3:I.get hn=some (aQ (eX z) 67):=by rw[a7];exact(pZ hn Lf).trans he
 have ahq:∀{v:ad} {vs:List ad},ft E h v vs->ft E I v vs:=λo=>o.bB λd ai=>⟨ai,pZ d λe=>(e4 d ai).2.1 (e▸aT.iZ)⟩
 refine ke [1,1,1,1,1] (ahk _ r hn h ⟨s.clock,aF aT.st rfl,by omega,I,by rw[tA];exact eV aT.st rfl rfl,?_⟩)
 refine ke [1,1,1,1,1,1] (ahl _ r hn I ?_)
 have round:∀g,Ext I.n I g->∀j (aO:j<M.length),∃q ak,ck=.slice q 0 M.length (.aL 8)/\bg.loadCells (g.room 9) q (0+j*8) 8=some (eX M[j])/\bg.loadCells (g.room 9) hn 0 8=some (eX z)/\Y (m+1) (.fn 54) [.agg (eX M[j]),.agg (eX z)] (g.room 9)=.ret (.bool (b3.is k nm ns az ret M[j].e)) ak/\Ext I.n I ak/\ad.sound M[j].bA=true/\ad.sound M[j].aU=true:=by
  intro g x j aO
  have hI:Ext I.n I (g.room 9):=x.trans (Nat.le_refl _) (Ext.room I.n g 9)
  have c4:=sk.ext hI.n λd ai=>hI.get d (sk.up d ai)
  obtain⟨q,a8,_,bX⟩:=c4.cells aO
  have aa:=List.getElem_mem aO
  have BY:∀{v:ad} {vs:List ad},ft E h v vs->ft (λd=>L d\/E d) (g.room 9) v vs:=λo=>(ahq o).bB λd ai=>⟨.inr ai,hI.get d (by rw[aB];exact(e4 d ai).1)⟩
  obtain⟨ak,aM,bF⟩:=aha m (L:=λd=>L d\/E d) (h:=g.room 9) (x:=M[j]) (y:=z) (λd ai=>by
   rcases ai with ai|ai
   · exact c4.up d (c4.j2 d ai).1
   · have:=(e4 d ai).1;have:=hI.n;omega) ((c4.ns _ aa).mono λd=>.inl) ((c4.az _ aa).mono λd=>.inl) (by rw[a7];exact BY aH) (by rw[a7];exact BY aV) (by have:=(ag _ aa).1;omega) (by have:=(ag _ aa).2;omega)
  rw[a7] at aM
  refine⟨q,ak,a8,bX,lU (h:=g.room 9) ((hI.get hn (by omega)).trans F3) rfl,by rw[a7];exact aM,hI.trans hI.n bF,(c4.ns _ aa).sound,(c4.az _ aa).sound⟩
 have Lg:ad.sound z.bA=true:=by rw[a7];exact aH.sound
 have Lh:ad.sound z.aU=true:=by rw[a7];exact aV.sound
 cases hf:s.l.find? (b3.is k nm ns az ret) with
 |some c6=>
  obtain⟨a0,t,bm,Li,tB⟩:=List.find?_eq_some_iff_getElem.1 hf
  have akh:s.l.length=M.length:=by rw[<-aT.e,List.length_map]
  have aki:t<M.length:=by omega
  have tC:∀j (I:j<M.length) (ae:j<s.l.length),s.l[j]=M[j].e:=λj I ae=>by simp[<-aT.e]
  have Lj:hG k nm ns az ret s=(c6.id,{s with clock:=s.clock+1,l:=s.l.map (kD c6.id (s.clock+1))}):=by unfold hG;rw[hf]
  refine e8 (λcO st=>∃j g Γ,st=aks Γ g/\bY [(0,.ptr r 0),(5,.ptr hn 0),(7,J j)] Γ/\M.length-j=cO/\j<=t/\Ext I.n I g) ?_ M.length _ (by omega) ⟨0,I,_,rfl,⟨rfl,rfl,rfl,trivial⟩,by omega,by omega,Ext.refl _ _⟩
  rintro cO st ⟨j,g,Γ,rfl,cn,ay,aO,x⟩
  have m8:j<M.length:=by omega
  have c4:=sk.ext x.n λd ai=>x.get d (sk.up d ai)
  obtain⟨q,ak,a8,a2,bX,aM,bF,s1,s2⟩:=round g x j m8
  by_cases ahr:j=t
  · subst ahr
    have Th:M[j].e=c6:=by rw[<-Li,tC j m8 bm]
    rw[Th,a0] at aM
    have F4:Ext I.n I (ak.room 12):=bF.trans (Nat.le_refl _) (Ext.room I.n ak 12)
    have vr:=sk.ext F4.n λd ai=>F4.get d (sk.up d ai)
    have md:(M.set j {M[j] with e:={M[j].e with used:=s.clock+1}}).map (·.e)=s.l.map (kD c6.id (s.clock+1)):=by
     rw[List.map_set,aT.e]
     rw[map_id di.up bm (f:=kD c6.id (s.clock+1)) (g:=λe=>{e with used:=s.clock+1}) (λe h=>by unfold kD;rw[if_pos (by rw[h,Li])]) (λe h=>by unfold kD;rw[if_neg (by rw[<-Li];exact h)])]
     rw[tC j m8 bm]
    obtain⟨br,av,cT,dv,eY,gq,il⟩:=vr.put m8 (by omega:7<8) (x:={M[j] with e:={M[j].e with used:=s.clock+1}}) (z:=J (s.clock+1)) rfl rfl ⟨rfl,rfl,rfl,rfl⟩ md
    have Lk:br=q:=by rw[a8] at cT;cases cT;rfl
    subst Lk
    obtain⟨CT,f1,f2⟩:=eY.at (i:=j) (by rw[List.length_set];exact m8)
    have qC:CT=br:=by rw[List.length_set] at f1;rw[a8] at f1;cases f1;rfl
    subst qC
    have f3:=f2 0 _ rfl (by omega)
    have f4:aq av CT (0+j*8+0)=some (aC c6.id):=by
     rw[f3]
     simp only[List.getElem_set_self,Th]
    refine ei (ahm _ r hn j g ⟨ck,aF c4.st rfl,M.length,c4.len g,λ_=>⟨CT,M.length,by rw[<-a8];exact aF (h:=g.room 9) c4.st rfl,m8,_,_,_,_,_,_,_,_,a2,_,_,_,_,_,_,_,_,bX,ak,aM,s1,s2,Lg,Lh,CT,M.length,by rw[<-a8];exact aF vr.st rfl,s.clock+1,aF vr.st rfl,m8,av,dv,CT,M.length,by rw[<-a8];exact aF eY.st rfl,m8,c6.id,f4,.inr ⟨c6.id,av,_,rfl,rfl,⟨rfl,trivial⟩,?_⟩⟩,λh=>absurd m8 h⟩) cn
    rw[Lj] at uI
    have Md:=F4.n
    exact uI av R L ck _ eY (λd ai ao _=>(gq d ao).trans ((F4.get d (by omega)).trans (pZ d λe=>ao (e▸aT.iZ)))) (λd ai=>.inl ai) (by omega)
  · have lT:b3.is k nm ns az ret M[j].e=false:=by
      have:=tB j (by omega)
      rw[tC j m8 (by omega)] at this
      simpa using this
    rw[lT] at aM
    exact ei (Te _ r hn j g ⟨ck,aF c4.st rfl,M.length,c4.len g,λ_=>⟨q,M.length,by rw[<-a8];exact aF (h:=g.room 9) c4.st rfl,m8,_,_,_,_,_,_,_,_,a2,_,_,_,_,_,_,_,_,bX,ak,aM,s1,s2,Lg,Lh,by omega,_,(by show _<cO;omega),j+1,ak,_,rfl,⟨rfl,rfl,rfl,trivial⟩,rfl,by omega,bF⟩,λh=>absurd m8 h⟩) cn
 |none=>
  have Lj:hG k nm ns az ret s=(s.given+1,{s with given:=s.given+1,clock:=s.clock+1,l:=s.l++[⟨s.given+1,k,nm,ns,az,ret,0,s.clock+1⟩]}):=by unfold hG;rw[hf]
  refine e8 (λcO st=>∃j g Γ,st=aks Γ g/\bY [(0,.ptr r 0),(5,.ptr hn 0),(7,J j)] Γ/\M.length-j=cO/\j<=M.length/\Ext I.n I g) ?_ M.length _ (by omega) ⟨0,I,_,rfl,⟨rfl,rfl,rfl,trivial⟩,by omega,by omega,Ext.refl _ _⟩
  rintro cO st ⟨j,g,Γ,rfl,cn,ay,aO,x⟩
  have c4:=sk.ext x.n λd ai=>x.get d (sk.up d ai)
  have er:=x.n
  refine ei (Te _ r hn j g ⟨ck,aF c4.st rfl,M.length,c4.len g,λm8=>?_,λ_=>.inl ⟨g,_,rfl,rfl,⟨rfl,rfl,trivial⟩,?_⟩⟩) cn
  · obtain⟨q,ak,a8,a2,bX,aM,bF,s1,s2⟩:=round g x j m8
    have lT:b3.is k nm ns az ret M[j].e=false:=by
     have:=List.find?_eq_none.1 hf M[j].e (by rw[<-aT.e];exact List.mem_map.2 ⟨_,List.getElem_mem m8,rfl⟩)
     simpa using this
    rw[lT] at aM
    exact⟨q,M.length,by rw[<-a8];exact aF (h:=g.room 9) c4.st rfl,m8,_,_,_,_,_,_,_,_,a2,_,_,_,_,_,_,_,_,bX,ak,aM,s1,s2,Lg,Lh,by omega,_,(by show _<cO;omega),j+1,ak,_,rfl,⟨rfl,rfl,rfl,trivial⟩,rfl,by omega,bF⟩
  ·
   have ahs:g.get hn=some (aQ [aC 0,J k,.str nm,bA,aU,aC ret,J 0,J 0] 67):=by
    rw[x.get hn (by omega),F3,a7];rfl
   obtain⟨bG,CU⟩:∃x,x=g.set r (some (aQ [J s.cap,aC (s.given+1),J (s.clock+1),ck] 40)):=⟨_,rfl⟩
   have Ll:dU R L bG r ck M {s with clock:=s.clock+1,given:=s.given+1}:=by rw[CU];exact c4.own (s':={s with clock:=s.clock+1,given:=s.given+1}) rfl
   obtain⟨dS,tD⟩:∃dS:fN,dS=⟨⟨s.given+1,k,nm,ns,az,ret,0,s.clock+1⟩,bA,aU,Le,mO⟩:=⟨_,rfl⟩
   obtain⟨b0,tf⟩:∃x,x=bG.set hn (some (aQ [aC (s.given+1),J k,.str nm,bA,aU,aC ret,J 0,J 0] 67)):=⟨_,rfl⟩
   obtain⟨dF,CV⟩:∃x,x=b0.set hn (some (aQ (eX dS) 67)):=⟨_,rfl⟩
   have aht:bG.get hn=g.get hn:=by rw[CU];exact cX Lf rfl
   have ahu:b0.get hn=some (aQ [aC (s.given+1),J k,.str nm,bA,aU,aC ret,J 0,J 0] 67):=by rw[tf];exact eK rfl
   have F5:dF.get hn=some (aQ (eX dS) 67):=by rw[CV];exact eK rfl
   have akj:dF.n=g.n:=by rw[CV,tf,CU];rfl
   have Ti:∀d,d≠hn->dF.get d=bG.get d:=λd ai=>by rw[CV,tf];exact(cX ai rfl).trans (cX ai rfl)
   have ahv:dU R L b0 r ck M {s with clock:=s.clock+1,given:=s.given+1}:=Ll.ext (by rw[tf];exact Nat.le_refl _) λd ai=>by rw[tf];exact cX (λe=>dV (e▸ai)) rfl
   have qe:dU R L dF r ck M {s with clock:=s.clock+1,given:=s.given+1}:=Ll.ext (by rw[CV,tf];exact Nat.le_refl _) λd ai=>Ti d λe=>dV (e▸ai)
   obtain⟨H,tE⟩:∃x,x=(dF.room 11).set (dF.n+6) (some (aQ (eX dS) 67)):=⟨_,rfl⟩
   have lj:H.n=dF.n+11:=by rw[tE];rfl
   have k1:∀d,d<dF.n->H.get d=dF.get d:=λd ai=>by rw[tE];exact cX (by omega) rfl
   have jt:dU R L H r ck M {s with clock:=s.clock+1,given:=s.given+1}:=qe.ext (by omega) λd ai=>k1 d (qe.up d ai)
   have fG:fu H 8 (.slice (dF.n+6) 0 1 (.exact 1))=some (1,eX dS):=by
    have:bg.loadCells H (dF.n+6) 0 (1*8)=some (eX dS):=lU (by rw[tE];exact eK rfl) rfl
    simp only[fu,this]
   obtain⟨a4,cu,cU,dm,_,ey⟩:=zm K6 (h:=H) (d:=dS) (src:=.slice (dF.n+6) 0 1 (.exact 1)) jt.row (Nat.zero_le _) fG (by omega)
   have gh:a4.get r=H.get r:=ey r (jt.up r jt.iZ) jt.apart
   have KO:=gh.trans jt.st
   obtain⟨bk,CW⟩:∃x,x=a4.set r (some (aQ [J s.cap,aC (s.given+1),J (s.clock+1),.slice H.n 0 (M++[dS]).length (.aL 8)] 40)):=⟨_,rfl⟩
   have bC:bk.n=H.n+1:=by rw[CW];exact dm
   have l7:∀d,d≠r->d<H.n->(∀n cp,ck≠ .slice d 0 n cp)->bk.get d=H.get d:=λd I ae ax=>by rw[CW];exact(cX I rfl).trans (ey d ae ax)
   have xg:r<H.n:=jt.up r jt.iZ
   have vm:∀d,d<h.n->¬R d->d≠hn->bk.get d=h.get d:=λd ai ao dr=>by
    have hdr:d≠r:=λe=>ao (e▸aT.iZ)
    refine(l7 d hdr (by omega) λn cp e=>ao (aT.sO d n cp e)).trans ((k1 d (by omega)).trans ((Ti d dr).trans ?_))
    rw[CU]
    exact(cX hdr rfl).trans ((x.get d (by omega)).trans (pZ d hdr))
   have eZ:bk.get hn=some (aQ (eX dS) 67):=(l7 hn Lf (by omega) λn cp e=>dV (aT.sO hn n cp e)).trans ((k1 hn (by omega)).trans F5)
   rw[tD] at F5 eZ
   subst tE
   refine ahn _ r hn g ⟨s.given,aF c4.st rfl,by omega,bG,by rw[CU];exact eV c4.st rfl rfl,s.given+1,aF Ll.st rfl,b0,by rw[tf];exact eV (aht.trans ahs) rfl (pe _ rfl _ _ (by simp)),s.clock+1,aF ahv.st rfl,dF,by rw[CV,tD];exact eV ahu rfl (pe _ rfl _ _ (by simp)),ck,aF (h:=dF.room 11) qe.st rfl,s.given+1,k,nm,bA,aU,ret,0,s.clock+1,lU (h:=dF.room 11) F5 rfl,Le,mO,_,a4,by rw[tD] at cu;exact cu,rfl,bk,by rw[CW,tD];exact eV KO rfl (pe _ rfl _ _ (by simp)),bT.sound qe.row,?_,aH.sound,aV.sound,?_,s.given+1,aF eZ rfl,?_⟩
   · rw[tD] at jt;exact aF jt.st rfl
   · rw[tD] at k1
     exact lU ((k1 hn (by omega)).trans F5) rfl
   · rw[Lj] at uI
     refine uI bk (λd=>R d\/E d\/d=(dF.n+11)) (λd=>L d\/E d) (.slice (dF.n+11) 0 (M++[dS]).length (.aL 8)) (M++[dS]) ⟨by rw[CW];exact eK rfl,.inr ⟨dF.n+11,rfl,by simp,?_,Nat.zero_le _,by omega⟩,?_,?_,?_,.inl aT.iZ,?_,?_,?_⟩ vm (λd ai=>?_) (by omega)
     · rw[CW];exact(cX (by omega) rfl).trans cU
     · rw[List.map_append,aT.e,tD];rfl
     · intro y aZ
       rcases List.mem_append.1 aZ with aZ|aZ
       · exact(jt.ns y aZ).bB λd ai=>⟨.inl ai,l7 d (jt.j2 d ai).2.1 (jt.up d (jt.j2 d ai).1) (jt.j2 d ai).2.2⟩
       · rw[List.mem_singleton.1 aZ,tD]
         exact aH.bB λd ai=>⟨.inr ai,vm d (e4 d ai).1 (e4 d ai).2.1 (e4 d ai).2.2⟩
     · intro y aZ
       rcases List.mem_append.1 aZ with aZ|aZ
       · exact(jt.az y aZ).bB λd ai=>⟨.inl ai,l7 d (jt.j2 d ai).2.1 (jt.up d (jt.j2 d ai).1) (jt.j2 d ai).2.2⟩
       · rw[List.mem_singleton.1 aZ,tD]
         exact aV.bB λd ai=>⟨.inr ai,vm d (e4 d ai).1 (e4 d ai).2.1 (e4 d ai).2.2⟩
     · intro d n cp e;cases e;exact .inr (.inr rfl)
     · intro d ai
       rcases ai with ai|ai
       · obtain⟨gO,j9,lH⟩:=aT.j2 d ai
         have:=aT.up d gO
         exact⟨.inl gO,j9,λn cp e=>by cases e;omega⟩
       · obtain⟨gO,j9,lH⟩:=e4 d ai
         exact⟨.inr (.inl ai),λe=>j9 (e▸aT.iZ),λn cp e=>by cases e;omega⟩
     · intro d ai
       rcases ai with ai|ai|ai
       · have:=aT.up d ai;omega
       · have:=(e4 d ai).1;omega
       · omega
     · rcases ai with ai|ai|ai
       · exact .inl ai
       · exact .inr (.inl ai)
       · exact .inr (.inr (by omega))
theorem Tj:∀{l:List b3} {lo hi:Nat},l.Pairwise (λa b=>a.id<b.id)->(∀e∈l,lo<e.id/\e.id<=hi)->l.length<=hi-lo
 |[],_,_,_,_=>Nat.zero_le _
 |e::l,lo,hi,a0,h=>by
  obtain⟨cT,dv⟩:=List.pairwise_cons.1 a0
  have I:=h e (List.mem_cons_self ..)
  have:=Tj (lo:=e.id) (hi:=hi) dv λx aa=>⟨cT x aa,(h x (List.mem_cons_of_mem _ aa)).2⟩
  rw[List.length_cons];omega
theorem eg.len{s:bZ}(h:eg s):s.l.length<=s.given:=by
 have:=Tj (lo:=0) (hi:=s.given) h.up λe he=>⟨(h.lo e he).1,(h.lo e he).2.1⟩
 omega
def ju(l:List b3):Prop:=∀e∈l,e.ns.length<=61/\e.args.length<=61
theorem ahw{k:Nat}{nm:bb}{ns:List bb}{az:List Nat}{r:Nat}{s:bZ}(h:ju s.l)(I:ns.length<=61)(ae:az.length<=61):ju (hG k nm ns az r s).2.l:=by
 unfold hG
 intro e he
 split at he
 · obtain⟨x,aa,rfl⟩:=List.mem_map.1 he
   unfold kD
   split<;>exact h x aa
 · rcases List.mem_append.1 he with he|he
   · exact h e he
   · rw[List.mem_singleton.1 he];exact⟨I,ae⟩
mutual
theorem F6:∀(t:aJ) (s:bZ),dE (some t)=0->ju s.l->ju (ch t s).2.l
 |.mk k nm ns xs rt,s,ah,h=>by
  obtain⟨aM,bf⟩:=lK.1 ah
  have aa:=CX xs s (λu hu=>pk ah hu) h
  have bc:=Tk rt (cf xs s).2 (λu hu=>by subst hu;exact xt ah) aa
  rw[ch]
  rw[l3] at aM
  have:=mo xs
  have ax:=(FK bf).2.1
  exact ahw bc (by omega) (by rw[zD];omega)
theorem CX:∀(l:List aJ) (s:bZ),(∀t∈l,dE (some t)=0)->ju s.l->ju (cf l s).2.l
 |[],s,_,h=>by rw[cf];exact h
 |t::l,s,ah,h=>by
  rw[cf]
  exact CX l _ (λu hu=>ah u (List.mem_cons_of_mem _ hu)) (F6 t s (ah t (List.mem_cons_self ..)) h)
theorem Tk:∀(o:Option aJ) (s:bZ),(∀u,o=some u->dE (some u)=0)->ju s.l->ju (fM o s).2.l
 |none,s,_,h=>by rw[fM];exact h
 |some t,s,ah,h=>by rw[fM];exact F6 t s (ah t rfl) h
end
theorem bT.u5{D:Type}{f:D->ad}{el B:Nat}{h:ab}{v:ad}{ds:List D}(o:bT (λd=>[f d]) 1 el B h v ds):ft (λd=>∃k cp,v=.slice d 0 k cp) h v (ds.map f):=by
 rcases o with⟨rfl,rfl⟩|⟨q,rfl,ae,ax,aN,bS⟩
 · exact .inl ⟨rfl,rfl⟩
 · refine .inr ⟨q,by rw[List.length_map],⟨_,_,rfl⟩,by rw[List.length_map];exact ae,λi hi=>?_⟩
   have fi:i<ds.length:=by simpa using hi
   refine lb ax ?_
   rw[kn,Nat.zero_add,Nat.mul_one,List.getElem?_eq_getElem (by rw[List.length_map];exact fi)]
def ahx(n:Nat)(t:aJ):Prop:=∀(G R L:Nat->Prop) (h:ab) (r:Nat) (v ck:ad) (M:List fN) (s:bZ),dU R L h r ck M s->eg s->ju s.l->s.clock+sz t<=10000->s.given+sz t<=10000->(∀d,G d->d<h.n/\¬R d)->ew G h t v->
 ∃g cC eF fT fx,Y n (.fn 29) [.ptr r 0,v] h=.ret (aC (ch t s).1) g/\dU cC eF g r fT fx (ch t s).2/\(∀d,d<h.n->¬R d->g.get d=h.get d)/\(∀d,cC d->R d\/h.n<=d)/\h.n<=g.n
structure qf(h0:ab)(xG:Nat->Prop)(r e:Nat)(k:Nat)(nm:bb)(v2 aU:ad)(ns:List bb)(ids:List Nat)(ret:Nat)(s:bZ)(y:ab)(R L:Nat->Prop)(ck:ad)(M:List fN):Prop where
 ref:dU R L y r ck M s
 ev:y.get e=some (aQ [aC 0,J k,.str nm,v2,aU,aC ret,J 0,J 0] 67)
 ns:k0 h0.n y v2 ns
 az:tu h0.n y aU ids
 lo:h0.n<=e
 up:e<y.n
 dj:∀d,d<h0.n->¬xG d->y.get d=h0.get d
 iZ:∀d,R d->xG d\/h0.n<=d
 sep:∀d,R d->d≠e/\(∀k cp,v2≠ .slice d 0 k cp)/\∀k cp,aU≠ .slice d 0 k cp
 aH:h0.n<=y.n
theorem qf.rows{h0:ab}{xG:Nat->Prop}{r e k:Nat}{nm:bb}{v2 aU:ad}{ns:List bb}{ids:List Nat}{ret:Nat}{s:bZ}{y:ab}{R L:Nat->Prop}{ck:ad}{M:List fN}(aT:qf h0 xG r e k nm v2 aU ns ids ret s y R L ck M):(∀d k cp,v2=.slice d 0 k cp->h0.n<=d/\d<y.n/\d≠e/\¬R d/\∀k cp,aU≠ .slice d 0 k cp)/\∀d k cp,aU=.slice d 0 k cp->h0.n<=d/\d<y.n/\d≠e/\¬R d/\∀k cp,v2≠ .slice d 0 k cp:=by
 have A:∀d k cp,v2=.slice d 0 k cp->∃cs,y.get d=some (.cells cs 9 .aL 0 0):=λd k cp ai=>by
  rcases aT.ns with⟨h,_⟩|⟨q,h,_,ax,_⟩
  · rw[h] at ai;cases ai
  · rw[h] at ai;cases ai;exact⟨_,ax⟩
 have B:∀d k cp,aU=.slice d 0 k cp->∃cs,y.get d=some (.cells cs 32 .aL 0 0):=λd k cp ai=>by
  rcases aT.az with⟨h,_⟩|⟨q,h,_,ax,_⟩
  · rw[h] at ai;cases ai
  · rw[h] at ai;cases ai;exact⟨_,ax⟩
 have C:∀d k cp cO jE,v2=.slice d 0 k cp->aU=.slice d 0 cO jE->False:=λd k cp cO jE I ae=>by
  obtain⟨aM,I⟩:=A d k cp I
  obtain⟨bf,ae⟩:=B d cO jE ae
  rw[I] at ae
  injection ae with ae
  injection ae with _ ae
  exact absurd ae (by decide)
 refine⟨λd k cp ai=>⟨(bT.lt aT.ns d k cp ai).1,(bT.lt aT.ns d k cp ai).2,λh=>?_,λh=>(aT.sep d h).2.1 k cp ai,λcO jE h=>C d k cp cO jE ai h⟩,λd k cp ai=>⟨(bT.lt aT.az d k cp ai).1,(bT.lt aT.az d k cp ai).2,λh=>?_,λh=>(aT.sep d h).2.2 k cp ai,λcO jE h=>C d cO jE k cp h ai⟩⟩
 · obtain⟨cs,I⟩:=A d k cp ai
   rw[h,aT.ev] at I
   injection I with I
   injection I with _ _ I
   cases I
 · obtain⟨cs,I⟩:=B d k cp ai
   rw[h,aT.ev] at I
   injection I with I
   injection I with _ _ I
   cases I
theorem qf.child{h0:ab}{xG:Nat->Prop}{r e k:Nat}{nm:bb}{v2 aU:ad}{ns:List bb}{ids:List Nat}{ret:Nat}{s s':bZ}{y g:ab}{R L cC eF:Nat->Prop}{ck fT:ad}{M fx:List fN}(aT:qf h0 xG r e k nm v2 aU ns ids ret s y R L ck M){j:Nat}(ao:dU cC eF g r fT fx s')(ay:∀d,d<(y.room j).n->¬R d->g.get d=(y.room j).get d)(dV:∀d,cC d->R d\/(y.room j).n<=d)(aH:(y.room j).n<=g.n):qf h0 xG r e k nm v2 aU ns ids ret s' g cC eF fT fx/\∀d,y.n<=d->d<y.n+j->¬cC d:=by
 obtain⟨r1,r2⟩:=aT.rows
 have agn:(y.room j).n=y.n+j:=rfl
 have qY:=aT.up
 have gM:=aT.lo
 have bB:∀d,d<y.n->¬R d->g.get d=y.get d:=λd ai ao=>ay d (by omega) ao
 refine⟨⟨ao,(bB e qY λh=>(aT.sep e h).1 rfl).trans aT.ev,bT.bB aT.ns (by omega) λq aK k3=>bB q k3 (r1 q _ _ aK).2.2.2.1,bT.bB aT.az (by omega) λq aK k3=>bB q k3 (r2 q _ _ aK).2.2.2.1,gM,by omega,λd ai h=>?_,λd ai=>?_,λd ai=>?_,by have:=aT.aH;omega⟩,λd I ae ax=>?_⟩
 · have Lm:¬R d:=λahy=>by
     rcases aT.iZ d ahy with aw|aw
     · exact h aw
     · omega
   exact(bB d (by have:=aT.aH;omega) Lm).trans (aT.dj d ai h)
 · rcases dV d ai with h|h
   · exact aT.iZ d h
   · have:=aT.aH;exact .inr (by omega)
 · rcases dV d ai with h|h
   · exact aT.sep d h
   · exact⟨by omega,λk cp e=>by have:=(r1 d k cp e).2.1;omega,λk cp e=>by have:=(r2 d k cp e).2.1;omega⟩
 · rcases dV d ax with h|h
   · have:=aT.ref.up d h;omega
   · omega
theorem Ln:∀(N:Nat) (t:aJ),sz t<=N->dE (some t)=0->∀n,sz t+2<=n->ahx n t
 |0,t,h,_,_,_=>by have:=p0 t;omega
 |N+1,.mk k nm ns xs rt,hh,ah,n,aH=>by
  intro G R L h r v ck M s xA di kx KE tv fR aI
  obtain⟨aM,bf⟩:=lK.1 ah
  obtain⟨_,mm,_⟩:=FK bf
  have bJ:=l3 k nm ns xs rt
  have fH:=mo xs
  obtain⟨b,sg,xx,cY,vs,bq,lo,up,rfl,ahz,js,l1,qs,xy,sP⟩:=aI
  obtain⟨m,rfl⟩:∃m,n=m+1+1:=⟨n-2,by omega⟩
  obtain⟨oM,Tl⟩:=fR b ahz
  refine wz (R:=λx=>∃g cC eF fT fx,x=.ret (aC (ch (.mk k nm ns xs rt) s).1) g/\dU cC eF g r fT fx (ch (.mk k nm ns xs rt) s).2/\(∀d,d<h.n->¬R d->g.get d=h.get d)/\(∀d,cC d->R d\/h.n<=d)/\h.n<=g.n) (intr:=ea) (n:=m+1) (args:=[.ptr r 0,.ptr b 0]) Tryz.func29 (by kernel_rfl) (by kernel_rfl) (by kernel_rfl) (Q:=λb2 st=>b2=.ret/\∃g,st=⟨[(4,aC (ch (.mk k nm ns xs rt) s).1)],[],.none,g⟩/\∃cC eF fT fx,dU cC eF g r fT fx (ch (.mk k nm ns xs rt) s).2/\(∀d,d<h.n->¬R d->g.get d=h.get d)/\(∀d,cC d->R d\/h.n<=d)/\h.n<=g.n) ?_ ?_
  rotate_left
  · rintro e st ⟨rfl,g,rfl,cC,eF,fT,fx,I,ae,ax,aN⟩
    exact .inl ⟨.inl rfl,rfl,aC (ch (.mk k nm ns xs rt) s).1,by kernel_rfl,g,cC,eF,fT,fx,rfl,I,ae,ax,aN⟩
  have Lo:=xA.up
  obtain⟨I,tA⟩:∃x,x=((h.room 11).set (h.n+9) (some (aQ [aC 0,J 0,.str [],.aP,.aP,aC 0,J 0,J 0] 67))).set (h.n+9) (some (aQ [aC 0,J k,.str nm,.aP,.aP,aC 0,J 0,J 0] 67)):=⟨_,rfl⟩
  have aB:I.n=h.n+11:=by rw[tA];rfl
  have pZ:∀d,d<h.n->I.get d=h.get d:=λd ai=>by rw[tA];exact(cX (by omega) rfl).trans (cX (by omega) rfl)
  have zG:I.get (h.n+9)=some (aQ [aC 0,J k,.str nm,.aP,.aP,aC 0,J 0,J 0] 67):=by rw[tA];exact eK rfl
  have iB:ll G (I.room 9) sg (ns.map .str):=ll.bB (λd ai=>⟨ai,pZ d (fR d ai).1⟩) l1
  have xH:=iB.src
  rw[List.length_map] at xH
  obtain⟨v2,ak,cu,dy,bF,BI,bG⟩:=qK J0 (B:=h.n) (h:=I.room 9) (v:=.aP) (ds:=[]) (es:=ns) (.inl ⟨rfl,rfl⟩) (by show h.n<=I.n+9;omega) (by rw[xH,kn]) (by simp;omega)
  rw[List.nil_append] at dy
  have akk:(I.room 9).n=I.n+9:=rfl
  have zK:∀d,d<I.n->ak.get d=I.get d:=λd ai=>bG d (by omega) λn cp e=>by cases e
  have jJ:v2.de=true:=bT.cell dy
  obtain⟨ae,F7⟩:∃x,x=ak.set (h.n+9) (some (aQ [aC 0,J k,.str nm,v2,.aP,aC 0,J 0,J 0] 67)):=⟨_,rfl⟩
  have aY:ae.n=ak.n:=by rw[F7];rfl
  have zP:∀d,d≠h.n+9->ae.get d=ak.get d:=λd ai=>by rw[F7];exact cX ai rfl
  have sf:∀d,d<h.n->ae.get d=h.get d:=λd ai=>(zP d (by omega)).trans ((zK d (by omega)).trans (pZ d ai))
  have ahA:∀k cp,v2≠ .slice (h.n+9) 0 k cp:=λk cp e=>by
   rcases dy with⟨aw,_⟩|⟨q,aw,_,ax,_⟩
   · rw[aw] at e;cases e
   · rw[aw] at e;cases e
     rw[zK _ (by omega),zG] at ax
     injection ax with ax
     injection ax with _ _ ax
     cases ax
  have ahB:qf h R r (h.n+9) k nm v2 .aP ns [] 0 s ae R L ck M:=by
   refine⟨xA.ext (by omega) λd ai=>sf d (Lo d ai),by rw[F7];exact eK rfl,bT.bB dy (by omega) λq aK _=>zP q λe=>ahA _ _ (e▸aK),.inl ⟨rfl,rfl⟩,by omega,by omega,λd ai _=>sf d ai,λd ai=>.inl ai,λd ai=>⟨by have:=Lo d ai;omega,λk cp e=>?_,λk cp e=>by cases e⟩,by omega⟩
   have:=(bT.lt dy d k cp e).1
   have:=Lo d ai
   omega
  have fin:∀(y:ab) (aU:ad) (ret:Nat) (s2:bZ) (fq jv:Nat->Prop) (hJ:ad) (M2:List fN),qf h R r (h.n+9) k nm v2 aU ns (cf xs s).1 ret s2 y fq jv hJ M2->(ret,s2)=fM rt (cf xs s).2->bp an Tryz.f29 (Y (m+1)) [1,1,1,1,1] ⟨[(0,.ptr r 0),(1,.ptr b 0),(5,.ptr (h.n+9) 0)],[],.none,y⟩ (λb2 st=>b2=.ret/\∃g,st=⟨[(4,aC (ch (.mk k nm ns xs rt) s).1)],[],.none,g⟩/\∃cC eF fT fx,dU cC eF g r fT fx (ch (.mk k nm ns xs rt) s).2/\(∀d,d<h.n->¬R d->g.get d=h.get d)/\(∀d,cC d->R d\/h.n<=d)/\h.n<=g.n):=by
   intro y aU ret s2 fq jv hJ M2 aT dN
   have KM:(fM rt (cf xs s).2).1=ret:=by rw[<-dN]
   have CG:(fM rt (cf xs s).2).2=s2:=by rw[<-dN]
   obtain⟨mg,_,_⟩:=sb xs di
   obtain⟨lS,_,_⟩:=B4 rt mg
   obtain⟨dS,gb,_⟩:=xr xs s
   have vh:=Kx rt (cf xs s).2
   have CY:=Tk rt (cf xs s).2 (λu hu=>by subst hu;exact xt ah) (CX xs s (λu hu=>pk ah hu) kx)
   rw[CG] at lS vh CY
   obtain⟨df,db,_⟩:=vh
   obtain⟨r1,r2⟩:=aT.rows
   have hD:=lS.len
   have AU:M2.length=s2.l.length:=by rw[<-aT.ref.e,List.length_map]
   have kF:=aT.aH
   have heq:ch (.mk k nm ns xs rt) s=hG k nm ns (cf xs s).1 ret s2:=by rw[ch,KM,CG]
   have:=ahp m (E:=λd=>(∃k cp,v2=.slice d 0 k cp)\/∃k cp,aU=.slice d 0 k cp) aT.ref lS aT.ev aT.up (λau=>(aT.sep _ au).1 rfl) jJ (bT.cell aT.az) ((bT.u5 aT.ns).mono λd ai=>.inl ai) ((bT.u5 aT.az).mono λd ai=>.inr ai) (λd ai=>by
    rcases ai with⟨k,cp,ai⟩|⟨k,cp,ai⟩
    · obtain⟨_,a2,bX,eG,_⟩:=r1 d k cp ai;exact⟨a2,eG,bX⟩
    · obtain⟨_,a2,bX,eG,_⟩:=r2 d k cp ai;exact⟨a2,eG,bX⟩) (by omega) (λx aa=>by
    have:=CY x.e (by rw[<-aT.ref.e];exact List.mem_map.2 ⟨x,aa,rfl⟩)
    exact⟨by omega,by omega⟩) (by omega) (by omega) (Q:=λb2 st=>b2=.ret/\∃g,st=⟨[(4,aC (ch (.mk k nm ns xs rt) s).1)],[],.none,g⟩/\∃cC eF fT fx,dU cC eF g r fT fx (ch (.mk k nm ns xs rt) s).2/\(∀d,d<h.n->¬R d->g.get d=h.get d)/\(∀d,cC d->R d\/h.n<=d)/\h.n<=g.n) λg cC eF fT fx a8 a2 bX eG=>by
     rw[heq]
     refine⟨rfl,g,rfl,cC,eF,fT,fx,a8,λd ai ao=>?_,λd ai=>?_,by omega⟩
     · have Lm:¬fq d:=λau=>by
         rcases aT.iZ d au with aw|aw
         · exact ao aw
         · omega
       exact(a2 d (by omega) Lm (by omega)).trans (aT.dj d ai ao)
     · rcases bX d ai with aw|(⟨k,cp,aw⟩|⟨k,cp,aw⟩)|aw
       · exact aT.iZ d aw
       · exact .inr (r1 d k cp aw).1
       · exact .inr (r2 d k cp aw).1
       · exact .inr (by omega)
   exact ei this ⟨rfl,rfl,trivial⟩
  have rest:∀(y:ab) (aU:ad) (fq jv:Nat->Prop) (hJ:ad) (M2:List fN),qf h R r (h.n+9) k nm v2 aU ns (cf xs s).1 0 (cf xs s).2 y fq jv hJ M2->bp an Tryz.f29 (Y (m+1)) [1,1,1,1] ⟨[(0,.ptr r 0),(1,.ptr b 0),(5,.ptr (h.n+9) 0)],[],.none,y⟩ (λb2 st=>b2=.ret/\∃g,st=⟨[(4,aC (ch (.mk k nm ns xs rt) s).1)],[],.none,g⟩/\∃cC eF fT fx,dU cC eF g r fT fx (ch (.mk k nm ns xs rt) s).2/\(∀d,d<h.n->¬R d->g.get d=h.get d)/\(∀d,cC d->R d\/h.n<=d)/\h.n<=g.n):=by
   intro y aU fq jv hJ M2 aT
   have aZ:y.get b=h.get b:=aT.dj b oM Tl
   refine ke [1,1,1,1] ?_
   cases rt with
   |none=>
    have e:cY=.aX:=sP
    subst e
    exact ahi _ r b (h.n+9) y ⟨aF (aZ.trans js) rfl,fin y aU 0 _ fq jv hJ M2 aT (by rw[fM])⟩
   |some u=>
    have hu:=xt ah
    rw[jk] at bJ
    obtain⟨fY,KN⟩:=ew.ptr sP
    subst KN
    obtain⟨mg,_,_⟩:=sb xs di
    obtain⟨dS,gb,_⟩:=xr xs s
    have Lp:=CX xs s (λu hu=>pk ah hu) kx
    have Lq:∀d,G d->d<y.n/\¬fq d:=λd ai=>⟨by have:=(fR d ai).1;have:=aT.aH;omega,λau=>by
     rcases aT.iZ d au with aw|aw
     · exact(fR d ai).2 aw
     · have:=(fR d ai).1;omega⟩
    obtain⟨a4,zQ,zR,zS,si,fQ,a8,a2,bX,eG⟩:=Ln N u (by omega) hu (m+1) (by omega) G fq jv (y.room 0) r (.ptr fY 0) hJ M2 (cf xs s).2 (aT.ref.ext (Nat.le_refl _) λd _=>rfl) mg Lp (by omega) (by omega) Lq (ew.bB (λd ai=>⟨ai,aT.dj d (fR d ai).1 (fR d ai).2⟩) _ _ sP)
    obtain⟨j3,_⟩:=aT.child (j:=0) a8 a2 bX eG
    have ahC:qf h R r (h.n+9) k nm v2 aU ns (cf xs s).1 (ch u (cf xs s).2).1 (ch u (cf xs s).2).2 (a4.set (h.n+9) (some (aQ [aC 0,J k,.str nm,v2,aU,aC (ch u (cf xs s).2).1,J 0,J 0] 67))) zQ zR zS si:=by
     obtain⟨r1,r2⟩:=j3.rows
     have low:∀d,d≠h.n+9->(a4.set (h.n+9) (some (aQ [aC 0,J k,.str nm,v2,aU,aC (ch u (cf xs s).2).1,J 0,J 0] 67))).get d=a4.get d:=λd ai=>cX ai rfl
     exact⟨j3.ref.ext (Nat.le_refl _) λd ai=>low d (j3.sep d ai).1,eK rfl,bT.bB j3.ns (Nat.le_refl _) λq aK _=>low q (r1 q _ _ aK).2.2.1,bT.bB j3.az (Nat.le_refl _) λq aK _=>low q (r2 q _ _ aK).2.2.1,j3.lo,j3.up,λd ai ao=>(low d (by omega)).trans (j3.dj d ai ao),j3.iZ,j3.sep,j3.aH⟩
    exact ahj _ r b (h.n+9) y ⟨fY,aF (aZ.trans js) rfl,fY,aF (aZ.trans js) rfl,(ch u (cf xs s).2).1,a4,fQ,_,eV j3.ev rfl (pe _ rfl _ _ (by simp)),fin _ aU _ _ zQ zR zS si ahC (by rw[fM])⟩
  refine ke [] (ahd _ r b h (ke [1] (ahe _ r b h ⟨k,aF (h:=h.room 11) js rfl,nm,aF (h:=h.room 11) js rfl,I,by rw[tA];exact eV (eK rfl) rfl rfl,aF ((cX (by omega) rfl).trans js) rfl,aF ((cX (by omega) rfl).trans js) rfl,ke [1,1] (ahf _ r b (h.n+9) I ⟨aF (h:=I.room 9) zG rfl,sg,aF (h:=I.room 9) ((pZ b oM).trans js) rfl,v2,ak,cu,jJ,ae,by rw[F7];exact eV ((zK _ (by omega)).trans zG) rfl (pe _ jJ _ _ (by simp)),?_,ke [1,1,1] (ahg _ r b (h.n+9) ae ?_)⟩)⟩)))
  · rcases l1 with⟨rfl,_⟩|⟨q,off,cp,rfl,_⟩<;>rfl
  have Aq:vs.length=xs.length:=cN.len xy
  have KJ:∀g,bV an g 50 xx=some (J vs.length):=λg=>by
   rcases qs with⟨rfl,rfl⟩|⟨b,off,cp,rfl,_⟩<;>rfl
  refine e8 (λc st=>∃i y aU fq jv hJ M2 Γ,st=aks Γ y/\bY [(0,.ptr r 0),(1,.ptr b 0),(5,.ptr (h.n+9) 0),(6,J i)] Γ/\xs.length-i=c/\i<=xs.length/\qf h R r (h.n+9) k nm v2 aU ns (cf (xs.take i) s).1 0 (cf (xs.take i) s).2 y fq jv hJ M2) ?_ xs.length _ (by omega) ⟨0,ae,.aP,R,L,ck,M,_,rfl,⟨rfl,rfl,rfl,rfl,trivial⟩,by omega,by omega,by rw[List.take_zero,cf];exact ahB⟩
  rintro c st ⟨i,y,aU,fq,jv,hJ,M2,Γ,rfl,cn,uC,hi,aT⟩
  have aZ:y.get b=h.get b:=aT.dj b oM Tl
  have kF:=aT.aH
  refine ei (ahh _ r b (h.n+9) i y ⟨xx,aF (aZ.trans js) rfl,vs.length,KJ y,λi1=>?_,λi1=>?_⟩) cn
  · have i2:i<xs.length:=by omega
    rcases qs with⟨_,e⟩|⟨q,off,cp,rfl,Tm,gf,rE,_⟩
    · rw[e] at i1;cases i1
    have sH:=cN.get xy i i1 i2
    obtain⟨lC,oR⟩:=ew.ptr sH
    have ci:=pk ah (show xs[i]∈(aJ.mk k nm ns xs rt).xs from List.getElem_mem i2)
    have KP:=FR xs i2
    obtain⟨mg,_,_⟩:=sb (xs.take i) di
    obtain⟨dS,gb,_⟩:=xr (xs.take i) s
    have Lp:=CX (xs.take i) s (λu hu=>pk ah (List.mem_of_mem_take hu)) kx
    have KA:(y.room 15).n=y.n+15:=rfl
    have Lq:∀d,G d->d<(y.room 15).n/\¬fq d:=λd ai=>⟨by have:=(fR d ai).1;omega,λau=>by
     rcases aT.iZ d au with aw|aw
     · exact(fR d ai).2 aw
     · have:=(fR d ai).1;omega⟩
    rw[oR] at sH
    obtain⟨a4,zQ,zR,zS,si,fQ,a8,a2,bX,eG⟩:=Ln N xs[i] (by omega) ci (m+1) (by omega) G fq jv (y.room 15) r (.ptr lC 0) hJ M2 (cf (xs.take i) s).2 (aT.ref.ext (by omega) λd _=>rfl) mg Lp (by omega) (by omega) Lq (ew.bB (g:=y.room 15) (λd ai=>⟨ai,aT.dj d (fR d ai).1 (fR d ai).2⟩) _ _ sH)
    obtain⟨j3,f4⟩:=aT.child (j:=15) a8 a2 bX eG
    have p6:aq (y.room 15) q (off+i*1)=some (.ptr lC 0):=by
     have aE:=gf i i1
     rw[oR] at aE
     rw[<-aE]
     exact q1 (aT.dj q (fR q Tm).1 (fR q Tm).2)
    obtain⟨H,tE⟩:∃x,x=a4.set (y.n+11) (some (aQ [aC (ch xs[i] (cf (xs.take i) s).2).1] 32)):=⟨_,rfl⟩
    have lj:H.n=a4.n:=by rw[tE];rfl
    have k1:∀d,d≠y.n+11->H.get d=a4.get d:=λd ai=>by rw[tE];exact cX ai rfl
    obtain⟨r1,r2⟩:=aT.rows
    obtain⟨s1,s2⟩:=j3.rows
    have iw:qf h R r (h.n+9) k nm v2 aU ns (cf (xs.take i) s).1 0 (ch xs[i] (cf (xs.take i) s).2).2 H zQ zR zS si:=by
     exact⟨j3.ref.ext (by omega) λd ai=>k1 d λe=>f4 d (by omega) (by omega) ai,(k1 _ (by have:=aT.up;omega)).trans j3.ev,bT.bB j3.ns (by omega) λq aK _=>k1 q (by have:=(r1 q _ _ aK).2.1;omega),bT.bB j3.az (by omega) λq aK _=>k1 q (by have:=(r2 q _ _ aK).2.1;omega),j3.lo,by have:=j3.up;omega,λd ai ao=>(k1 d (by omega)).trans (j3.dj d ai ao),j3.iZ,j3.sep,by have:=j3.aH;omega⟩
    have fG:fu H 1 (.slice (y.n+11) 0 1 (.exact 1))=some (1,[jF (ch xs[i] (cf (xs.take i) s).2).1]):=by
     have:bg.loadCells H (y.n+11) 0 (1*1)=some [jF (ch xs[i] (cf (xs.take i) s).2).1]:=lU (by rw[tE];exact eK rfl) rfl
     simp only[fu,this]
    have lh:(cf (xs.take i) s).1.length<=100:=by rw[zD,List.length_take];omega
    obtain⟨bk,cu,cU,dm,_,ey⟩:=zm Cr iw.az iw.aH (d:=(ch xs[i] (cf (xs.take i) s).2).1) (src:=.slice (y.n+11) 0 1 (.exact 1)) fG (by omega)
    obtain⟨t1,t2⟩:=iw.rows
    have Lr:bk.get (h.n+9)=H.get (h.n+9):=ey _ iw.up λn cp e=>(t2 _ n cp e).2.2.1 rfl
    have FW:cf (xs.take (i+1)) s=((cf (xs.take i) s).1++[(ch xs[i] (cf (xs.take i) s).2).1],(ch xs[i] (cf (xs.take i) s).2).2):=by
     rw[List.take_succ_eq_append_getElem i2,Ky]
    obtain⟨cQ,CZ⟩:∃x,x=bk.set (h.n+9) (some (aQ [aC 0,J k,.str nm,v2,.slice H.n 0 ((cf (xs.take i) s).1++[(ch xs[i] (cf (xs.take i) s).2).1]).length (.aL 1),aC 0,J 0,J 0] 67)):=⟨_,rfl⟩
    have bP:cQ.n=H.n+1:=by rw[CZ];exact dm
    have zp:∀d,d≠h.n+9->d<H.n->(∀n cp,aU≠ .slice d 0 n cp)->cQ.get d=H.get d:=λd I ae ax=>by rw[CZ];exact(cX I rfl).trans (ey d ae ax)
    have gM:=iw.lo
    have qY:=iw.up
    have C0:qf h R r (h.n+9) k nm v2 (.slice H.n 0 ((cf (xs.take i) s).1++[(ch xs[i] (cf (xs.take i) s).2).1]).length (.aL 1)) ns ((cf (xs.take i) s).1++[(ch xs[i] (cf (xs.take i) s).2).1]) 0 (ch xs[i] (cf (xs.take i) s).2).2 cQ zQ zR zS si:=by
     refine⟨iw.ref.ext (by omega) λd ai=>zp d (iw.sep d ai).1 (iw.ref.up d ai) (iw.sep d ai).2.2,by rw[CZ];exact eK rfl,bT.bB iw.ns (by omega) λq aK k3=>zp q (t1 q _ _ aK).2.2.1 k3 (t1 q _ _ aK).2.2.2.2,.inr ⟨H.n,rfl,by simp,?_,iw.aH,by omega⟩,gM,by omega,λd ai ao=>(zp d (by omega) (by have:=iw.aH;omega) λn cp e=>by have:=(t2 d n cp e).1;omega).trans (iw.dj d ai ao),iw.iZ,λd ai=>⟨(iw.sep d ai).1,(iw.sep d ai).2.1,λn cp e=>by cases e;have:=iw.ref.up _ ai;omega⟩,by have:=iw.aH;omega⟩
     rw[CZ];exact(cX (by omega) rfl).trans cU
    have ahD:aq H (h.n+9) (0+4)=some aU:=aF iw.ev rfl
    have dz:bg.storeCells bk (h.n+9) (0+4) [.slice H.n 0 ((cf (xs.take i) s).1++[(ch xs[i] (cf (xs.take i) s).2).1]).length (.aL 1)]=some cQ:=by
     rw[CZ];exact eV (Lr.trans iw.ev) rfl (pe _ rfl _ _ (by simp))
    subst tE
    exact⟨aU,aF (h:=y.room 15) aT.ev rfl,q,off,vs.length,cp,aF (h:=y.room 15) (aZ.trans js) rfl,i1,lC,p6,_,a4,fQ,_,bk,cu,rfl,cQ,dz,bT.sound iw.az,ahD,by omega,_,(by show _<c;omega),i+1,cQ,_,zQ,zR,zS,si,_,rfl,⟨rfl,rfl,rfl,rfl,trivial⟩,rfl,by omega,by rw[FW];exact C0⟩
  · obtain rfl:i=xs.length:=by omega
    rw[List.take_length] at aT
    exact⟨y,_,rfl,rfl,⟨rfl,rfl,rfl,trivial⟩,rest y aU fq jv hJ M2 aT⟩
theorem ahE(m r:Nat)(h:ab)(H:bp an Tryz.f24 (Y m) [0] (aj [(0,af r)] h) (λb2 cc=>((∃ak bt,b2=.exit 0/\cc=aj bt ak/\bY [] bt/\R (.ret (.aR []) ak))\/(∃av bw,b2=.ret/\cc=aj bw av/\bY [] bw/\R (.ret (.aR []) av))))):
  R (Y (m+1) (.fn 24) [af r] h):=
 dB [(4000,.fj [0] [(.exit 0,[]),(.ret,[])])] [] Tryz.func24 H
theorem ahF(r:Nat)(h:ab)(H:∃v1,aq (h.room 10) r 3=some v1/\∃aB,bV an (h.room 10) 38 v1=some (J aB)/\∃aY,aq (h.room 10) r 0=some (J aY)/\cr v1/\(aY<aB->bp an Tryz.f24 call [0,0,1,0,1,0,1,0] (aj [(0,af r),(2,.int .i64 (.negSucc 0)),(3,J 0)] (h.room 10)) (λb2 cc=>((∃ak bt,b2=.exit 2/\cc=aj bt ak/\bY [(0,af r),(2,.int .i64 (.negSucc 0))] bt/\(gY (.negSucc 0) (.ofNat 0)=true->Q .ret (aj [(0,af r)] ak))/\(gY (.negSucc 0) (.ofNat 0)=false->∃v2,aq ak r 3=some v2/\∃b8,dC an ak 38 v2 none (some (.int .i64 (.negSucc 0))) none=some b8/\∃v4 av,dJ an ak 38 (some 38) .aP b8=some (v4,av)/\∃eC,aq av r 3=some eC/\∃bd,arith .add .i64 (.negSucc 0) (.ofNat 1)=some (J bd)/\∃v6,dC an av 38 eC (some (J bd)) none none=some v6/\∃v7 aD,dJ an av 38 (some 38) v4 v6=some (v7,aD)/\g4 v7/\∃a4,bg.storeCells aD r 3 [v7]=some a4/\Q .nrm (aj [(0,af r)] a4)))\/(∃bj bk bw,b2=.exit 2/\cc=aj bw bk/\bY [(0,af r),(2,J bj)] bw/\(bj<0->Q .ret (aj [(0,af r)] bk))/\(¬bj<0->∃hZ,aq bk r 3=some hZ/\∃qV,dC an bk 38 hZ none (some (J bj)) none=some qV/\∃v10 cQ,dJ an bk 38 (some 38) .aP qV=some (v10,cQ)/\∃v11,aq cQ r 3=some v11/\bj+1<9223372036854775808/\∃B_,dC an cQ 38 v11 (some (J (bj+1))) none none=some B_/\∃zn dO,dJ an cQ 38 (some 38) v10 B_=some (zn,dO)/\g4 zn/\∃dW,bg.storeCells dO r 3 [zn]=some dW/\Q .nrm (aj [(0,af r)] dW))))))/\(¬aY<aB->Q (.exit 0) (aj [(0,af r)] (h.room 10)))):
  bp an Tryz.f24 call [0,0] (aj [(0,af r)] h) Q:=
 c3 [(8,.a1 .o),(4002,.fj [0,2,3] [(.exit 2,[(0,.is (af r)),(2,.is (.int .i64 (.negSucc 0)))]),(.exit 2,[(0,.is (af r)),(2,.n .i64)])]),(76,.a1 .o),(78,.a1 .o),(79,.a1 .o),(85,.a1 .o),(88,.a1 .o),(89,.a1 .o)] [0] [] H
theorem Tn(r n i:Nat)(h:ab)(H:∃v1,aq h r 3=some v1/\∃aB,bV an h 38 v1=some (J aB)/\(i<aB->∃aY bd,aq (h.room 45) r 3=some (.slice aY 0 bd (.aL 8))/\i<bd/\∃bj,aq (h.room 45) aY (0+i*8+6)=some (J bj)/\(bj=0->gY (.negSucc 0) (.ofNat 0)=true/\∃bC bP,aq (h.room 45) r 3=some (.slice bC 0 bP (.aL 8))/\i<bP/\∃cd,aq (h.room 45) bC (0+i*8+0)=some (aC cd)/\∃ak,call (.fn 42) [af r,aC cd] (h.room 45)=.ret (.bool false) ak/\i+1<9223372036854775808/\Q .nrm (aj [(0,af r),(2,J i),(3,J (i+1))] ak))/\(¬bj=0->i+1<9223372036854775808/\Q .nrm (aj [(0,af r),(2,.int .i64 (.negSucc 0)),(3,J (i+1))] (h.room 45))))/\(¬i<aB->Q (.exit 2) (aj [(0,af r),(2,.int .i64 (.negSucc 0)),(3,J i)] h))):
  bp an Tryz.f24 call [0,0,1,0,1,0,1,0,0] (aj [(0,af r),(2,.int .i64 (.negSucc 0)),(3,J i)] h) Q:=
 c3 [(19,.a1 .o),(27,.a1 (.gH (.aL 8))),(40,.a1 (.gH (.aL 8))),(48,.a1 (.gH (.aL 8))),(61,.a1 (.gH (.aL 8))),(1037,.t),(66,.a1 (.is (.bool false)))] [0,2,3] [] H
theorem ahG(r n i:Nat)(h:ab)(H:∃v1,aq h r 3=some v1/\∃aB,bV an h 38 v1=some (J aB)/\(i<aB->∃aY bd,aq (h.room 45) r 3=some (.slice aY 0 bd (.aL 8))/\i<bd/\∃bj,aq (h.room 45) aY (0+i*8+6)=some (J bj)/\(bj=0->gY (.negSucc 0) (.ofNat 0)=true/\∃bC bP,aq (h.room 45) r 3=some (.slice bC 0 bP (.aL 8))/\i<bP/\∃cd,aq (h.room 45) bC (0+i*8+0)=some (aC cd)/\∃ak,call (.fn 42) [af r,aC cd] (h.room 45)=.ret (.bool true) ak/\i+1<9223372036854775808/\Q .nrm (aj [(0,af r),(2,.int .i64 (.negSucc 0)),(3,J (i+1))] ak))/\(¬bj=0->i+1<9223372036854775808/\Q .nrm (aj [(0,af r),(2,.int .i64 (.negSucc 0)),(3,J (i+1))] (h.room 45))))/\(¬i<aB->Q (.exit 2) (aj [(0,af r),(2,.int .i64 (.negSucc 0)),(3,J i)] h))):
  bp an Tryz.f24 call [0,0,1,0,1,0,1,0,0] (aj [(0,af r),(2,.int .i64 (.negSucc 0)),(3,J i)] h) Q:=
 c3 [(19,.a1 .o),(27,.a1 (.gH (.aL 8))),(40,.a1 (.gH (.aL 8))),(48,.a1 (.gH (.aL 8))),(61,.a1 (.gH (.aL 8))),(1037,.t),(66,.a1 (.is (.bool true)))] [0,2,3] [] H
theorem To(r n i:Nat)(h:ab)(H:∃v1,aq h r 3=some v1/\∃aB,bV an h 38 v1=some (J aB)/\(i<aB->∃aY bd,aq (h.room 45) r 3=some (.slice aY 0 bd (.aL 8))/\i<bd/\∃bj,aq (h.room 45) aY (0+i*8+6)=some (J bj)/\(bj=0->¬n<0/\∃bC bP,aq (h.room 45) r 3=some (.slice bC 0 bP (.aL 8))/\i<bP/\∃cd,aq (h.room 45) bC (0+i*8+7)=some (J cd)/\∃cR dD,aq (h.room 45) r 3=some (.slice cR 0 dD (.aL 8))/\n<dD/\∃dX,aq (h.room 45) cR (0+n*8+7)=some (J dX)/\(cd<dX->∃eE e9,aq (h.room 45) r 3=some (.slice eE 0 e9 (.aL 8))/\i<e9/\∃fw,aq (h.room 45) eE (0+i*8+0)=some (aC fw)/\∃ak,call (.fn 42) [af r,aC fw] (h.room 45)=.ret (.bool false) ak/\i+1<9223372036854775808/\Q .nrm (aj [(0,af r),(2,J i),(3,J (i+1))] ak))/\(¬cd<dX->i+1<9223372036854775808/\Q .nrm (aj [(0,af r),(2,J n),(3,J (i+1))] (h.room 45))))/\(¬bj=0->i+1<9223372036854775808/\Q .nrm (aj [(0,af r),(2,J n),(3,J (i+1))] (h.room 45))))/\(¬i<aB->Q (.exit 2) (aj [(0,af r),(2,J n),(3,J i)] h))):
  bp an Tryz.f24 call [0,0,1,0,1,0,1,0,0] (aj [(0,af r),(2,J n),(3,J i)] h) Q:=
 c3 [(19,.a1 .o),(27,.a1 (.gH (.aL 8))),(40,.a1 (.gH (.aL 8))),(48,.a1 (.gH (.aL 8))),(61,.a1 (.gH (.aL 8))),(1037,.f),(66,.a1 (.is (.bool false)))] [0,2,3] [] H
theorem ahH(r n i:Nat)(h:ab)(H:∃v1,aq h r 3=some v1/\∃aB,bV an h 38 v1=some (J aB)/\(i<aB->∃aY bd,aq (h.room 45) r 3=some (.slice aY 0 bd (.aL 8))/\i<bd/\∃bj,aq (h.room 45) aY (0+i*8+6)=some (J bj)/\(bj=0->¬n<0/\∃bC bP,aq (h.room 45) r 3=some (.slice bC 0 bP (.aL 8))/\i<bP/\∃cd,aq (h.room 45) bC (0+i*8+7)=some (J cd)/\∃cR dD,aq (h.room 45) r 3=some (.slice cR 0 dD (.aL 8))/\n<dD/\∃dX,aq (h.room 45) cR (0+n*8+7)=some (J dX)/\(cd<dX->∃eE e9,aq (h.room 45) r 3=some (.slice eE 0 e9 (.aL 8))/\i<e9/\∃fw,aq (h.room 45) eE (0+i*8+0)=some (aC fw)/\∃ak,call (.fn 42) [af r,aC fw] (h.room 45)=.ret (.bool true) ak/\i+1<9223372036854775808/\Q .nrm (aj [(0,af r),(2,J n),(3,J (i+1))] ak))/\(¬cd<dX->i+1<9223372036854775808/\Q .nrm (aj [(0,af r),(2,J n),(3,J (i+1))] (h.room 45))))/\(¬bj=0->i+1<9223372036854775808/\Q .nrm (aj [(0,af r),(2,J n),(3,J (i+1))] (h.room 45))))/\(¬i<aB->Q (.exit 2) (aj [(0,af r),(2,J n),(3,J i)] h))):
  bp an Tryz.f24 call [0,0,1,0,1,0,1,0,0] (aj [(0,af r),(2,J n),(3,J i)] h) Q:=
 c3 [(19,.a1 .o),(27,.a1 (.gH (.aL 8))),(40,.a1 (.gH (.aL 8))),(48,.a1 (.gH (.aL 8))),(61,.a1 (.gH (.aL 8))),(1037,.f),(66,.a1 (.is (.bool true)))] [0,2,3] [] H
theorem ahI{D:Type}{P:Program}{enc:D->List ad}{w:Nat}{el sT:TypeId}(T:lW P enc w el sT){h:ab}{q n:Nat}{ds:List D}(ar:h.get q=some (.cells (dp enc ds) el .aL 0 0))(aH:n<ds.length)(aK:q<h.n)(aA:ds.length<=100000):
  ∃v1,dC P h sT (.slice q 0 ds.length (.aL w)) none (some (J n)) none=some v1/\∃v2 av,dJ P h sT (some sT) .aP v1=some (v2,av)/\Ext h.n h av/\∃b8,dC P av sT (.slice q 0 ds.length (.aL w)) (some (J (n+1))) none none=some b8/\∃v4 aD,dJ P av sT (some sT) v2 b8=some (v4,aD)/\bT enc w el h.n aD v4 (ds.take n++ds.drop (n+1))/\Ext h.n h aD:=by
 have c2:Nat.ble n ds.length=true:=Nat.ble_eq_true_of_le (by omega)
 have bo:Nat.ble 0 n=true:=Nat.ble_eq_true_of_le (Nat.zero_le _)
 have c9:Nat.ble ds.length ds.length=true:=Nat.ble_eq_true_of_le (Nat.le_refl _)
 have fS:Nat.ble (n+1) ds.length=true:=Nat.ble_eq_true_of_le aH
 have hu:=T.hu
 have bJ:=T.size
 have Ls:(ds.take n).length=n:=by rw[List.length_take];omega
 have j_:(ds.drop (n+1)).length=ds.length-(n+1):=List.length_drop
 have s1:dC P h sT (.slice q 0 ds.length (.aL w)) none (some (J n)) none=some (.slice q 0 n (.aL w)):=by
  simp[dC,hu,bJ,bounds,hU,fe,c2,bo,c9]
 have xH:fu h w (.slice q 0 n (.aL w))=some ((ds.take n).length,dp enc (ds.take n)):=by
  have:bg.loadCells h q 0 (n*w)=some (dp enc (ds.take n)):=by
   have:=Ep (h:=h) (xs:=dp enc (ds.take n)) (rest:=dp enc (ds.drop n)) (by rw[<-Ey,List.take_append_drop];exact ar)
   rwa [s4 T.len,Ls] at this
  simp only[fu,this,Ls]
 obtain⟨v2,av,cu,cU,dm,e0,_⟩:=qK T (B:=h.n) (h:=h) (v:=.aP) (ds:=[]) (es:=ds.take n) (.inl ⟨rfl,rfl⟩) (Nat.le_refl _) xH (by simp;omega)
 rw[List.nil_append] at cU
 have rZ:av.get q=some (.cells (dp enc ds) el .aL 0 0):=(dm.get q aK).trans ar
 by_cases rD:n+1<ds.length
 · have l0:Nat.blt (n+1) ds.length=true:=Nat.ble_eq_true_of_le rD
   have Lt:fu av w (.slice q (0+(n+1)*w) (ds.length-(n+1)) (.aL w))=some ((ds.drop (n+1)).length,dp enc (ds.drop (n+1))):=by
    have:bg.loadCells av q (0+(n+1)*w) ((ds.length-(n+1))*w)=some (dp enc (ds.drop (n+1))):=by
     refine lU rZ ?_
     have aG:j4 (0+(n+1)*w) (dp enc ds)=dp enc (ds.drop (n+1)):=by
      have ahJ:(ds.take (n+1)).length=n+1:=by rw[List.length_take];omega
      conv=>lhs;arg 2;rw[<-List.take_append_drop (n+1) ds,Ey]
      have:=H6 (dp enc (ds.take (n+1))) (dp enc (ds.drop (n+1)))
      rw[s4 T.len,ahJ] at this
      rw[Nat.zero_add];exact this
     rw[aG]
     have:=Bb (dp enc (ds.drop (n+1))) []
     rw[List.append_nil,s4 T.len,j_] at this
     exact this
    simp only[fu,this,j_]
   obtain⟨v4,aD,d1,d2,d3,d4,_⟩:=qK T (B:=h.n) (h:=av) (es:=ds.drop (n+1)) cU e0 Lt (by omega)
   exact⟨_,s1,v2,av,cu,dm,.slice q (0+(n+1)*w) (ds.length-(n+1)) (.aL w),by simp[dC,hu,bJ,bounds,hU,fe,c9,fS,l0],v4,aD,d1,d2,dm.trans (Nat.le_refl _) d3⟩
 · have l0:Nat.blt (n+1) ds.length=false:=by
     cases aa:Nat.blt (n+1) ds.length with
     |false=>rfl
     |true=>have:=Nat.le_of_ble_eq_true aa;omega
   have hdr:ds.drop (n+1)=[]:=List.drop_eq_nil_of_le (by omega)
   have Lt:fu av w (.slice q 0 0 .dead)=some (([]:List D).length,dp enc []):=rfl
   obtain⟨v4,aD,d1,d2,d3,d4,_⟩:=qK T (B:=h.n) (h:=av) (es:=[]) cU e0 Lt (by simp;omega)
   rw[hdr]
   exact⟨_,s1,v2,av,cu,dm,.slice q 0 0 .dead,by simp[dC,hu,bJ,bounds,hU,fe,c9,fS,l0],v4,aD,d1,d2,dm.trans (Nat.le_refl _) d3⟩
theorem ahK{l:List b3}(up:l.Pairwise λa b=>a.id<b.id){n:Nat}(aH:n<l.length):hH l[n].id l=l.take n++l.drop (n+1):=by
 have e:l=l.take n++(l[n]::l.drop (n+1)):=by rw[<-List.drop_eq_getElem_cons aH,List.take_append_drop]
 have a0:=List.pairwise_iff_getElem.1 up
 have ne:∀a (aV:a<l.length),a≠n->(!Nat.beq l[a].id l[n].id)=true:=λa aV h=>by
  have:l[a].id≠l[n].id:=by
   rcases Nat.lt_or_gt_of_ne h with h|h
   · have:=a0 a n aV aH h;omega
   · have:=a0 n a aH aV h;omega
  cases ag:Nat.beq l[a].id l[n].id with
  |false=>rfl
  |true=>exact absurd (Nat.eq_of_beq_eq_true ag) this
 obtain⟨z,a7⟩:∃z,z=l[n].id:=⟨_,rfl⟩
 rw[<-a7] at ne⊢
 have ahL:¬(!Nat.beq l[n].id z)=true:=by rw[a7];simp[Nat.beq_refl]
 unfold hH
 conv=>lhs;rw[e]
 rw[List.filter_append,List.filter_cons_of_neg (p:=λ(e:b3)=>!Nat.beq e.id z) (a:=l[n]) ahL]
 congr 1
 · refine List.filter_eq_self.2 λx aa=>?_
   obtain⟨a,aV,rfl⟩:=List.mem_iff_getElem.1 aa
   rw[List.length_take] at aV
   rw[List.getElem_take]
   exact ne a (by omega) (by omega)
 · refine List.filter_eq_self.2 λx aa=>?_
   obtain⟨a,aV,rfl⟩:=List.mem_iff_getElem.1 aa
   rw[List.length_drop] at aV
   rw[List.getElem_drop]
   exact ne (n+1+a) (by omega) (by omega)
def q_(l:List b3)(i:Nat)(z:Int):Prop:=(z=Int.negSucc 0/\∀j (aO:j<l.length),j<i->lJ l l[j]=false)\/∃n,∃aH:n<l.length,z=Int.ofNat n/\lJ l l[n]=true/\∀j (aO:j<l.length),j<i->lJ l l[j]=true->l[n].used<=l[j].used
theorem q_.skip{l:List b3}{i:Nat}{z:Int}(aT:q_ l i z)(hi:i<l.length)(h:lJ l l[i]=false):q_ l (i+1) z:=by
 rcases aT with⟨I,ae⟩|⟨n,aH,I,ae,ax⟩
 · refine .inl ⟨I,λj aO mJ=>?_⟩
   by_cases e:j<i
   · exact ae j aO e
   · obtain rfl:j=i:=by omega
     exact h
 · refine .inr ⟨n,aH,I,ae,λj aO mJ aA=>?_⟩
   by_cases e:j<i
   · exact ax j aO e aA
   · obtain rfl:j=i:=by omega
     rw[h] at aA;cases aA
theorem ahM{s:bZ}(di:eg s){n:Nat}(aH:n<s.l.length)(I:lJ s.l s.l[n]=true)(ae:∀j (aO:j<s.l.length),lJ s.l s.l[j]=true->s.l[n].used<=s.l[j].used):jD s.l s.l=some s.l[n]:=by
 cases ag:jD s.l s.l with
 |none=>
  have:=zg.1 ag _ (List.getElem_mem aH)
  rw[I] at this;cases this
 |some b=>
  obtain⟨bn,bo,c9⟩:=vd ag
  obtain⟨a,aV,fC⟩:=List.mem_iff_getElem.1 bn
  have gO:=c9 _ (List.getElem_mem aH) I
  have j9:=ae a aV (by rw[fC];exact bo)
  rw[fC] at j9
  have jf:=di.one b bn _ (List.getElem_mem aH) (by omega)
  have a0:=List.pairwise_iff_getElem.1 di.up
  congr 1
  rw[<-fC]
  have:a=n:=by
   rcases Nat.lt_trichotomy a n with h|h|h
   · have:=a0 a n aV aH h;rw[fC] at this;omega
   · exact h
   · have:=a0 n a aH aV h;rw[fC] at this;omega
  subst this;rfl
theorem Tp(m:Nat){R L:Nat->Prop}{h:ab}{r:Nat}{ck:ad}{M:List fN}{s:bZ}(xA:dU R L h r ck M s)(di:eg s)(kx:ju s.l)(tv:s.given<=10000):
  ∃g cC eF fT fx,Y (m+2) (.fn 24) [.ptr r 0] h=.ret (.aR []) g/\dU cC eF g r fT fx (oy s)/\(∀d,d<h.n->¬R d->g.get d=h.get d)/\(∀d,cC d->R d\/h.n<=d)/\h.n<=g.n:=by
 have ahN:∀{fq jv:Nat->Prop} {y:ab} {hJ:ad} {M2:List fN} {s2:bZ},dU fq jv y r hJ M2 s2->M2.length=s2.l.length:=λaT=>by rw[<-aT.e,List.length_map]
 have Gx:=di.len
 refine ahE (m+1) r h (R:=λx=>∃g cC eF fT fx,x=.ret (.aR []) g/\dU cC eF g r fT fx (oy s)/\(∀d,d<h.n->¬R d->g.get d=h.get d)/\(∀d,cC d->R d\/h.n<=d)/\h.n<=g.n) ?_
 refine e8 (λc st=>∃y fq jv hJ M2 bw Γ,st=aks Γ y/\bY [(0,.ptr r 0)] Γ/\bw.length=c/\dU fq jv y r hJ M2 {s with l:=bw}/\eg {s with l:=bw}/\ju bw/\h9 s.cap bw.length bw=h9 s.cap s.l.length s.l/\(∀d,d<h.n->¬R d->y.get d=h.get d)/\(∀d,fq d->R d\/h.n<=d)/\h.n<=y.n) ?_ s.l.length _ (by omega) ⟨h,R,L,ck,M,s.l,_,rfl,⟨rfl,trivial⟩,rfl,xA,di,kx,rfl,λ_ _ _=>rfl,λd ai=>.inl ai,Nat.le_refl _⟩
 rintro c st ⟨y,fq,jv,hJ,M2,bw,Γ,rfl,cn,ah,aT,lS,CY,nQ,Gs,zT,kF⟩
 have hlen:=ahN aT
 have hlen:M2.length=bw.length:=hlen
 have hD:=lS.len
 have hD:bw.length<=s.given:=hD
 have hI:Ext y.n y (y.room 10):=Ext.room _ _ _
 have IR:dU fq jv (y.room 10) r hJ M2 {s with l:=bw}:=aT.ext hI.n λd ai=>hI.get d (aT.up d ai)
 have tC:∀j (I:j<M2.length) (ae:j<bw.length),bw[j]=M2[j].e:=λj I ae=>by
  have:=aT.e
  simp only at this
  simp[<-this]
 have frame:∀g,Ext y.n y g->(∀d,d<h.n->¬R d->g.get d=h.get d):=λg x d ai ao=>(x.get d (by omega)).trans (Gs d ai ao)
 refine ei (ahF _ r y ⟨hJ,aF (h:=y.room 10) aT.st rfl,M2.length,aT.len _,s.cap,aF (h:=y.room 10) aT.st rfl,bT.sound aT.row,λmb=>?_,λmb=>.inl ⟨y.room 10,_,rfl,rfl,trivial,y.room 10,fq,jv,hJ,M2,rfl,?_,frame _ hI,zT,by have:=hI.n;omega⟩⟩) cn
 · have ahO:∀x∈M2,x.e.args.length<=90000:=λx aa=>by
     have:=(CY x.e (by
      have:=aT.e
      simp only at this
      rw[<-this];exact List.mem_map.2 ⟨x,aa,rfl⟩)).2
     omega
   refine e8 (λc' st=>∃i z g Γ,st=aks Γ g/\bY [(0,.ptr r 0),(2,.int .i64 z),(3,J i)] Γ/\M2.length-i=c'/\i<=M2.length/\q_ bw i z/\Ext y.n y g) ?_ M2.length _ (by omega) ⟨0,Int.negSucc 0,y.room 10,_,rfl,⟨rfl,rfl,rfl,trivial⟩,by omega,by omega,.inl ⟨rfl,λj _ h=>by omega⟩,hI⟩
   rintro c' cg ⟨i,z,g,cD,rfl,jY,qn,hi,ag,x⟩
   have c4:dU fq jv g r hJ M2 {s with l:=bw}:=aT.ext x.n λd ai=>x.get d (aT.up d ai)
   have jX:Ext y.n y (g.room 45):=x.trans (Nat.le_refl _) (Ext.room y.n g 45)
   have vr:dU fq jv (g.room 45) r hJ M2 {s with l:=bw}:=aT.ext jX.n λd ai=>jX.get d (aT.up d ai)
   have Ki:=x.n
   by_cases i1:i<M2.length
   · have i2:i<bw.length:=by omega
     obtain⟨q,aK,aA⟩:=vr.at i1
     have mD:aq (g.room 45) r (0+3)=some (.slice q 0 M2.length (.aL 8)):=by rw[<-aK];exact aF vr.st rfl
     obtain⟨b,F8,xo⟩:=ag5 m (id:=M2[i].e.id) vr (by omega) ahO
     have r0:lJ bw bw[i]=true<->M2[i].e.pins=0/\b=false:=by
      rw[vc,tC i i1 i2,xo]
      refine and_congr Iff.rfl ⟨λh x aa=>h x.e ?_,λh x aa=>?_⟩
      · have:=aT.e
        simp only at this
        rw[<-this];exact List.mem_map.2 ⟨x,aa,rfl⟩
      · have:=aT.e
        simp only at this
        rw[<-this] at aa
        obtain⟨w,hw,rfl⟩:=List.mem_map.1 aa
        exact h w hw
     have nl:¬(M2[i].e.pins=0/\b=false)->lJ bw bw[i]=false:=λh=>by
      cases aa:lJ bw bw[i] with
      |false=>rfl
      |true=>exact absurd (r0.1 aa) h
     have go:∀AW,q_ bw (i+1) AW->∀e6,Ext y.n y e6->∃j,j<c'/\∃i2 gb av Γ,bL.mk [(0,.ptr r 0),(2,.int .i64 AW),(3,J (i+1))] [] .none e6=aks Γ av/\bY [(0,.ptr r 0),(2,.int .i64 gb),(3,J i2)] Γ/\M2.length-i2=j/\i2<=M2.length/\q_ bw i2 gb/\Ext y.n y av:=λAW a7 e6 Hh=>⟨M2.length-(i+1),by omega,i+1,AW,e6,_,rfl,⟨rfl,rfl,rfl,trivial⟩,rfl,by omega,a7,Hh⟩
     rcases ag with⟨rfl,ag⟩|⟨n,aH,rfl,g2,fh⟩
     · have xI:q_ bw i (Int.negSucc 0):=.inl ⟨rfl,ag⟩
       have yes:M2[i].e.pins=0->b=false->q_ bw (i+1) (Int.ofNat i):=λI ae=>.inr ⟨i,i2,rfl,r0.2 ⟨I,ae⟩,λj aO mJ gM=>by
        by_cases e:j<i
        · rw[ag j aO e] at gM;cases gM
        · obtain rfl:j=i:=by omega
          exact Nat.le_refl _⟩
       cases b with
       |false=>exact ei (Tn _ r 0 i g ⟨hJ,aF c4.st rfl,M2.length,c4.len g,λ_=>⟨q,M2.length,mD,i1,M2[i].e.pins,aA 6 _ rfl (by omega),λh0=>⟨rfl,q,M2.length,mD,i1,M2[i].e.id,aA 0 _ rfl (by omega),g.room 45,F8,by omega,go _ (yes h0 rfl) _ jX⟩,λh0=>⟨by omega,go _ (xI.skip i2 (nl λh=>h0 h.1)) _ jX⟩⟩,λh=>absurd i1 h⟩) jY
       |true=>exact ei (ahG _ r 0 i g ⟨hJ,aF c4.st rfl,M2.length,c4.len g,λ_=>⟨q,M2.length,mD,i1,M2[i].e.pins,aA 6 _ rfl (by omega),λh0=>⟨rfl,q,M2.length,mD,i1,M2[i].e.id,aA 0 _ rfl (by omega),g.room 45,F8,by omega,go _ (xI.skip i2 (nl λh=>(by cases h.2))) _ jX⟩,λh0=>⟨by omega,go _ (xI.skip i2 (nl λh=>h0 h.1)) _ jX⟩⟩,λh=>absurd i1 h⟩) jY
     · have xI:q_ bw i (Int.ofNat n):=.inr ⟨n,aH,rfl,g2,fh⟩
       have vt:n<M2.length:=by omega
       obtain⟨br,rJ,pG⟩:=vr.at vt
       have Lk:br=q:=by rw[aK] at rJ;cases rJ;rfl
       subst Lk
       have Tq:¬M2[i].e.used<M2[n].e.used->q_ bw (i+1) (Int.ofNat n):=λh=>.inr ⟨n,aH,rfl,g2,λj aO mJ gM=>by
        by_cases e:j<i
        · exact fh j aO e gM
        · obtain rfl:j=i:=by omega
          rw[tC n vt aH,tC j i1 i2];omega⟩
       have yes:M2[i].e.pins=0->b=false->M2[i].e.used<M2[n].e.used->q_ bw (i+1) (Int.ofNat i):=λI ae ax=>.inr ⟨i,i2,rfl,r0.2 ⟨I,ae⟩,λj aO mJ gM=>by
        by_cases e:j<i
        · have:=fh j aO e gM
          rw[tC n vt aH] at this
          rw[tC i i1 i2];omega
        · obtain rfl:j=i:=by omega
          exact Nat.le_refl _⟩
       cases b with
       |false=>exact ei (To _ r n i g ⟨hJ,aF c4.st rfl,M2.length,c4.len g,λ_=>⟨br,M2.length,mD,i1,M2[i].e.pins,aA 6 _ rfl (by omega),λh0=>⟨by omega,br,M2.length,mD,i1,M2[i].e.used,aA 7 _ rfl (by omega),br,M2.length,mD,vt,M2[n].e.used,pG 7 _ rfl (by omega),λax=>⟨br,M2.length,mD,i1,M2[i].e.id,aA 0 _ rfl (by omega),g.room 45,F8,by omega,go _ (yes h0 rfl ax) _ jX⟩,λax=>⟨by omega,go _ (Tq ax) _ jX⟩⟩,λh0=>⟨by omega,go _ (xI.skip i2 (nl λh=>h0 h.1)) _ jX⟩⟩,λh=>absurd i1 h⟩) jY
       |true=>exact ei (ahH _ r n i g ⟨hJ,aF c4.st rfl,M2.length,c4.len g,λ_=>⟨br,M2.length,mD,i1,M2[i].e.pins,aA 6 _ rfl (by omega),λh0=>⟨by omega,br,M2.length,mD,i1,M2[i].e.used,aA 7 _ rfl (by omega),br,M2.length,mD,vt,M2[n].e.used,pG 7 _ rfl (by omega),λax=>⟨br,M2.length,mD,i1,M2[i].e.id,aA 0 _ rfl (by omega),g.room 45,F8,by omega,go _ (xI.skip i2 (nl λh=>(by cases h.2))) _ jX⟩,λax=>⟨by omega,go _ (Tq ax) _ jX⟩⟩,λh0=>⟨by omega,go _ (xI.skip i2 (nl λh=>h0 h.1)) _ jX⟩⟩,λh=>absurd i1 h⟩) jY
   ·
    obtain⟨c0,Tr⟩:∃c0,bw.length=c0+1:=⟨bw.length-1,by omega⟩
    rcases ag with⟨rfl,ag⟩|⟨n,aH,rfl,g2,fh⟩
    · have sj:jD bw bw=none:=zg.2 λe he=>by
        obtain⟨a,aV,rfl⟩:=List.mem_iff_getElem.1 he
        exact ag a aV (by omega)
      have Lu:oy s={s with l:=bw}:=by
       show({s with l:=h9 s.cap s.l.length s.l}:bZ)=_
       rw[<-nQ,Tr,h9,if_pos (by omega),sj]
      refine ei (Tn _ r 0 i g ⟨hJ,aF c4.st rfl,M2.length,c4.len g,λh=>absurd h i1,λ_=>.inl ⟨g,_,rfl,rfl,⟨rfl,rfl,trivial⟩,λ_=>.inr ⟨g,_,rfl,rfl,trivial,g,fq,jv,hJ,M2,rfl,by rw[Lu];exact c4,frame g x,zT,by omega⟩,λh=>absurd h (by decide)⟩⟩) jY
    · have ta:jD bw bw=some bw[n]:=ahM (s:={s with l:=bw}) lS aH g2 λj aO=>fh j aO (by omega)
      have vt:n<M2.length:=by omega
      obtain⟨q,a8,a2,_⟩:=c4.cells vt
      have F2:=c4.up q (c4.sO q _ _ a8)
      obtain⟨v1,aG,v2,av,aE,cJ,b8,bH,v4,aD,eu,po,dh⟩:=ahI K6 (h:=g) a2 vt F2 (by omega)
      have Ts:hH bw[n].id bw=bw.take n++bw.drop (n+1):=ahK lS.up aH
      have qp:h9 s.cap bw.length bw=h9 s.cap c0 (hH bw[n].id bw):=by
       rw[Tr,h9,if_pos (by omega),ta]
      have j_:(hH bw[n].id bw).length=c0:=by rw[Ts,List.length_append,List.length_take,List.length_drop];omega
      have IV:∀x∈bw,bw[n].id∉x.parts:=(vc.1 g2).2
      have F9:aD.get r=g.get r:=dh.get r (c4.up r c4.iZ)
      have bd:=dh.n
      refine ei (To _ r n i g ⟨hJ,aF c4.st rfl,M2.length,c4.len g,λh=>absurd h i1,λ_=>.inr ⟨n,g,_,rfl,rfl,⟨rfl,rfl,trivial⟩,λh=>absurd h (by omega),λ_=>⟨hJ,aF c4.st rfl,v1,by rw[a8];exact aG,v2,av,aE,hJ,aF ((cJ.get r (c4.up r c4.iZ)).trans c4.st) rfl,by omega,b8,by rw[a8];exact bH,v4,aD,eu,bT.cell po,_,eV (F9.trans c4.st) rfl (pe _ (bT.cell po) _ _ (by simp)),c0,by omega,_,λd=>fq d\/∃k cp,v4=.slice d 0 k cp,jv,v4,M2.take n++M2.drop (n+1),hH bw[n].id bw,_,rfl,⟨rfl,trivial⟩,j_,?_,lS.drop IV,λe he=>CY e (oz.1 he).1,?_,?_,?_,?_⟩⟩⟩) jY
      · have Lv:=bT.lt po
        have ahP:∀k cp,v4≠ .slice r 0 k cp:=λk cp e=>by have:=(Lv r k cp e).1;have:=c4.up r c4.iZ;omega
        have low:∀d,d≠r->(aD.set r (some (aQ [J s.cap,aC s.given,J s.clock,v4] 40))).get d=aD.get d:=λd ai=>cX ai rfl
        have C1:∀d,jv d->(aD.set r (some (aQ [J s.cap,aC s.given,J s.clock,v4] 40))).get d=g.get d:=λd ai=>(low d (c4.j2 d ai).2.1).trans (dh.get d (c4.up d (c4.j2 d ai).1))
        have sub:∀w∈M2.take n++M2.drop (n+1),w∈M2:=λw hw=>by
         rcases List.mem_append.1 hw with hw|hw
         · exact List.mem_of_mem_take hw
         · exact List.mem_of_mem_drop hw
        refine⟨eK rfl,bT.bB (bT.le (Nat.zero_le _) po) (Nat.le_refl _) λq aK _=>low q λe=>ahP _ _ (e▸aK),?_,λw hw=>(c4.ns w (sub w hw)).bB λd ai=>⟨ai,C1 d ai⟩,λw hw=>(c4.az w (sub w hw)).bB λd ai=>⟨ai,C1 d ai⟩,.inl c4.iZ,λd k cp e=>.inr ⟨k,cp,e⟩,λd ai=>⟨.inl (c4.j2 d ai).1,(c4.j2 d ai).2.1,λk cp e=>by have:=(Lv d k cp e).1;have:=c4.up d (c4.j2 d ai).1;omega⟩,λd ai=>?_⟩
        · rw[List.map_append,List.map_take,List.map_drop,c4.e];exact Ts.symm
        · rcases ai with ai|⟨k,cp,ai⟩
          · have:=c4.up d ai;show d<aD.n;omega
          · exact(Lv d k cp ai).2
      · rw[j_,<-qp];exact nQ
      · intro d ai ao
        have hdr:d≠r:=λe=>by
         rcases zT r c4.iZ with aw|aw
         · exact ao (e▸aw)
         · omega
        exact(cX hdr rfl).trans ((dh.get d (by omega)).trans (frame g x d ai ao))
      · intro d ai
        rcases ai with ai|⟨k,cp,ai⟩
        · exact zT d ai
        · have:=(bT.lt po d k cp ai).1
          exact .inr (by omega)
      · show h.n<=aD.n;omega
 · have hle:bw.length<=s.cap:=by omega
   have Lu:oy s={s with l:=bw}:=by
    show({s with l:=h9 s.cap s.l.length s.l}:bZ)=_
    rw[<-nQ]
    congr 1
    cases aa:bw.length with
    |zero=>rfl
    |succ a=>rw[h9,if_neg (by omega)]
   rw[Lu];exact IR
def mE(s:bZ):Prop:=∀e∈s.l,∃t,gC s.l e.id t/\dE (some t)=0
theorem ahQ{s:bZ}{k:Nat}{nm:bb}{ns:List bb}{az:List Nat}{r:Nat}:∀q∈(hG k nm ns az r s).2.l,(∃e∈s.l,q.id=e.id)\/q.id=(hG k nm ns az r s).1:=by
 intro q aK
 unfold hG at aK⊢
 cases hf:s.l.find? (b3.is k nm ns az r) with
 |some e=>
  rw[hf] at aK
  obtain⟨x,aa,rfl⟩:=List.mem_map.1 aK
  exact .inl ⟨x,aa,(B3 _ _ x).id⟩
 |none=>
  rw[hf] at aK
  rcases List.mem_append.1 aK with h|h
  · exact .inl ⟨q,h,rfl⟩
  · rw[List.mem_singleton.1 h];exact .inr rfl
mutual
theorem Lw:∀(t:aJ) (s:bZ),eg s->dE (some t)=0->mE s->mE (ch t s).2
 |.mk k nm ns xs rt,s,h,ah,ao=>by
  obtain⟨I,ak,cT⟩:=sb xs h
  obtain⟨ae,av,dv⟩:=B4 rt I
  have r1:=Tt xs s h (λu hu=>pk ah hu) ao
  have r2:=ahR rt _ I (λu hu=>by subst hu;exact xt ah) r1
  obtain⟨ax,aD,eY⟩:=JP ae (k:=k) (nm:=nm) (ns:=ns) (az:=(cf xs s).1) (r:=(fM rt (cf xs s).2).1) λi hi=>by
   rcases List.mem_cons.1 hi with rfl|hi
   · exact dv
   · exact .inr ((cT i hi).qZ av)
  have q9:=JR (.mk k nm ns xs rt) h
  intro q aK
  rw[ch] at aK q9⊢
  rcases ahQ q aK with⟨e,he,Lx⟩|Lx
  · obtain⟨t,t1,t2⟩:=r2 e he
    exact⟨t,by rw[Lx];exact gC.qZ ae aD t1,t2⟩
  · exact⟨.mk k nm ns xs rt,by rw[Lx];exact q9,ah⟩
theorem Tt:∀(l:List aJ) (s:bZ),eg s->(∀u∈l,dE (some u)=0)->mE s->mE (cf l s).2
 |[],s,h,ah,ao=>by rw[cf];exact ao
 |t::l,s,h,ah,ao=>by
  rw[cf]
  exact Tt l _ (oA t h).1 (λu hu=>ah u (List.mem_cons_of_mem _ hu)) (Lw t s h (ah t (List.mem_cons_self ..)) ao)
theorem ahR:∀(o:Option aJ) (s:bZ),eg s->(∀u,o=some u->dE (some u)=0)->mE s->mE (fM o s).2
 |none,s,h,ah,ao=>by rw[fM];exact ao
 |some t,s,h,ah,ao=>by rw[fM];exact Lw t s h (ah t rfl) ao
end
theorem Tu{s:bZ}(al:eg s){f:b3->b3}(F:zh f)(ao:mE s):mE {s with l:=s.l.map f}:=by
 intro q aK
 obtain⟨x,aa,rfl⟩:=List.mem_map.1 aK
 obtain⟨t,t1,t2⟩:=ao x aa
 exact⟨t,by rw[F.id];exact gC.map al F t1,t2⟩
theorem Ly{s:bZ}:∀(n:Nat) (l:List b3),eg {s with l:=l}->mE {s with l:=l}->mE {s with l:=h9 s.cap n l}
 |0,l,_,h=>h
 |n+1,l,al,h=>by
  rw[h9]
  split
  · cases ag:jD l l with
    |none=>exact h
    |some x=>
     obtain⟨I,ae,_⟩:=vd ag
     have aN:=(vc.1 ae).2
     refine Ly n _ (eg.drop al aN) λq aK=>?_
     obtain⟨a8,a2⟩:=oz.1 aK
     obtain⟨t,t1,t2⟩:=h q a8
     exact⟨t,gC.drop al aN a2 t1,t2⟩
  · exact h
theorem ahS{t:aJ}{s:bZ}(h:eg s)(ah:dE (some t)=0)(ao:mE s):mE (gl t s).2:=
 Ly _ _ ((oA t h).1.map (tm _)) (Tu (oA t h).1 (tm _) (Lw t s h ah ao))
theorem ahT{i:Nat}{s:bZ}(h:eg s)(ao:mE s):mE (iI i s).2:=by
 unfold iI
 cases nE i s.l with
 |none=>exact ao
 |some e=>
  simp only
  split
  · exact ao
  · exact Ly _ _ (h.map (zi _)) (Tu h (zi _) ao)
theorem ahU(m:Nat)(z:Int)(h:ab)(H:∃aB,mH sn (.int .i64 z) [J 0]=some (J aB)/\R (.ret (af h.n) (ab.push h (aQ [J aB,aC 0,J 0,.aP] 40)))):
  R (Y (m+1) (.fn 8) [.int .i64 z] h):=
 dB [] [] Tryz.func8 H
theorem ahV(m r t:Nat)(h:ab)(H:∃aB ak,Y m (.fn 28) [af t] h=.ret (J aB) ak/\aB=0/\∃aY av,Y m (.fn 29) [af r,af t] ak=.ret (aC aY) av/\∃bd bj,aq (av.room 14) r 3=some (.slice bd 0 bj (.aL 8))/\∃bC aD,Y m (.fn 23) [af r,aC aY] (av.room 14)=.ret (J bC) aD/\bC<bj/\∃bP,aq aD bd (0+bC*8+6)=some (J bP)/\bP+1<9223372036854775808/\bC<bj/\∃a4,bg.storeCells aD bd (0+bC*8+6) [J (bP+1)]=some a4/\aq aD r 3=some (.slice bd 0 bj (.aL 8))/\∃bk,Y m (.fn 24) [af r] a4=.ret (.aR []) bk/\R (.ret (.aR [aC aY,J 0]) bk)):
  R (Y (m+1) (.fn 13) [af r,af t] h):=
 dB [(1011,.f),(19,.a1 (.gH (.aL 8)))] [] Tryz.func13 H
theorem ahW(m r id:Nat)(h:ab)(H:∃ak,Y m (.fn 23) [af r,aC id] h=.ret (.int .i64 (.negSucc 0)) ak/\gY (.negSucc 0) (.ofNat 0)=true/\R (.ret (J 5) ak)):
  R (Y (m+1) (.fn 10) [af r,aC id] h):=
 dB [(8,.a1 (.is (.int .i64 (.negSucc 0)))),(1010,.t)] [] Tryz.func10 H
theorem Tv(m r id:Nat)(h:ab)(H:∃aB ak,Y m (.fn 23) [af r,aC id] h=.ret (J aB) ak/\¬aB<0/\∃aY bd,aq ak r 3=some (.slice aY 0 bd (.aL 8))/\aB<bd/\∃bj,aq ak aY (0+aB*8+6)=some (J bj)/\(bj=0->R (.ret (J 2) ak))/\(¬bj=0->∃bC bP,aq ak r 3=some (.slice bC 0 bP (.aL 8))/\aB<bP/\∃cd,aq ak bC (0+aB*8+6)=some (J cd)/\(1<=cd/\cd<9223372036854775808)/\aB<bP/\∃av,bg.storeCells ak bC (0+aB*8+6) [J (cd-1)]=some av/\∃aD,Y m (.fn 24) [af r] av=.ret (.aR []) aD/\R (.ret (J 0) aD))):
  R (Y (m+1) (.fn 10) [af r,aC id] h):=
 dB [(1010,.f),(14,.a1 (.gH (.aL 8))),(23,.a1 (.gH (.aL 8)))] [] Tryz.func10 H
theorem ju.map{l:List b3}(h:ju l){f:b3->b3}(hf:∀e,(f e).args=e.args/\(f e).ns=e.ns):ju (l.map f):=by
 intro q aK
 obtain⟨x,aa,rfl⟩:=List.mem_map.1 aK
 rw[(hf x).1,(hf x).2];exact h x aa
theorem ju.intern{s:bZ}(h:ju s.l){t:aJ}(ah:dE (some t)=0):ju (gl t s).2.l:=λe he=>(F6 t s ah h).map (CH _) e (zj _ _ _ e he)
theorem ju.rel{s:bZ}(h:ju s.l)(i:Nat):ju (iI i s).2.l:=by
 unfold iI
 cases nE i s.l with
 |none=>exact h
 |some e=>
  simp only
  split
  · exact h
  · exactλe he=>h.map (CI _) e (zj _ _ _ e he)
theorem dU.n{R L:Nat->Prop}{h:ab}{r:Nat}{ck:ad}{M:List fN}{s:bZ}(aT:dU R L h r ck M s):M.length=s.l.length:=by rw[<-aT.e,List.length_map]
theorem dU.nth{R L:Nat->Prop}{h:ab}{r:Nat}{ck:ad}{M:List fN}{s:bZ}(aT:dU R L h r ck M s):∀j (I:j<M.length) (ae:j<s.l.length),s.l[j]=M[j].e:=λj I ae=>by simp[<-aT.e]
theorem dU.place{R L:Nat->Prop}{h:ab}{r:Nat}{ck:ad}{M:List fN}{s:bZ}(aT:dU R L h r ck M s)(di:eg s){q:b3}(aK:q∈s.l):∃i,∃hi:i<M.length,M[i].e=q/\∀j (aO:j<i),(M[j]'(Nat.lt_trans aO hi)).e.id≠q.id:=by
 obtain⟨i,hi,rfl⟩:=List.mem_iff_getElem.1 aK
 have gB:i<M.length:=by rw[aT.n];exact hi
 refine⟨i,gB,(aT.nth i gB hi).symm,λj aO=>?_⟩
 have:=List.pairwise_iff_getElem.1 di.up j i (by omega) hi aO
 rw[<-aT.nth j (by omega) (by omega)]
 omega
theorem Tw{i:Nat}{l:List b3}(h:nE i l=none):∀e∈l,e.id≠i:=λe he I=>by
 have:=List.find?_eq_none.1 h e he
 rw[I] at this;simp[Nat.beq_refl] at this
theorem dU.Lz{R L:Nat->Prop}{h:ab}{r i:Nat}{ck:ad}{M:List fN}{s:bZ}(aT:dU R L h r ck M s)(aH:∀e∈s.l,e.id≠i):∀x∈M,x.e.id≠i:=λx aa=>aH x.e (by rw[<-aT.e];exact List.mem_map.2 ⟨x,aa,rfl⟩)
theorem ahX(m:Nat){h:ab}(z:Int):∃g r R L ck M,Y (m+1) (.fn 8) [.int .i64 z] h=.ret (.ptr r 0) g/\dU R L g r ck M ⟨z.toNat,0,0,[]⟩/\Ext h.n h g/\∀d,R d->h.n<=d:=by
 refine⟨_,h.n,λd=>d=h.n,λ_=>False,.aP,[],ahU m z h (R:=λx=>x=.ret (.ptr h.n 0) (h.push (aQ [J z.toNat,aC 0,J 0,.aP] 40))) ⟨z.toNat,SM z,rfl⟩,⟨e7 rfl,.inl ⟨rfl,rfl⟩,rfl,λx aa=>(by cases aa),λx aa=>(by cases aa),rfl,λd k cp e=>(by cases e),λd ai=>(by cases ai),λd ai=>?_⟩,Ext.push (Nat.le_refl _) _,λd ai=>Nat.le_of_eq ai.symm⟩
 show d<h.n+1
 omega
theorem ahY(m:Nat){R L:Nat->Prop}{h:ab}{r id K:Nat}{ck:ad}{M:List fN}{s:bZ}(aT:dU R L h r ck M s)(f:Fit K s)(dg:K<=10000)(nb:ju s.l):
  ∃g cC eF fT fx,Y (m+3) (.fn 10) [.ptr r 0,aC id] h=.ret (J (iI id s).1) g/\dU cC eF g r fT fx (iI id s).2/\(∀d,d<h.n->¬R d->g.get d=h.get d)/\(∀d,cC d->R d\/h.n<=d)/\h.n<=g.n:=by
 have aA:=aT.n
 have hD:=f.ok.len
 have tv:=f.kB
 cases hf:nE id s.l with
 |none=>
  have e:iI id s=(5,s):=by unfold iI;rw[hf]
  rw[e]
  exact⟨h,R,L,ck,M,ahW (m+2) r id h (R:=λy=>y=.ret (J 5) h) ⟨h,K7 (m+1) aT (aT.Lz (Tw hf)) (by omega),rfl,rfl⟩,aT,λ_ _ _=>rfl,λd ai=>.inl ai,Nat.le_refl _⟩
 |some q=>
  obtain⟨a8,a2⟩:=B5 hf
  obtain⟨i,hi,ra,tB⟩:=aT.place f.ok a8
  have kO:i<s.l.length:=by omega
  have sl:=F1 (m+1) aT hi (by rw[ra]) tB (by omega)
  rw[a2] at sl
  obtain⟨b,ag,zU⟩:=aT.at hi
  have lvl:aq h r (0+3)=some (.slice b 0 M.length (.aL 8)):=by rw[<-ag];exact aF aT.st rfl
  have fj:=zU 6 _ rfl (by omega)
  have ahZ:M[i].e.pins<=10000:=by have:=f.pins q a8;rw[ra];omega
  by_cases h0:q.pins=0
  · have e:iI id s=(2,s):=by unfold iI;rw[hf];simp only[if_pos h0]
    rw[e]
    exact⟨h,R,L,ck,M,Tv (m+2) r id h (R:=λy=>y=.ret (J 2) h) ⟨i,h,sl,by omega,b,M.length,lvl,hi,M[i].e.pins,fj,λ_=>rfl,λh=>absurd (by rw[ra];exact h0) h⟩,aT,λ_ _ _=>rfl,λd ai=>.inl ai,Nat.le_refl _⟩
  · have e:iI id s=(0,oy {s with l:=s.l.map (kY id)}):=by unfold iI;rw[hf];simp only[if_neg h0]
    rw[e]
    have md:(M.set i {M[i] with e:={M[i].e with pins:=M[i].e.pins-1}}).map (·.e)=s.l.map (kY id):=by
     rw[List.map_set,aT.e,map_id f.ok.up kO (f:=kY id) (g:=λe=>{e with pins:=e.pins-1}) (λe h=>by unfold kY;rw[if_pos (by rw[h,aT.nth i hi kO,ra,a2])]) (λe h=>by unfold kY;rw[if_neg (by rw[<-a2,<-ra,<-aT.nth i hi kO];exact h)]),aT.nth i hi kO]
    obtain⟨hP,ak,cT,dv,eY,gq,il⟩:=aT.put hi (by omega:6<8) (x:={M[i] with e:={M[i].e with pins:=M[i].e.pins-1}}) (z:=J (M[i].e.pins-1)) rfl rfl ⟨rfl,rfl,rfl,rfl⟩ md
    have xo:hP=b:=by rw[ag] at cT;cases cT;rfl
    subst xo
    have f4:Fit K {s with l:=s.l.map (kY id)}:=f.map (Nat.le_refl K) (zi _) (CI _) λe=>Nat.le_trans (KR _ e) (by omega)
    obtain⟨av,cC,eF,fT,fx,bf,gO,j9,lH,ah0⟩:=Tp m (s:={s with l:=s.l.map (kY id)}) eY f4.ok (nb.map (CI _)) (by show s.given<=_;omega)
    have ah1:M[i].e.pins≠0:=by rw[ra];exact h0
    refine⟨av,cC,eF,fT,fx,Tv (m+2) r id h (R:=λy=>y=.ret (J 0) av) ⟨i,h,sl,by omega,hP,M.length,lvl,hi,M[i].e.pins,fj,λh=>absurd h ah1,λ_=>⟨hP,M.length,lvl,hi,M[i].e.pins,fj,⟨by omega,by omega⟩,hi,ak,dv,av,bf,rfl⟩⟩,gO,λd ai ao=>(j9 d (by omega) ao).trans (gq d ao),λd ai=>?_,by omega⟩
    rw[<-il];exact lH d ai
theorem ah2(m:Nat){R L G:Nat->Prop}{h:ab}{r b K:Nat}{ck:ad}{M:List fN}{s:bZ}{t:aJ}(hm:1000<=m)(aT:dU R L h r ck M s)(f:Fit K s)(dg:K+61<=10000)(nb:ju s.l)(fR:∀d,G d->d<h.n/\¬R d)(aI:ew G h t (.ptr b 0))(ah:dE (some t)=0):
  ∃g cC eF fT fx,Y (m+1) (.fn 13) [.ptr r 0,.ptr b 0] h=.ret (.aR [aC (gl t s).1,J 0]) g/\dU cC eF g r fT fx (gl t s).2/\(∀d,d<h.n->¬R d->g.get d=h.get d)/\(∀d,cC d->R d\/h.n<=d)/\h.n<=g.n:=by
 obtain⟨dz,ek⟩:=Ca ah
 have fm:dk (some t)=sz t:=jk t
 obtain⟨m,rfl⟩:∃k,m=k+10:=⟨m-10,by omega⟩
 have tv:=f.kB
 have KE:=f.qa
 have qu:∃av,Y (m+10) (.fn 28) [.ptr b 0] h=.ret (J 0) av/\Ext h.n h av:=by
  have KS:d_ h.n h (some t) (.ptr b 0):=ew.at (λd ai=>(fR d ai).1) _ _ aI
  obtain⟨av,aE,cJ⟩:=Jm (m+9) (by omega) (λu e=>by cases e;omega) (by omega) (Nat.le_refl _) KS
  rw[ah] at aE
  exact⟨av,aE,cJ⟩
 obtain⟨av,bf,cJ⟩:=qu
 have aY:=cJ.n
 have KL:=aT.ext cJ.n λd ai=>cJ.get d (aT.up d ai)
 obtain⟨aD,ah3,akl,akm,qg,ee,a8,a2,bX,eG⟩:=Ln (sz t) t (Nat.le_refl _) ah (m+10) (by omega) G R L av r (.ptr b 0) ck M s KL f.ok nb (by omega) (by omega) (λd ai=>⟨by have:=(fR d ai).1;omega,(fR d ai).2⟩) (ew.bB (λd ai=>⟨ai,cJ.get d (fR d ai).1⟩) _ _ aI)
 have tx:=f.lay ah
 have dh:Ext aD.n aD (aD.room 14):=Ext.room _ _ _
 have bd:(aD.room 14).n=aD.n+14:=rfl
 have c4:=a8.ext dh.n λd ai=>dh.get d (a8.up d ai)
 obtain⟨q,aK,my⟩:=(oA t f.ok).2.2
 obtain⟨i,hi,ra,tB⟩:=c4.place tx.ok aK
 have aA:=c4.n
 have hD:=tx.ok.len
 have nX:=tx.kB
 have kO:i<(ch t s).2.l.length:=by omega
 have sl:=F1 (m+9) c4 hi (by rw[ra]) tB (by omega)
 rw[my] at sl
 obtain⟨c,Tx,zU⟩:=c4.at hi
 have lvl:aq (aD.room 14) r (0+3)=some (.slice c 0 qg.length (.aL 8)):=by rw[<-Tx];exact aF c4.st rfl
 have fj:=zU 6 _ rfl (by omega)
 have ahZ:qg[i].e.pins<=10000:=by have:=tx.pins q aK;rw[ra];omega
 have md:(qg.set i {qg[i] with e:={qg[i].e with pins:=qg[i].e.pins+1}}).map (·.e)=(ch t s).2.l.map (jZ (ch t s).1):=by
  rw[List.map_set,c4.e,map_id tx.ok.up kO (f:=jZ (ch t s).1) (g:=λe=>{e with pins:=e.pins+1}) (λe h=>by unfold jZ;rw[if_pos (by rw[h,c4.nth i hi kO,ra,my])]) (λe h=>by unfold jZ;rw[if_neg (by rw[<-my,<-ra,<-c4.nth i hi kO];exact h)]),c4.nth i hi kO]
 obtain⟨c',a4,cT,dv,eY,gq,il⟩:=c4.put hi (by omega:6<8) (x:={qg[i] with e:={qg[i].e with pins:=qg[i].e.pins+1}}) (z:=J (qg[i].e.pins+1)) rfl rfl ⟨rfl,rfl,rfl,rfl⟩ md
 have uC:c'=c:=by rw[Tx] at cT;cases cT;rfl
 subst uC
 have f4:Fit (K+61) {(ch t s).2 with l:=(ch t s).2.l.map (jZ (ch t s).1)}:=tx.map (by omega:K+sz t<=K+61) (tm _) (CH _) λe=>Nat.le_trans (KQ _ e) (by omega)
 have nH:=f4.kB
 obtain⟨bk,cC,eF,fT,fx,ox,gO,j9,lH,ah0⟩:=Tp (m+8) (s:={(ch t s).2 with l:=(ch t s).2.l.map (jZ (ch t s).1)}) eY f4.ok ((F6 t s ah nb).map (CH _)) (by omega)
 refine⟨bk,cC,eF,fT,fx,ahV (m+10) r b h (R:=λy=>y=.ret (.aR [aC (gl t s).1,J 0]) bk) ⟨0,av,bf,rfl,(ch t s).1,aD,ee,c',qg.length,lvl,i,aD.room 14,sl,hi,qg[i].e.pins,fj,by omega,hi,a4,dv,lvl,bk,ox,rfl⟩,gO,λd ai ao=>?_,λd ai=>?_,by omega⟩
 · have F9:¬ah3 d:=λau=>by
     rcases bX d au with aw|aw
     · exact ao aw
     · omega
   exact(j9 d (by omega) F9).trans ((gq d F9).trans ((dh.get d (by omega)).trans ((a2 d (by omega) ao).trans (cJ.get d ai))))
 · rcases lH d ai with aw|aw
   · rcases bX d aw with lZ|lZ
     · exact .inl lZ
     · exact .inr (by omega)
   · exact .inr (by omega)
theorem ah4(m r id:Nat)(h:ab)(H:∃ak,Y m (.fn 23) [af r,aC id] h=.ret (.int .i64 (.negSucc 0)) ak/\gY (.negSucc 0) (.ofNat 0)=true/\R (.ret (.aR [.aX,.bool false]) ak)):
  R (Y (m+1) (.fn 30) [af r,aC id] h):=
 dB [(14,.a1 (.is (.int .i64 (.negSucc 0)))),(1016,.t)] [] Tryz.func30 H
theorem ah5(m r id:Nat)(h:ab)(H:∃aB ak,Y m (.fn 23) [af r,aC id] h=.ret (J aB) ak/\¬aB<0/\∃aY bd,aq ak r 3=some (.slice aY 0 bd (.aL 8))/\aB<bd/\∃bj bC s1 v1 v2 bP cd cR,bg.loadCells ak aY (0+aB*8) 8=some [aC bj,J bC,.str s1,v1,v2,aC bP,J cd,J cR]/\g4 v1/\g4 v2/\∃av,bg.storeCells (ab.push ak (aQ [aC 0,J 0,.str [],.aP,.aP,aC 0,J 0,J 0] 67)) ak.n 0 [aC bj,J bC,.str s1,v1,v2,aC bP,J cd,J cR]=some av/\∃dD,aq av ak.n 1=some (J dD)/\∃s2,aq av ak.n 2=some (.str s2)/\aq (ab.room (ab.push av (aQ [J dD,.str s2,.aP,.aP,.aX] 80)) 11) av.n 2=some .aP/\∃b8,aq (ab.room (ab.push av (aQ [J dD,.str s2,.aP,.aP,.aX] 80)) 11) ak.n 3=some b8/\∃v4 aD,dJ an (ab.room (ab.push av (aQ [J dD,.str s2,.aP,.aP,.aX] 80)) 11) 63 (some 63) .aP b8=some (v4,aD)/\g4 v4/\∃a4,bg.storeCells aD av.n 2 [v4]=some a4/\cr b8/\bp an Tryz.f30 (Y m) [1,1,1,1,1,1,0,1,0] (aj [(0,af r),(7,af ak.n),(8,af av.n),(9,J 0)] a4) (λb2 cc=>∃dX eE bk bt,b2=.exit 0/\cc=aj bt bk/\bY [(0,af r),(7,af dX),(8,af eE)] bt/\∃e9,aq bk dX 5=some (aC e9)/\(0<e9->∃fw,aq bk dX 5=some (aC fw)/\∃jo bn cQ,Y m (.fn 30) [af r,aC fw] bk=.ret (.aR [af jo,.bool bn]) cQ/\∃dO,bg.storeCells cQ eE 4 [af jo]=some dO/\R (.ret (.aR [af eE,.bool true]) dO))/\(¬0<e9->R (.ret (.aR [af eE,.bool true]) bk)))):
  R (Y (m+1) (.fn 30) [af r,aC id] h):=
 dB [(1016,.f),(20,.a1 (.gH (.aL 8))),(34,.a1 (.is .aP)),(36,.a1 .o),(37,.a1 .o),(70,.a1 (.eQ [.p,.b])),(75,.a1 (.eQ [.p,.b])),(4000,.fj [0,7,8,9] [(.exit 0,[(0,.is (af r)),(7,.p),(8,.p)])])] [] Tryz.func30 H
theorem ah6(r e t i:Nat)(h:ab)(H:∃v1,aq h e 4=some v1/\∃aB,bV an h 44 v1=some (J aB)/\(i<aB->∃aY bd,aq h e 4=some (.slice aY 0 bd (.aL 1))/\i<bd/\∃bj,aq h aY (0+i*1)=some (aC bj)/\∃bC bn ak,call (.fn 30) [af r,aC bj] h=.ret (.aR [af bC,.bool bn]) ak/\∃v2,aq ak t 3=some v2/\∃b8 av,dJ an (ab.push ak (aQ [af bC] 35)) 50 (some 50) v2 (.slice ak.n 0 1 (.exact 1))=some (b8,av)/\g4 b8/\∃aD,bg.storeCells av t 3 [b8]=some aD/\i+1<9223372036854775808/\Q .nrm (aj [(0,af r),(7,af e),(8,af t),(9,J (i+1))] aD))/\(¬i<aB->Q (.exit 0) (aj [(0,af r),(7,af e),(8,af t),(9,J i)] h))):
  bp an Tryz.f30 call [1,1,1,1,1,1,0,1,0,0] (aj [(0,af r),(7,af e),(8,af t),(9,J i)] h) Q:=
 c3 [(42,.a1 .o),(50,.a1 (.gH (.aL 1))),(54,.a1 (.eQ [.p,.b])),(61,.a1 .o)] [0,7,8,9] [] H
theorem ft.src{L:Nat->Prop}{h:ab}{v:ad}{vs:List ad}(o:ft L h v vs):fu h 1 v=some (vs.length,vs):=by
 rcases o with⟨rfl,rfl⟩|⟨q,rfl,_,ax,aN⟩
 · rfl
 · exact c5.src (B:=0) aN ax (by simp)
theorem LA(x:fN)(Z:List ad)(km:Z.length=8):gD 0 (eX x) Z=some (eX x):=by
 have h:=yv [] (eX x) Z (K6.cell x) (by show 8<=Z.length;omega)
 rw[List.nil_append,List.length_nil] at h
 rw[h,List.nil_append,List.drop_eq_nil_of_le (by show Z.length<=8;omega),List.append_nil]
theorem ah7(m:Nat){R L:Nat->Prop}{h:ab}{r i:Nat}{ck:ad}{M:List fN}{s:bZ}(aT:dU R L h r ck M s)(aA:M.length<=90000)(aH:∀e∈s.l,e.id≠i):Y (m+2) (.fn 30) [.ptr r 0,aC i] h=.ret (.aR [.aX,.bool false]) h:=
 ah4 (m+1) r i h (R:=λy=>y=.ret (.aR [.aX,.bool false]) h) ⟨h,K7 m aT (aT.Lz aH) aA,rfl,rfl⟩
def ah8(n:Nat)(t:aJ):Prop:=∀(R L:Nat->Prop) (h:ab) (r i:Nat) (ck:ad) (M:List fN) (s:bZ),dU R L h r ck M s->eg s->s.given<=10000->gC s.l i t->∃b g,Y n (.fn 30) [.ptr r 0,aC i] h=.ret (.aR [.ptr b 0,.bool true]) g/\Ext h.n h g/\ew (lL h.n g.n) g t (.ptr b 0)
theorem dU.hW{R L:Nat->Prop}{h g:ab}{r:Nat}{ck:ad}{M:List fN}{s:bZ}(aT:dU R L h r ck M s)(e:Ext h.n h g):dU R L g r ck M s:=aT.ext e.n λd ai=>e.get d (aT.up d ai)
theorem LB:∀(N:Nat) (t:aJ),sz t<=N->sz t<=60->iE t<=1000->∀n,sz t+3<=n->ah8 n t
 |0,t,h,_,_,_,_=>by have:=p0 t;omega
 |N+1,.mk k nm ns xs rt,hh,p4,ig,n,aH=>by
  intro R L h r i ck M s aT al tv q9
  have bJ:=l3 k nm ns xs rt
  have fH:=mo xs
  have K0:iE (.mk k nm ns xs rt)=ns.length+p2 xs+m3 rt:=by rw[iE]
  rw[gC] at q9
  obtain⟨e,he,zk,ay,iN,K1,mM,gn⟩:=q9
  subst ay;subst iN;subst K1;subst zk
  obtain⟨g1,vU⟩:=KX mM
  obtain⟨m,rfl⟩:∃m,n=m+3:=⟨n-3,by omega⟩
  obtain⟨wc,tF,C2,tB⟩:=aT.place al he
  have aA:=aT.n
  have hD:=al.len
  have sl:=F1 (m+1) aT tF (by rw[C2]) tB (by omega)
  obtain⟨x,aa⟩:∃x,x=M[wc]:=⟨_,rfl⟩
  have Ty:x∈M:=by rw[aa];exact List.getElem_mem tF
  have lp:x.e=e:=by rw[aa];exact C2
  subst lp
  obtain⟨qO,DR,_,vK⟩:=aT.cells tF
  rw[<-aa] at vK
  obtain⟨bh,F_⟩:∃H,H=(h.push (aQ [aC 0,J 0,.str [],.aP,.aP,aC 0,J 0,J 0] 67)).set h.n (some (aQ (eX x) 67)):=⟨_,rfl⟩
  have aY:bh.n=h.n+1:=by rw[F_];rfl
  have cJ:Ext h.n h bh:=by rw[F_];exact Ext.hQ (Nat.le_refl _) (Ext.push (Nat.le_refl _) _)
  have Ga:bh.get h.n=some (aQ (eX x) 67):=by rw[F_];exact eK rfl
  obtain⟨bD,Gb⟩:∃H,H=(bh.push (aQ [J x.e.k,.str x.e.nm,.aP,.aP,.aX] 80)).room 11:=⟨_,rfl⟩
  have bd:bD.n=h.n+13:=by rw[Gb];show bh.n+1+11=_;omega
  have zP:∀d,d<bh.n->bD.get d=bh.get d:=λd ai=>by rw[Gb];exact nn ai rfl
  have node3:bD.get (h.n+1)=some (aQ [J x.e.k,.str x.e.nm,.aP,.aP,.aX] 80):=by rw[Gb,<-aY];exact e7 rfl
  have dh:Ext h.n h bD:=⟨by omega,λd ai=>(zP d (by omega)).trans (cJ.get d ai)⟩
  have l1:ft L bD x.bA (x.e.ns.map .str):=(aT.ns x Ty).bB λd ai=>⟨ai,dh.get d (aT.up d (aT.j2 d ai).1)⟩
  have xH:=l1.src
  rw[List.length_map] at xH
  obtain⟨v2,aD,cu,dy,e1,akn,gA⟩:=qK J0 (B:=h.n+2) (h:=bD) (v:=.aP) (ds:=[]) (es:=x.e.ns) (.inl ⟨rfl,rfl⟩) (by omega) (by rw[xH,kn]) (by simp;omega)
  rw[List.nil_append] at dy
  have sf:∀d,d<bD.n->aD.get d=bD.get d:=λd ai=>gA d ai λn cp e=>by cases e
  have jJ:v2.de=true:=bT.cell dy
  obtain⟨H,cy⟩:∃H,H=aD.set (h.n+1) (some (aQ [J x.e.k,.str x.e.nm,v2,.aP,.aX] 80)):=⟨_,rfl⟩
  have lj:H.n=aD.n:=by rw[cy];rfl
  have bj:=e1.n
  have k1:∀d,d≠h.n+1->H.get d=aD.get d:=λd ai=>by rw[cy];exact cX ai rfl
  have dY:Ext h.n h H:=⟨by omega,λd ai=>(k1 d (by omega)).trans ((sf d (by omega)).trans (dh.get d ai))⟩
  have CK:H.get h.n=some (aQ (eX x) 67):=(k1 _ (by omega)).trans ((sf _ (by omega)).trans ((zP _ (by omega)).trans Ga))
  have ah9:H.get (h.n+1)=some (aQ [J x.e.k,.str x.e.nm,v2,.aP,.aX] 80):=by rw[cy];exact eK rfl
  have ed:k0 (h.n+2) H v2 x.e.ns:=bT.tn dy (by omega) λd I _=>k1 d (by omega)
  have mO:=aT.az x Ty
  have K2:∀g,bV an g 44 x.aU=some (J x.e.args.length):=λg=>by
   have:=mO.len (T:=44) (el:=32) (by kernel_rfl) g
   rwa [List.length_map] at this
  have rest:∀(y:ab) (aU:ad) (ps:List Nat) (Γ:Env),Ext h.n h y->h.n+13<=y.n->y.get h.n=some (aQ (eX x) 67)->y.get (h.n+1)=some (aQ [J x.e.k,.str x.e.nm,v2,aU,.aX] 80)->k0 (h.n+2) y v2 x.e.ns->iJ (h.n+2) y aU ps->cN (λb=>h.n<=b/\b<y.n/\b≠h.n+1) y xs (ps.map g_)->bY [(0,.ptr r 0),(7,.ptr h.n 0),(8,.ptr (h.n+1) 0)] Γ->
    ∃dX eE bk bt,bW.exit 0=.exit 0/\((aks Γ y):bL)=bL.mk bt [] .none bk/\bY [(0,.ptr r 0),(7,.ptr dX 0),(8,.ptr eE 0)] bt/\∃e9,aq bk dX (0+5)=some (aC e9)/\
    (0<e9->∃fw,aq bk dX (0+5)=some (aC fw)/\∃jo bn cQ,Y (m+2) (.fn 30) [.ptr r 0,aC fw] bk=.ret (.aR [.ptr jo 0,.bool bn]) cQ/\∃dO,bg.storeCells cQ eE (0+4) [.ptr jo 0]=some dO/\∃b g,bE.ret (.aR [.ptr eE 0,.bool true]) dO=.ret (.aR [.ptr b 0,.bool true]) g/\Ext h.n h g/\ew (lL h.n g.n) g (.mk x.e.k x.e.nm x.e.ns xs rt) (.ptr b 0))/\
    (¬0<e9->∃b g,bE.ret (.aR [.ptr eE 0,.bool true]) bk=.ret (.aR [.ptr b 0,.bool true]) g/\Ext h.n h g/\ew (lL h.n g.n) g (.mk x.e.k x.e.nm x.e.ns xs rt) (.ptr b 0)):=by
   intro y aU ps Γ aZ kF ko js jg eM qd cn
   refine⟨h.n,h.n+1,y,Γ,rfl,rfl,cn,x.e.ret,aF ko rfl,λh0=>?_,λh0=>?_⟩
   · cases rt with
     |none=>
      rw[nG] at gn
      omega
     |some u=>
      rw[nG] at gn
      rw[jk] at bJ
      rw[show m3 (some u)=iE u by rw[m3]] at K0
      obtain⟨fY,a4,fQ,mB,t4⟩:=LB N u (by omega) (by omega) (by omega) (m+2) (by omega) R L y r _ ck M s (aT.hW aZ) al tv gn
      have bj:=mB.n
      have node4:=(mB.get (h.n+1) (by omega)).trans js
      have K3:Ext h.n h a4:=aZ.trans aZ.n mB
      refine⟨x.e.ret,aF ko rfl,fY,true,a4,fQ,a4.set (h.n+1) (some (aQ [J x.e.k,.str x.e.nm,v2,aU,.ptr fY 0] 80)),eV node4 rfl (pe _ rfl _ _ (by simp)),h.n+1,_,rfl,Ext.hQ (by omega) K3,?_⟩
      have low:∀d,d≠h.n+1->(a4.set (h.n+1) (some (aQ [J x.e.k,.str x.e.nm,v2,aU,.ptr fY 0] 80))).get d=a4.get d:=λd ai=>cX ai rfl
      have CL:k0 (h.n+2) (a4.set (h.n+1) (some (aQ [J x.e.k,.str x.e.nm,v2,aU,.ptr fY 0] 80))) v2 x.e.ns:=bT.tn jg (by simp;omega) λd I ae=>(low d (by omega)).trans (mB.get d ae)
      have CM:iJ (h.n+2) (a4.set (h.n+1) (some (aQ [J x.e.k,.str x.e.nm,v2,aU,.ptr fY 0] 80))) aU ps:=bT.tn eM (by simp;omega) λd I ae=>(low d (by omega)).trans (mB.get d ae)
      refine⟨h.n+1,v2,aU,.ptr fY 0,ps.map g_,.own,0,0,rfl,⟨by omega,by simp;omega⟩,eK rfl,sc CL (bT.iX CL (by omega)),sc CM (bT.iX CM (by omega)),?_,?_⟩
      · exact cN.bB (λb ag=>⟨⟨ag.1,by simp;omega⟩,(low b ag.2.2).trans (mB.get b ag.2.1)⟩) _ _ qd
      · exact q0.bB (λb ag=>⟨⟨by have:=ag.1;omega,by simp;exact ag.2⟩,low b (by have:=ag.1;omega)⟩) _ (.ptr fY 0) t4
   · cases rt with
     |none=>
      refine⟨h.n+1,y,rfl,aZ,h.n+1,v2,aU,.aX,ps.map g_,.own,0,0,rfl,⟨by omega,by omega⟩,js,sc jg (bT.iX jg (by omega)),sc eM (bT.iX eM (by omega)),?_,rfl⟩
      exact cN.bB (λb ag=>⟨⟨ag.1,ag.2.1⟩,rfl⟩) _ _ qd
     |some u=>
      rw[nG] at gn
      obtain⟨aG,F3,I⟩:=gn.adr
      have:=(al.lo aG F3).1
      omega
  refine ah5 (m+2) r x.e.id h (R:=λy=>∃b g,y=.ret (.aR [.ptr b 0,.bool true]) g/\Ext h.n h g/\ew (lL h.n g.n) g (.mk x.e.k x.e.nm x.e.ns xs rt) (.ptr b 0)) ⟨wc,h,sl,by omega,qO,M.length,by rw[<-DR];exact aF aT.st rfl,tF,_,_,_,_,_,_,_,_,vK,x.aH,x.aV,bh,by rw[F_];exact eV (e7 rfl) rfl (LA x _ rfl),x.e.k,aF Ga rfl,x.e.nm,aF Ga rfl,?_⟩
  rw[<-Gb,aY]
  refine⟨aF node3 rfl,x.bA,aF ((zP _ (by omega)).trans Ga) rfl,v2,aD,cu,jJ,H,by rw[cy];exact eV ((sf _ (by omega)).trans node3) rfl (pe _ jJ _ _ (by simp)),l1.sound,?_⟩
  refine e8 (λk st=>∃j y aU ps Γ,st=aks Γ y/\bY [(0,.ptr r 0),(7,.ptr h.n 0),(8,.ptr (h.n+1) 0),(9,J j)] Γ/\x.e.args.length-j=k/\j<=x.e.args.length/\Ext h.n h y/\h.n+13<=y.n/\y.get h.n=some (aQ (eX x) 67)/\y.get (h.n+1)=some (aQ [J x.e.k,.str x.e.nm,v2,aU,.aX] 80)/\k0 (h.n+2) y v2 x.e.ns/\iJ (h.n+2) y aU ps/\ps.length=j/\cN (λb=>h.n<=b/\b<y.n/\b≠h.n+1/\∀n cp,aU≠ .slice b 0 n cp) y (xs.take j) (ps.map g_)) ?_ x.e.args.length _ (by omega) ⟨0,_,.aP,[],_,rfl,⟨rfl,rfl,rfl,rfl,trivial⟩,by omega,by omega,dY,by omega,CK,ah9,ed,.inl ⟨rfl,rfl⟩,rfl,rfl⟩
  rintro cO cg ⟨j,y,aU,ps,Γ,rfl,cn,fl,aO,aZ,kF,ko,js,jg,eM,hV,qd⟩
  refine ei (ah6 _ r h.n (h.n+1) j y ⟨x.aU,aF ko rfl,x.e.args.length,K2 y,λfW=>?_,λfW=>?_⟩) cn
  · have mc:j<xs.length:=by omega
    have KP:=FR xs mc
    have agX:=yS (List.getElem_mem mc)
    obtain⟨q,aK,ah_,aia⟩:=mO.at fW
    have gf:aq y q (0+j*1)=some (jF x.e.args[j]):=(q1 (aZ.get q (aT.up q (aT.j2 q ah_).1))).trans (aia j fW)
    obtain⟨fY,a4,fQ,mB,t4⟩:=LB N xs[j] (by omega) (by omega) (by omega) (m+2) (by omega) R L y r _ ck M s (aT.hW aZ) al tv (vU j fW mc)
    have ako:=mB.n
    have node4:=(mB.get (h.n+1) (by omega)).trans js
    have aib:=(mB.get h.n (by omega)).trans ko
    obtain⟨K,dg⟩:∃K,K=a4.push (aQ [.ptr fY 0] 35):=⟨_,rfl⟩
    have RK:K.n=a4.n+1:=by rw[dg];rfl
    have sd:Ext a4.n a4 K:=by rw[dg];exact Ext.push (Nat.le_refl _) _
    have K4:iJ (h.n+2) K aU ps:=(eM.mono mB (Nat.le_refl _)).mono sd (Nat.le_refl _)
    obtain⟨bk,aic,cU,dm,e0,ey⟩:=zm qb K4 (by omega) (d:=fY) (src:=.slice a4.n 0 1 (.exact 1)) (by rw[dg];exact yz qb a4 35 fY) (by omega)
    have zN:=bT.lt eM
    have CN:∀d,d<=h.n+1->∀n cp,aU≠ .slice d 0 n cp:=λd ai n cp e=>by have:=(zN _ _ _ e).1;omega
    have l7:∀d,d<a4.n->(∀n cp,aU≠ .slice d 0 n cp)->bk.get d=a4.get d:=λd ai dr=>(ey d (by omega) dr).trans (sd.get d ai)
    have node5:bk.get (h.n+1)=some (aQ [J x.e.k,.str x.e.nm,v2,aU,.aX] 80):=(l7 _ (by omega) (CN _ (by omega))).trans node4
    have Lr:bk.get h.n=some (aQ (eX x) 67):=(l7 _ (by omega) (CN _ (by omega))).trans aib
    subst dg
    refine⟨q,x.e.args.length,by rw[<-aK];exact aF ko rfl,fW,_,gf,fY,true,a4,fQ,aU,aF node4 rfl,_,bk,aic,rfl,_,eV node5 rfl rfl,by omega,_,(by show _<cO;omega),j+1,_,_,ps++[fY],_,rfl,⟨rfl,rfl,rfl,rfl,trivial⟩,rfl,by omega,?_,by simp;omega,(cX (by omega) rfl).trans Lr,eK rfl,?_,?_,by simp[hV],?_⟩
    · refine Ext.hQ (by omega) ⟨by omega,λd ai=>(l7 d (by omega) (CN d (by omega))).trans ((mB.get d (by have:=aZ.n;omega)).trans (aZ.get d ai))⟩
    · refine bT.bB jg (by simp;omega) λb ag oM=>?_
      have xC:=bT.lt jg b _ _ ag
      refine(cX (by omega) rfl).trans ((l7 b (by omega) λn cp e=>?_).trans (mB.get b oM))
      rcases jg with⟨aG,_⟩|⟨hP,aG,_,c9,_,_⟩
      · rw[aG] at ag;cases ag
      · rw[aG] at ag;cases ag
        rcases eM with⟨aE,_⟩|⟨agY,aE,_,fS,_,_⟩
        · rw[aE] at e;cases e
        · rw[aE] at e;cases e
          rw[c9] at fS
          injection fS with fS;injection fS with _ fS
          exact absurd fS (by decide)
    · exact .inr ⟨_,rfl,by simp,(cX (by omega) rfl).trans cU,by omega,by simp;omega⟩
    · rw[List.take_succ_eq_append_getElem mc,List.map_append]
      have old:∀b,h.n<=b->b<a4.n->b≠h.n+1->(∀n cp,aU≠ .slice b 0 n cp)->(h.n<=b/\b<(bk.set (h.n+1) (some (aQ [J x.e.k,.str x.e.nm,v2,.slice (a4.push (aQ [.ptr fY 0] 35)).n 0 (ps++[fY]).length (.aL 1),.aX] 80))).n/\b≠h.n+1/\∀n cp,ad.slice (a4.push (aQ [.ptr fY 0] 35)).n 0 (ps++[fY]).length (ct.aL 1)≠ .slice b 0 n cp)/\(bk.set (h.n+1) (some (aQ [J x.e.k,.str x.e.nm,v2,.slice (a4.push (aQ [.ptr fY 0] 35)).n 0 (ps++[fY]).length (.aL 1),.aX] 80))).get b=a4.get b:=λb I ae ax aN=>
       ⟨⟨I,by simp;omega,ax,λn cp e=>by cases e;omega⟩,(cX ax rfl).trans (l7 b ae aN)⟩
      refine cN.app (cN.cons (ew.bB (λb ag=>old b (by have:=ag.1;omega) ag.2 (by have:=ag.1;omega) λn cp e=>by have:=(zN _ _ _ e).2;have:=ag.1;omega) _ _ t4) cN.nil) (cN.bB (λb ag=>?_) _ _ qd)
      obtain⟨bn,bo,c9,fS⟩:=ag
      obtain⟨aid,aie⟩:=old b bn (by omega) c9 fS
      exact⟨aid,aie.trans (mB.get b bo)⟩
  · obtain rfl:j=x.e.args.length:=by omega
    rw[List.take_of_length_le (by omega)] at qd
    exact rest y aU ps _ aZ kF ko js jg eM (cN.bB (λb ag=>⟨⟨ag.1,ag.2.1,ag.2.2.1⟩,rfl⟩) _ _ qd) ⟨rfl,rfl,rfl,trivial⟩
theorem aif(r id:Nat)(h:ab)(H:∃ak,call (.fn 23) [af r,aC id] (ab.push h (aQ [aC 0,J 0,.str [],.aP,.aP,aC 0,J 0,J 0] 67))=.ret (.int .i64 (.negSucc 0)) ak/\gY (.negSucc 0) (.ofNat 0)=true/\∃av,bg.storeCells ak h.n 0 [aC 0,J 0,.str [],.aP,.aP,aC 0,J 0,J 0]=some av/\Q .ret (aj [(4,af h.n)] av)):
  bp an Tryz.f32 call [] (aj [(0,af r),(1,aC id)] h) Q:=
 c3 [(8,.a1 (.is (.int .i64 (.negSucc 0)))),(1010,.t)] [4] [] H
theorem aih(r id:Nat)(h:ab)(H:∃aB ak,call (.fn 23) [af r,aC id] (ab.push h (aQ [aC 0,J 0,.str [],.aP,.aP,aC 0,J 0,J 0] 67))=.ret (J aB) ak/\¬aB<0/\∃aY bd,aq ak r 3=some (.slice aY 0 bd (.aL 8))/\aB<bd/\∃bj bC s1 v1 v2 bP cd cR,bg.loadCells ak aY (0+aB*8) 8=some [aC bj,J bC,.str s1,v1,v2,aC bP,J cd,J cR]/\g4 v1/\g4 v2/\∃av,bg.storeCells ak h.n 0 [aC bj,J bC,.str s1,v1,v2,aC bP,J cd,J cR]=some av/\Q .ret (aj [(4,af h.n)] av)):
  bp an Tryz.f32 call [] (aj [(0,af r),(1,aC id)] h) Q:=
 c3 [(1010,.f),(15,.a1 (.gH (.aL 8)))] [4] [] H
theorem aii(m p id a3:Nat)(h:ab)(H:∃bn ak,Y m (.fn 21) [af p] h=.ret (.bool bn) ak/\(bn=true->R (.ret (.aR [J 0,.str [],.aP,.aP,aC 0]) ak))/\(bn=false->aq ak p 3=some (.map a3)/\ho an ak 55 (.map a3) (aC id) false=some .aX/\R (.ret (.aR [J 0,.str [],.aP,.aP,aC 0]) ak))):
  R (Y (m+1) (.fn 31) [af p,aC id] h):=
 dB [(16,.a1 (.is (.map a3))),(18,.a1 (.is .aX))] [] Tryz.func31 H
theorem aij(m p id a3:Nat)(h:ab)(H:∃bn ak,Y m (.fn 21) [af p] h=.ret (.bool bn) ak/\(bn=true->R (.ret (.aR [J 0,.str [],.aP,.aP,aC 0]) ak))/\(bn=false->aq ak p 3=some (.map a3)/\∃aB,ho an ak 55 (.map a3) (aC id) false=some (af aB)/\aq ak p 3=some (.map a3)/\∃aY,ho an ak 55 (.map a3) (aC id) false=some (af aY)/\∃bd,aq (ak.room 30) aY 0=some (J bd)/\∃s1,aq (ak.room 30) aY 1=some (.str s1)/\∃v1,aq (ak.room 30) aY 5=some v1/\∃v2 av,Y m (.fn 38) [v1] (ak.room 30)=.ret v2 av/\∃b8,aq av aY 6=some b8/\∃v4 aD,Y m (.fn 55) [b8] av=.ret v4 aD/\∃bj,aq aD aY 4=some (aC bj)/\aq aD aY 0=some (J bd)/\aq av aY 0=some (J bd)/\aq aD aY 1=some (.str s1)/\aq av aY 1=some (.str s1)/\cr v1/\cr b8/\aq (ak.room 30) aY 6=some b8/\aq av aY 4=some (aC bj)/\aq (ak.room 30) aY 4=some (aC bj)/\cr v2/\cr v4/\R (.ret (.aR [J bd,.str s1,v2,v4,aC bj]) aD))):
  R (Y (m+1) (.fn 31) [af p,aC id] h):=
 dB [(1020,.f),(16,.a1 (.is (.map a3))),(18,.a1 .p),(24,.a1 (.is (.map a3))),(26,.a1 .p),(40,.a1 .o),(41,.a1 .o),(45,.a1 .o),(46,.a1 .o)] [] Tryz.func31 H
theorem aik(m b off N:Nat)(cp:ct)(h:ab)(H:∃v1 ak,dJ an (ab.push h (aQ [] 32)) 44 (some 44) (.slice h.n 0 0 (.exact 0)) (.slice b off N cp)=some (v1,ak)/\R (.ret v1 ak)):
  R (Y (m+1) (.fn 55) [.slice b off N cp] h):=
 dB [(7,.a1 .o)] [] Tryz.func55 H
theorem ail(m:Nat)(h:ab)(H:R (.ret .aP h)):
  R (Y (m+1) (.fn 55) [.aP] h):=
 dB [] [] Tryz.func55 H
theorem aim(m:Nat)(a b:ad)(h:ab)(H:∃aB,bV an h 63 a=some (J aB)/\∃aY,bV an h 63 b=some (J aY)/\(aB=aY->bp an Tryz.f34 (Y m) [1,1,0,1,0] (aj [(0,a),(1,b),(5,J 0)] h) (λb2 cc=>∃ak bt,b2=.exit 0/\cc=aj bt ak/\bY [] bt/\R (.ret (.bool true) ak)))/\(¬aB=aY->R (.ret (.bool false) h))):
  R (Y (m+1) (.fn 34) [a,b] h):=
 dB [(4000,.fj [0,1,5] [(.exit 0,[])])] [0,1] Tryz.func34 H
theorem ain(a b N i:Nat)(h:ab)(H:(i<N->i<N/\∃s1,aq (h.room 9) a (0+i*1)=some (.str s1)/\i<N/\∃s2,aq (h.room 9) b (0+i*1)=some (.str s2)/\((!c1 s1 s2)=true->Q .ret (aj [(0,.slice a 0 N (.aL 1)),(1,.slice b 0 N (.aL 1)),(5,J i)] (h.room 9)))/\((!c1 s1 s2)=false->i+1<9223372036854775808/\Q .nrm (aj [(0,.slice a 0 N (.aL 1)),(1,.slice b 0 N (.aL 1)),(5,J (i+1))] (h.room 9))))/\(¬i<N->Q (.exit 0) (aj [(0,.slice a 0 N (.aL 1)),(1,.slice b 0 N (.aL 1)),(5,J i)] h))):
  bp an Tryz.f34 call [1,1,0,1,0,0] (aj [(0,.slice a 0 N (.aL 1)),(1,.slice b 0 N (.aL 1)),(5,J i)] h) Q:=
 c3 [] [0,1,5] [] H
theorem aio(a b:ad)(h:ab)(H:∃aB,bV an h 63 a=some (J aB)/\¬0<aB/\Q (.exit 0) (aj [(0,a),(1,b),(5,J 0)] h)):
  bp an Tryz.f34 call [1,1,0,1,0,0] (aj [(0,a),(1,b),(5,J 0)] h) Q:=
 c3 [(1014,.f)] [0,1,5] [0,1] H
theorem aip(m:Nat)(a b:ad)(h:ab)(H:∃aB,bV an h 44 a=some (J aB)/\∃aY,bV an h 44 b=some (J aY)/\(aB=aY->bp an Tryz.f35 (Y m) [1,1,0,1,0] (aj [(0,a),(1,b),(5,J 0)] h) (λb2 cc=>∃ak bt,b2=.exit 0/\cc=aj bt ak/\bY [] bt/\R (.ret (.bool true) ak)))/\(¬aB=aY->R (.ret (.bool false) h))):
  R (Y (m+1) (.fn 35) [a,b] h):=
 dB [(4000,.fj [0,1,5] [(.exit 0,[])])] [0,1] Tryz.func35 H
theorem aiq(a b N i:Nat)(h:ab)(H:(i<N->i<N/\∃aB,aq (h.room 9) a (0+i*1)=some (aC aB)/\i<N/\∃aY,aq (h.room 9) b (0+i*1)=some (aC aY)/\(aB=aY->i+1<9223372036854775808/\Q .nrm (aj [(0,.slice a 0 N (.aL 1)),(1,.slice b 0 N (.aL 1)),(5,J (i+1))] (h.room 9)))/\(¬aB=aY->Q .ret (aj [(0,.slice a 0 N (.aL 1)),(1,.slice b 0 N (.aL 1)),(5,J i)] (h.room 9))))/\(¬i<N->Q (.exit 0) (aj [(0,.slice a 0 N (.aL 1)),(1,.slice b 0 N (.aL 1)),(5,J i)] h))):
  bp an Tryz.f35 call [1,1,0,1,0,0] (aj [(0,.slice a 0 N (.aL 1)),(1,.slice b 0 N (.aL 1)),(5,J i)] h) Q:=
 c3 [] [0,1,5] [] H
theorem air(a b:ad)(h:ab)(H:∃aB,bV an h 44 a=some (J aB)/\¬0<aB/\Q (.exit 0) (aj [(0,a),(1,b),(5,J 0)] h)):
  bp an Tryz.f35 call [1,1,0,1,0,0] (aj [(0,a),(1,b),(5,J 0)] h) Q:=
 c3 [(1014,.f)] [0,1,5] [0,1] H
theorem ais(m p r id:Nat)(h:ab)(H:∃ak,Y m (.fn 19) [af p,aC id] h=.ret (.aR [.aX,.bool false]) ak/\∃av,Y m (.fn 30) [af r,aC id] ak=.ret (.aR [.aX,.bool false]) av/\∃aB s1 v1 v2 aY aD,Y m (.fn 31) [af p,aC id] av=.ret (.aR [J aB,.str s1,v1,v2,aC aY]) aD/\∃bd bj s2 b8 v4 bC bP cd a4,Y m (.fn 32) [af r,aC id] aD=.ret (.agg [aC bd,J bj,.str s2,b8,v4,aC bC,J bP,J cd]) a4/\g4 b8/\g4 v4/\∃bk,bg.storeCells (ab.push a4 (aQ [aC 0,J 0,.str [],.aP,.aP,aC 0,J 0,J 0] 67)) a4.n 0 [aC bd,J bj,.str s2,b8,v4,aC bC,J bP,J cd]=some bk/\(fp false false=true->∃cQ,Y m (.fn 33) [.aX,.aX] (bk.room 57)=.ret (.bool true) cQ/\∃cR,aq cQ a4.n 1=some (J cR)/\aB=cR/\∃b1,aq cQ a4.n 2=some (.str b1)/\c1 s1 b1=true/\∃eC,aq cQ a4.n 3=some eC/\∃dO,Y m (.fn 34) [v1,eC] cQ=.ret (.bool true) dO/\∃v6,aq dO a4.n 4=some v6/\∃dW,Y m (.fn 35) [v2,v6] dO=.ret (.bool true) dW/\∃dD,aq dW a4.n 5=some (aC dD)/\aY=dD/\∃dX gJ,Y m (.fn 18) [af p,aC id] dW=.ret (J dX) gJ/\∃eE,aq gJ a4.n 6=some (J eE)/\dX=eE/\∃e9 iH,Y m (.fn 17) [af p] gJ=.ret (J e9) iH/\∃v7,aq iH r 3=some v7/\∃fw,bV an iH 38 v7=some (J fw)/\cr v1/\cr eC/\cr v2/\cr v6/\aq dW a4.n 6=some (J eE)/\cr v7/\aq gJ r 3=some v7/\R (.ret (.bool (bQ e9 fw)) iH))/\(fp false false=false->R (.ret (.bool false) (bk.room 57)))):
  R (Y (m+1) (.fn 14) [af p,af r,aC id] h):=
 dB [(17,.a1 (.eQ [.is .aX,.is (.bool false)])),(20,.a1 (.eQ [.is .aX,.is (.bool false)])),(23,.a1 (.eQ [.is .aX,.is (.bool false)])),(26,.a1 (.eQ [.is .aX,.is (.bool false)])),(29,.a1 (.eQ [.n .i64,.st,.o,.o,.n .u64])),(32,.a1 (.eQ [.n .i64,.st,.o,.o,.n .u64])),(40,.a1 (.kA [.n .u64,.n .i64,.st,.o,.o,.n .u64,.n .i64,.n .i64])),(47,.a1 (.is (.bool true))),(65,.a1 (.is (.bool true))),(71,.a1 (.is (.bool true))),(1044,.t),(1050,.t),(1056,.t),(1062,.t),(1068,.t),(1074,.t),(1080,.t),(1088,.t)] [] Tryz.func14 H
theorem ait(m p r id:Nat)(h:ab)(H:∃aB ak,Y m (.fn 19) [af p,aC id] h=.ret (.aR [af aB,.bool true]) ak/\∃aY av,Y m (.fn 30) [af r,aC id] ak=.ret (.aR [af aY,.bool true]) av/\∃bd s1 v1 v2 bj aD,Y m (.fn 31) [af p,aC id] av=.ret (.aR [J bd,.str s1,v1,v2,aC bj]) aD/\∃bC bP s2 b8 v4 cd cR dD a4,Y m (.fn 32) [af r,aC id] aD=.ret (.agg [aC bC,J bP,.str s2,b8,v4,aC cd,J cR,J dD]) a4/\g4 b8/\g4 v4/\∃bk,bg.storeCells (ab.push a4 (aQ [aC 0,J 0,.str [],.aP,.aP,aC 0,J 0,J 0] 67)) a4.n 0 [aC bC,J bP,.str s2,b8,v4,aC cd,J cR,J dD]=some bk/\(fp true true=true->∃cQ,Y m (.fn 33) [af aB,af aY] (bk.room 57)=.ret (.bool true) cQ/\∃dX,aq cQ a4.n 1=some (J dX)/\bd=dX/\∃b1,aq cQ a4.n 2=some (.str b1)/\c1 s1 b1=true/\∃eC,aq cQ a4.n 3=some eC/\∃dO,Y m (.fn 34) [v1,eC] cQ=.ret (.bool true) dO/\∃v6,aq dO a4.n 4=some v6/\∃dW,Y m (.fn 35) [v2,v6] dO=.ret (.bool true) dW/\∃eE,aq dW a4.n 5=some (aC eE)/\bj=eE/\∃e9 gJ,Y m (.fn 18) [af p,aC id] dW=.ret (J e9) gJ/\∃fw,aq gJ a4.n 6=some (J fw)/\e9=fw/\∃jo iH,Y m (.fn 17) [af p] gJ=.ret (J jo) iH/\∃v7,aq iH r 3=some v7/\∃kV,bV an iH 38 v7=some (J kV)/\cr v1/\cr eC/\cr v2/\cr v6/\aq dW a4.n 6=some (J fw)/\cr v7/\aq gJ r 3=some v7/\R (.ret (.bool (bQ jo kV)) iH))/\(fp true true=false->R (.ret (.bool false) (bk.room 57)))):
  R (Y (m+1) (.fn 14) [af p,af r,aC id] h):=
 dB [(17,.a1 (.eQ [.p,.is (.bool true)])),(20,.a1 (.eQ [.p,.is (.bool true)])),(23,.a1 (.eQ [.p,.is (.bool true)])),(26,.a1 (.eQ [.p,.is (.bool true)])),(29,.a1 (.eQ [.n .i64,.st,.o,.o,.n .u64])),(32,.a1 (.eQ [.n .i64,.st,.o,.o,.n .u64])),(40,.a1 (.kA [.n .u64,.n .i64,.st,.o,.o,.n .u64,.n .i64,.n .i64])),(47,.a1 (.is (.bool true))),(65,.a1 (.is (.bool true))),(71,.a1 (.is (.bool true))),(1044,.t),(1050,.t),(1056,.t),(1062,.t),(1068,.t),(1074,.t),(1080,.t),(1088,.t)] [] Tryz.func14 H
abbrev oE(h:ab)(d:Nat):Prop:=d<h.n
theorem ft.hW{h g:ab}{v:ad}{vs:List ad}(o:ft (oE h) h v vs)(x:Ext h.n h g):ft (oE g) g v vs:=o.bB λd ai=>⟨Nat.lt_of_lt_of_le ai x.n,x.get d ai⟩
theorem aiu(m:Nat){B:Nat}{h:ab}{v:ad}{l:List bb}(o:k0 B h v l)(aA:l.length<=90000):∃v2 av,Y (m+1) (.fn 38) [v] h=.ret v2 av/\ft (oE av) av v2 (l.map .str)/\Ext h.n h av:=by
 have CE:c5 h.n h v (l.map .str):=by
  rcases o with⟨a,b⟩|⟨q,cu,cU,dm,e0,ey⟩
  · exact .inl ⟨a,by rw[b];rfl⟩
  · refine .inr ⟨q,0,.aL 1,by rw[cu,List.length_map],ey,λj aO=>?_,by rw[List.length_map];exact cU,by simp⟩
    refine lb dm ?_
    rw[kn,Nat.zero_add,Nat.mul_one,List.getElem?_eq_getElem aO]
 rcases E_ m (Nat.le_refl _) CE (by rw[List.length_map];omega) (by simp[List.all_map,ad.de]) with⟨_,c6,c⟩|⟨I,b,ak,c,bn,bo,c9,fS⟩
 · exact⟨.aP,h,c,.inl ⟨rfl,c6⟩,Ext.refl _ _⟩
 · refine⟨_,ak,c,.inr ⟨b,rfl,bo,I,λi hi=>?_⟩,fS⟩
   exact c9.pf hi (by omega)
theorem aiv(m:Nat){B:Nat}{h:ab}{v:ad}{l:List Nat}(o:tu B h v l)(aA:l.length<=90000):∃v2 av,Y (m+1) (.fn 55) [v] h=.ret v2 av/\ft (oE av) av v2 (l.map jF)/\Ext h.n h av:=by
 rcases o with⟨rfl,rfl⟩|⟨q,rfl,cU,dm,e0,ey⟩
 · exact⟨.aP,h,ail m h (R:=λx=>x=.ret .aP h) rfl,.inl ⟨rfl,rfl⟩,Ext.refl _ _⟩
 · obtain⟨H,cy⟩:∃H,H=h.push (aQ [] 32):=⟨_,rfl⟩
   have dY:Ext h.n h H:=by rw[cy];exact Ext.push (Nat.le_refl _) _
   have lj:H.n=h.n+1:=by rw[cy];rfl
   have rE:0<(l.map jF).length:=by rw[List.length_map];exact cU
   have fG:fu H 1 (.slice q 0 (l.map jF).length (.aL 1))=some ((l.map jF).length,l.map jF):=c5.src (B:=0) (h:=H) (λi hi=>by
    refine lb ((dY.get q ey).trans dm) ?_
    rw[kn,Nat.zero_add,Nat.mul_one,List.getElem?_eq_getElem hi]) rE (by simp)
   obtain⟨i,hi⟩:=Option.isSome_iff_exists.1 (show(an.info? 32).isSome=true by kernel_rfl)
   have bJ:i.size=1:=by
    have:(an.info? 32).map (·.size)=some 1:=by kernel_rfl
    rw[hi] at this;simpa using this
   have n0:i.bytes<=1000:=by
    have:(an.info? 32).map (λi=>Nat.ble i.bytes 1000)=some true:=by kernel_rfl
    rw[hi] at this;exact Nat.le_of_ble_eq_true (by simpa using this)
   obtain⟨z,a7⟩:=Option.isSome_iff_exists.1 (show(eT an 32).isSome=true by kernel_rfl)
   have jc:z.cells.length=1:=by
    have:(eT an 32).map (λz=>z.cells.length)=some 1:=by kernel_rfl
    rw[a7] at this;simpa using this
   have ap:=Jp (U:=44) (E:=32) (a:=h.n) (by kernel_rfl) (by kernel_rfl) hi bJ n0 a7 jc fG rE (by rw[List.length_map];omega) (by simp[List.all_map,ad.de]) (by rw[cy];exact e7 rfl)
   rw[List.length_map] at ap
   refine⟨_,_,aik m q 0 l.length (.aL 1) h (R:=λx=>x=_) ⟨_,_,by rw[<-cy];exact ap,rfl⟩,.inr ⟨H.n,by rw[List.length_map],by simp[oE],rE,λi hi=>?_⟩,dY.trans (Nat.le_refl _) (Ext.push (by omega) _)⟩
   refine lb (e7 rfl) ?_
   rw[Nat.zero_add,Nat.mul_one,List.getElem?_eq_getElem hi]
theorem aiw(m:Nat){F:Nat->Prop}{h:ab}{p i:Nat}{s:bZ}(w:gK F h p s)(aH:∀e∈s.l,e.id≠i):Y (m+2) (.fn 31) [.ptr p 0,aC i] h=.ret (.aR [J 0,.str [],.aP,.aP,aC 0]) h:=by
 obtain⟨a3,b7,aM,bf,M,w,r⟩:=w
 have gB:∀x∈M,x.e.id≠i:=λx aa=>aH x.e (by rw[<-r.e];exact List.mem_map.2 ⟨x,aa,rfl⟩)
 exact aii (m+1) p i a3 h (R:=λy=>y=.ret (.aR [J 0,.str [],.aP,.aP,aC 0]) h) ⟨false,h,vq m w,λh=>(by cases h),λ_=>⟨aF w.st rfl,Co w.aG gB false,rfl⟩⟩
theorem aix(m:Nat){F:Nat->Prop}{h:ab}{p:Nat}{s:bZ}{q:b3}(w:gK F h p s)(nb:ju s.l)(aK:q∈s.l):∃v2 v4 g,Y (m+2) (.fn 31) [.ptr p 0,aC q.id] h=.ret (.aR [J q.k,.str q.nm,v2,v4,aC q.ret]) g/\ft (oE g) g v2 (q.ns.map .str)/\ft (oE g) g v4 (q.args.map jF)/\Ext h.n h g:=by
 obtain⟨a3,b7,aM,bf,M,w,r⟩:=w
 obtain⟨bn,bo⟩:=nb q aK
 obtain⟨x,aa,lp⟩:=List.mem_map.1 (r.e▸aK:q∈M.map Mem.e)
 subst lp
 have eo:=tt w.aG w.up aa false
 have ko:=w.ev x aa
 have sJ:=w.lo.2.2.2 x aa
 have hI:Ext h.n h (h.room 30):=Ext.room _ _ _
 have vm:(h.room 30).n=h.n+30:=rfl
 have xz:=w.ns x aa
 have J4:=w.az x aa
 obtain⟨v2,av,yh,ed,cJ⟩:=aiu m (h:=h.room 30) (bT.tn xz (by omega) λd _ ai=>hI.get d ai) (by omega)
 have aY:=cJ.n
 have lD:Ext h.n h av:=hI.trans hI.n cJ
 obtain⟨v4,aD,aiy,tq,dh⟩:=aiv m (h:=av) (bT.tn J4 lD.n λd _ ai=>lD.get d ai) (by omega)
 have bd:=dh.n
 have p7:Ext h.n h aD:=lD.trans lD.n dh
 have aE:=(lD.get _ sJ).trans ko
 have bH:=(p7.get _ sJ).trans ko
 exact⟨v2,v4,aD,aij (m+1) p x.e.id a3 h (R:=λy=>y=.ret (.aR [J x.e.k,.str x.e.nm,v2,v4,aC x.e.ret]) aD) ⟨false,h,vq m w,λh=>(by cases h),λ_=>⟨aF w.st rfl,x.b,eo,aF w.st rfl,x.b,eo,x.e.k,aF (h:=h.room 30) ko rfl,x.e.nm,aF (h:=h.room 30) ko rfl,x.bA,aF (h:=h.room 30) ko rfl,v2,av,yh,x.aU,aF aE rfl,v4,aD,aiy,x.e.ret,aF bH rfl,aF bH rfl,aF aE rfl,aF bH rfl,aF aE rfl,bT.sound xz,bT.sound J4,aF (h:=h.room 30) ko rfl,aF aE rfl,aF (h:=h.room 30) ko rfl,ed.sound,tq.sound,rfl⟩⟩,ed.hW dh,tq,p7⟩
theorem Tz{h:ab}{b:Nat}{cs:List ad}(aA:bg.loadCells h b 0 8=some cs):qI an (ej Tryz.f32) Tryz.f32 [(4,.ptr b 0)] h=some (.agg cs):=by
 have aG:Tryz.f32.results.toList=[ResultVar.cell 4 67]:=by kernel_rfl
 have aE:Nat.testBit (ej Tryz.f32) 4=true:=by kernel_rfl
 have bH:re an 67=some true:=by kernel_rfl
 have eu:ef an 67=some 8:=by kernel_rfl
 have eZ:eo 4 [(4,ad.ptr b 0)]=some (.ptr b 0):=rfl
 have hd:bg.fa an (ej Tryz.f32) [(4,ad.ptr b 0)] h (ResultVar.cell 4 67)=some (.agg cs):=by
  unfold bg.fa
  simp only[aE,bH,eu,eZ,aA]
 unfold qI
 rw[aG]
 simp only[qk,hd]
theorem aiz(m:Nat){R L:Nat->Prop}{h:ab}{r i:Nat}{ck:ad}{M:List fN}{s:bZ}(aT:dU R L h r ck M s)(aA:M.length<=90000)(aH:∀e∈s.l,e.id≠i):∃g,Y (m+2) (.fn 32) [.ptr r 0,aC i] h=.ret (.agg [aC 0,J 0,.str [],.aP,.aP,aC 0,J 0,J 0]) g/\Ext h.n h g:=by
 obtain⟨Z,km⟩:∃Z:List ad,Z=[aC 0,J 0,.str [],.aP,.aP,aC 0,J 0,J 0]:=⟨_,rfl⟩
 have bF:Ext h.n h (h.push (aQ Z 67)):=Ext.push (Nat.le_refl _) _
 refine wz (R:=λy=>∃g,y=.ret (.agg _) g/\Ext h.n h g) (intr:=ea) (n:=m+1) (args:=[.ptr r 0,aC i]) Tryz.func32 (by kernel_rfl) (by kernel_rfl) (by kernel_rfl) (Q:=λe st=>e=.ret/\st=⟨[(4,.ptr h.n 0)],[],.none,(h.push (aQ Z 67)).set h.n (some (aQ Z 67))⟩) (aif _ r i h ?_) ?_
 · rw[<-km]
   exact⟨_,K7 m (aT.hW bF) (aT.Lz aH) aA,rfl,_,by rw[km];exact eV (e7 rfl) rfl rfl,rfl,by rw[km]⟩
 · rintro e st ⟨rfl,rfl⟩
   exact .inl ⟨.inl rfl,rfl,_,Tz (lU (eK rfl) (by rw[km];rfl)),_,rfl,Ext.hQ (Nat.le_refl _) bF⟩
theorem aiA(m:Nat){R L:Nat->Prop}{h:ab}{r:Nat}{ck:ad}{M:List fN}{s:bZ}{q:b3}(aT:dU R L h r ck M s)(al:eg s)(aA:M.length<=90000)(aK:q∈s.l):∃x∈M,x.e=q/\∃g,Y (m+2) (.fn 32) [.ptr r 0,aC q.id] h=.ret (.agg (eX x)) g/\Ext h.n h g:=by
 obtain⟨wc,tF,C2,tB⟩:=aT.place al aK
 obtain⟨x,aa⟩:∃x,x=M[wc]:=⟨_,rfl⟩
 refine⟨x,by rw[aa];exact List.getElem_mem tF,by rw[aa];exact C2,?_⟩
 obtain⟨Z,km⟩:∃Z:List ad,Z=[aC 0,J 0,.str [],.aP,.aP,aC 0,J 0,J 0]:=⟨_,rfl⟩
 have bF:Ext h.n h (h.push (aQ Z 67)):=Ext.push (Nat.le_refl _) _
 have c4:=aT.hW bF
 obtain⟨qO,DR,_,vK⟩:=c4.cells tF
 rw[<-aa] at vK
 have sl:=F1 m c4 tF (by rw[C2]) tB aA
 refine wz (R:=λy=>∃g,y=.ret (.agg (eX x)) g/\Ext h.n h g) (intr:=ea) (n:=m+1) (args:=[.ptr r 0,aC q.id]) Tryz.func32 (by kernel_rfl) (by kernel_rfl) (by kernel_rfl) (Q:=λe st=>e=.ret/\st=⟨[(4,.ptr h.n 0)],[],.none,(h.push (aQ Z 67)).set h.n (some (aQ (eX x) 67))⟩) (aih _ r q.id h ?_) ?_
 · rw[<-km]
   exact⟨wc,_,sl,by omega,qO,M.length,by rw[<-DR];exact aF c4.st rfl,tF,_,_,_,_,_,_,_,_,vK,x.aH,x.aV,_,by rw[km];exact eV (e7 rfl) rfl (LA x _ rfl),rfl,by rw[km]⟩
 · rintro e st ⟨rfl,rfl⟩
   exact .inl ⟨.inl rfl,rfl,_,Tz (lU (eK rfl) rfl),_,rfl,Ext.hQ (Nat.le_refl _) bF⟩
theorem TA(m:Nat){h:ab}{a b:ad}{l:List bb}(oa:ft (oE h) h a (l.map .str))(ob:ft (oE h) h b (l.map .str))(hlen:l.length<=90000):∃g,Y (m+1) (.fn 34) [a,b] h=.ret (.bool true) g/\Ext h.n h g:=by
 have p6:∀{v:ad},ft (oE h) h v (l.map .str)->bV an h 63 v=some (J l.length):=λo=>by
  have:=o.len (T:=63) (el:=9) (by kernel_rfl) h
  rwa [List.length_map] at this
 refine aim m a b h (R:=λx=>∃g,x=.ret (.bool true) g/\Ext h.n h g) ⟨l.length,p6 oa,l.length,p6 ob,λ_=>?_,λh=>absurd rfl h⟩
 rcases Nat.eq_zero_or_pos l.length with h0|h0
 · have aA:=p6 oa
   rw[h0] at aA
   refine e8 (λk st=>∃Γ,st=aks Γ h/\bY [(0,a),(1,b),(5,J 0)] Γ) ?_ 0 _ (by omega) ⟨_,rfl,rfl,rfl,rfl,trivial⟩
   rintro k st ⟨Γ,rfl,cn⟩
   exact ei (aio _ a b h ⟨0,aA,by omega,h,_,rfl,rfl,trivial,h,rfl,Ext.refl _ _⟩) cn
 · obtain⟨xJ,hO,LC,qw⟩:=oa.at (i:=0) h0
   obtain⟨xK,l2,LD,lQ⟩:=ob.at (i:=0) h0
   subst hO;subst l2
   refine e8 (λk st=>∃i g Γ,st=aks Γ g/\bY [(0,.slice xJ 0 l.length (.aL 1)),(1,.slice xK 0 l.length (.aL 1)),(5,J i)] Γ/\l.length-i=k/\i<=l.length/\Ext h.n h g) ?_ l.length _ (by omega) ⟨0,h,_,rfl,⟨rfl,rfl,rfl,trivial⟩,by omega,by omega,Ext.refl _ _⟩
   rintro k st ⟨i,g,Γ,rfl,cn,ay,hi,x⟩
   have hI:Ext h.n h (g.room 9):=x.trans x.n (Ext.room _ _ _)
   refine ei (ain _ xJ xK l.length i g ⟨λi1=>⟨i1,l[i],(q1 (hI.get xJ LC)).trans (qw i i1),i1,l[i],(q1 (hI.get xK LD)).trans (lQ i i1),λe=>?_,λ_=>⟨by omega,_,(by show _<k;omega),i+1,g.room 9,_,rfl,⟨rfl,rfl,rfl,trivial⟩,rfl,by omega,hI⟩⟩,λi1=>⟨g,_,rfl,rfl,trivial,g,rfl,x⟩⟩) cn
   rw[yx] at e;cases e
theorem TB(m:Nat){h:ab}{a b:ad}{l:List Nat}(oa:ft (oE h) h a (l.map jF))(ob:ft (oE h) h b (l.map jF))(hlen:l.length<=90000):∃g,Y (m+1) (.fn 35) [a,b] h=.ret (.bool true) g/\Ext h.n h g:=by
 have p6:∀{v:ad},ft (oE h) h v (l.map jF)->bV an h 44 v=some (J l.length):=λo=>by
  have:=o.len (T:=44) (el:=32) (by kernel_rfl) h
  rwa [List.length_map] at this
 refine aip m a b h (R:=λx=>∃g,x=.ret (.bool true) g/\Ext h.n h g) ⟨l.length,p6 oa,l.length,p6 ob,λ_=>?_,λh=>absurd rfl h⟩
 rcases Nat.eq_zero_or_pos l.length with h0|h0
 · have aA:=p6 oa
   rw[h0] at aA
   refine e8 (λk st=>∃Γ,st=aks Γ h/\bY [(0,a),(1,b),(5,J 0)] Γ) ?_ 0 _ (by omega) ⟨_,rfl,rfl,rfl,rfl,trivial⟩
   rintro k st ⟨Γ,rfl,cn⟩
   exact ei (air _ a b h ⟨0,aA,by omega,h,_,rfl,rfl,trivial,h,rfl,Ext.refl _ _⟩) cn
 · obtain⟨xJ,hO,LC,qw⟩:=oa.at (i:=0) h0
   obtain⟨xK,l2,LD,lQ⟩:=ob.at (i:=0) h0
   subst hO;subst l2
   refine e8 (λk st=>∃i g Γ,st=aks Γ g/\bY [(0,.slice xJ 0 l.length (.aL 1)),(1,.slice xK 0 l.length (.aL 1)),(5,J i)] Γ/\l.length-i=k/\i<=l.length/\Ext h.n h g) ?_ l.length _ (by omega) ⟨0,h,_,rfl,⟨rfl,rfl,rfl,trivial⟩,by omega,by omega,Ext.refl _ _⟩
   rintro k st ⟨i,g,Γ,rfl,cn,ay,hi,x⟩
   have hI:Ext h.n h (g.room 9):=x.trans x.n (Ext.room _ _ _)
   exact ei (aiq _ xJ xK l.length i g ⟨λi1=>⟨i1,l[i],(q1 (hI.get xJ LC)).trans (qw i i1),i1,l[i],(q1 (hI.get xK LD)).trans (lQ i i1),λ_=>⟨by omega,_,(by show _<k;omega),i+1,g.room 9,_,rfl,⟨rfl,rfl,rfl,trivial⟩,rfl,by omega,hI⟩,λe=>absurd rfl e⟩,λi1=>⟨g,_,rfl,rfl,trivial,g,rfl,x⟩⟩) cn
theorem aiB{s:bZ}{i:Nat}(h:nE i s.l=none):zM i s=0:=by unfold zM;rw[h]
theorem aiC{s:bZ}{i:Nat}{q:b3}(h:nE i s.l=some q):zM i s=q.pins:=by unfold zM;rw[h]
theorem aiD(a:Int):fc a a=true:=by simp[fc]
theorem aiE:qS none none=true:=by decide
theorem LF(m:Nat)(hm:300<=m){F R L:Nat->Prop}{h:ab}{p r id K:Nat}{ck:ad}{M:List fN}{s:bZ}(w:gK F h p s)(aT:dU R L h r ck M s)(f:Fit K s)(dg:K<=10000)(nb:ju s.l)(nu:mE s):∃g,Y (m+1) (.fn 14) [.ptr p 0,.ptr r 0,aC id] h=.ret (.bool true) g/\Ext h.n h g:=by
 obtain⟨m,rfl⟩:∃k,m=k+200:=⟨m-200,by omega⟩
 have aA:=aT.n
 have hD:=f.ok.len
 have tv:=f.kB
 have fin:∀{G:ab} {v7:ad} {X:bE->Prop},X (.ret (.bool true) G)->X (.ret (.bool (fc (Int.ofNat s.l.length) (Int.ofNat M.length))) G):=λ{G v7 X} aa=>by
  rw[aA,aiD];exact aa
 cases hf:nE id s.l with
 |none=>
  have aH:=Tw hf
  have t1:=SU (m+198) w aH
  have t2:=ah7 (m+198) aT (by omega) aH
  have t3:=aiw (m+198) w aH
  obtain⟨a4,t4,e1⟩:=aiz (m+198) aT (by omega) aH
  have bj:=e1.n
  obtain⟨Z,km⟩:∃Z:List ad,Z=[aC 0,J 0,.str [],.aP,.aP,aC 0,J 0,J 0]:=⟨_,rfl⟩
  obtain⟨bk,eZ⟩:∃g,g=(a4.push (aQ Z 67)).set a4.n (some (aQ Z 67)):=⟨_,rfl⟩
  have bC:bk.n=a4.n+1:=by rw[eZ];rfl
  have m1:Ext h.n h bk:=by rw[eZ];exact Ext.hQ e1.n (e1.trans e1.n (Ext.push (Nat.le_refl _) _))
  have l0:bk.get a4.n=some (aQ Z 67):=by rw[eZ];exact eK rfl
  have Gc:Ext bk.n bk (bk.room 57):=Ext.room _ _ _
  have aiF:(bk.room 57).n=bk.n+57:=rfl
  obtain⟨cQ,t6,vu⟩:=P1 (oa:=none) (ob:=none) (B:=(bk.room 57).n) (h:=bk.room 57) (v:=.aX) (w:=.aX) (m+199) (by simp[dk]) (by simp[dk]) (λt e=>(by cases e)) (by simp[dk]) rfl rfl
  rw[aiE] at t6
  have bP:=vu.n
  have kf:cQ.get a4.n=some (aQ Z 67):=(vu.get _ (by omega)).trans l0
  have pc:Ext h.n h cQ:=(m1.trans m1.n Gc).trans (by omega) vu
  obtain⟨dO,t7,vw⟩:=TA (m+199) (h:=cQ) (a:=.aP) (b:=.aP) (l:=[]) (.inl ⟨rfl,rfl⟩) (.inl ⟨rfl,rfl⟩) (by simp)
  have cd:=vw.n
  obtain⟨dW,t8,tp⟩:=TB (m+199) (h:=dO) (a:=.aP) (b:=.aP) (l:=[]) (.inl ⟨rfl,rfl⟩) (.inl ⟨rfl,rfl⟩) (by simp)
  have cR:=tp.n
  have p5:=(vw.get _ (by omega)).trans kf
  have nC:=(tp.get _ (by omega)).trans p5
  have q8:Ext h.n h dW:=(pc.trans pc.n vw).trans (by have:=pc.n;omega) tp
  have xw:=w.ext q8
  have tG:=aT.hW q8
  have t9:=SS (m+198) (id:=id) xw
  rw[aiB hf] at t9
  have t10:=SN (m+198) xw
  rw[km] at kf p5 nC
  exact⟨dW,ais (m+200) p r id h (R:=λy=>y=.ret (.bool true) dW) ⟨h,t1,h,t2,0,[],.aP,.aP,0,h,t3,0,0,[],.aP,.aP,0,0,0,a4,t4,rfl,rfl,bk,by rw[eZ,km];exact eV (e7 rfl) rfl rfl,λ_=>⟨cQ,t6,0,aF kf rfl,rfl,[],aF kf rfl,rfl,.aP,aF kf rfl,dO,t7,.aP,aF p5 rfl,dW,t8,0,aF nC rfl,rfl,0,dW,t9,0,aF nC rfl,rfl,s.l.length,dW,t10,ck,aF tG.st rfl,M.length,tG.len dW,rfl,rfl,rfl,rfl,aF nC rfl,bT.sound tG.row,aF tG.st rfl,fin (v7:=ck) (X:=λy=>y=.ret (.bool true) dW) rfl⟩,λh=>(by cases h)⟩,q8⟩
 |some q=>
  obtain⟨aK,my⟩:=B5 hf
  subst my
  obtain⟨t,q9,aiG⟩:=nu q aK
  obtain⟨dS,gb⟩:=Ca aiG
  obtain⟨gO,ak,t1,bF,jP⟩:=KZ (sz t) t (Nat.le_refl _) dS (by omega) (m+200) (by omega) F h p q.id s w f.ok q9
  have aB:=bF.n
  obtain⟨j9,av,t2,cJ,jQ⟩:=LB (sz t) t (Nat.le_refl _) dS (by omega) (m+200) (by omega) R L ak r q.id ck M s (aT.hW bF) f.ok (by omega) q9
  have aY:=cJ.n
  have lD:Ext h.n h av:=bF.trans aB cJ
  obtain⟨v1,v2,aD,t3,dy,ed,dh⟩:=aix (m+198) (w.ext lD) nb aK
  have bd:=dh.n
  have p7:Ext h.n h aD:=lD.trans lD.n dh
  obtain⟨x,aa,lp,a4,t4,e1⟩:=aiA (m+198) (aT.hW p7) f.ok (by omega) aK
  subst lp
  have bj:=e1.n
  have LG:Ext h.n h a4:=p7.trans p7.n e1
  obtain⟨bk,eZ⟩:∃g,g=(a4.push (aQ [aC 0,J 0,.str [],.aP,.aP,aC 0,J 0,J 0] 67)).set a4.n (some (aQ (eX x) 67)):=⟨_,rfl⟩
  have bC:bk.n=a4.n+1:=by rw[eZ];rfl
  have m1:Ext a4.n a4 bk:=by rw[eZ];exact Ext.hQ (Nat.le_refl _) (Ext.push (Nat.le_refl _) _)
  have l0:bk.get a4.n=some (aQ (eX x) 67):=by rw[eZ];exact eK rfl
  have Gc:Ext bk.n bk (bk.room 57):=Ext.room _ _ _
  have aiF:(bk.room 57).n=bk.n+57:=rfl
  have TC:Ext h.n h (bk.room 57):=(LG.trans LG.n m1).trans (by have:=LG.n;omega) Gc
  have LH:Ext aD.n aD (bk.room 57):=(e1.trans e1.n m1).trans (by omega) Gc
  have TD:Ext av.n av (bk.room 57):=dh.trans dh.n LH
  have aiH:Ext ak.n ak (bk.room 57):=cJ.trans cJ.n TD
  have bG:d_ (bk.room 57).n (bk.room 57) (some t) (.ptr gO 0):=ew.at (F:=lL h.n ak.n) (λd ai=>by have:=ai.2;omega) _ _ (ew.bB (λd ai=>⟨ai,aiH.get d ai.2⟩) _ _ jP)
  have b0:d_ (bk.room 57).n (bk.room 57) (some t) (.ptr j9 0):=ew.at (F:=lL ak.n av.n) (λd ai=>by have:=ai.2;omega) _ _ (ew.bB (λd ai=>⟨ai,TD.get d ai.2⟩) _ _ jQ)
  have fm:dk (some t)=sz t:=jk t
  obtain⟨cQ,t6,vu⟩:=P1 (oa:=some t) (ob:=some t) (B:=(bk.room 57).n) (h:=bk.room 57) (m+199) (by omega) (by omega) (λt e=>by cases e;omega) (by omega) bG b0
  rw[(ag0 dS dS).2 rfl] at t6
  have bP:=vu.n
  have pc:Ext h.n h cQ:=TC.trans TC.n vu
  have kf:cQ.get a4.n=some (aQ (eX x) 67):=(vu.get _ (by omega)).trans l0
  have LI:Ext aD.n aD cQ:=LH.trans LH.n vu
  have C0:=aT.hW pc
  have C1:∀{g:ab},dU R L g r ck M s->∀{v:ad} {vs:List ad},ft L g v vs->ft (oE g) g v vs:=λ{g} c4 {v} {vs} o=>o.mono λd ai=>c4.up d (c4.j2 d ai).1
  obtain⟨bn,bo⟩:=nb x.e aK
  obtain⟨dO,t7,vw⟩:=TA (m+199) (h:=cQ) (dy.hW LI) (C1 C0 (C0.ns x aa)) (by omega)
  have cd:=vw.n
  have LJ:Ext h.n h dO:=pc.trans pc.n vw
  have LK:=aT.hW LJ
  obtain⟨dW,t8,tp⟩:=TB (m+199) (h:=dO) (ed.hW (LI.trans LI.n vw)) (C1 LK (LK.az x aa)) (by omega)
  have cR:=tp.n
  have p5:=(vw.get _ (by omega)).trans kf
  have nC:=(tp.get _ (by omega)).trans p5
  have q8:Ext h.n h dW:=LJ.trans LJ.n tp
  have xw:=w.ext q8
  have tG:=aT.hW q8
  have t9:=SS (m+198) (id:=x.e.id) xw
  rw[aiC hf] at t9
  have t10:=SN (m+198) xw
  exact⟨dW,ait (m+200) p r x.e.id h (R:=λy=>y=.ret (.bool true) dW) ⟨gO,ak,t1,j9,av,t2,x.e.k,x.e.nm,v1,v2,x.e.ret,aD,t3,_,_,_,_,_,_,_,_,a4,t4,x.aH,x.aV,bk,by rw[eZ];exact eV (e7 rfl) rfl (LA x _ rfl),λ_=>⟨cQ,t6,x.e.k,aF kf rfl,rfl,x.e.nm,aF kf rfl,yx _,x.bA,aF kf rfl,dO,t7,x.aU,aF p5 rfl,dW,t8,x.e.ret,aF nC rfl,rfl,x.e.pins,dW,t9,x.e.pins,aF nC rfl,rfl,s.l.length,dW,t10,ck,aF tG.st rfl,M.length,tG.len dW,dy.sound,(C0.ns x aa).sound,ed.sound,(LK.az x aa).sound,aF nC rfl,bT.sound tG.row,aF tG.st rfl,fin (v7:=ck) (X:=λy=>y=.ret (.bool true) dW) rfl⟩,λh=>(by cases h)⟩,q8⟩
theorem aiI(m:Nat)(v:ad)(z:Int)(h:ab)(H:∃aB ak,Y m (.fn 7) [.int .i64 z] h=.ret (af aB) ak/\∃aY av,Y m (.fn 8) [.int .i64 z] ak=.ret (af aY) av/\bp an Tryz.f3 (Y m) [1,1,0,1,0] (aj [(0,v),(5,af aB),(6,af aY),(7,J 0)] av) (λb2 cc=>∃aD bt,b2=.exit 0/\cc=aj bt aD/\bY [] bt/\∃bn a4,Y m (.fn 15) [] aD=.ret (.bool bn) a4/\R (.ret (.bool bn) a4))):
  R (Y (m+1) (.fn 3) [v,.int .i64 z] h):=
 dB [(4000,.fj [0,5,6,7] [(.exit 0,[])])] [0] Tryz.func3 H
theorem aiJ(b off N p r i:Nat)(cp:ct)(h:ab)(H:(i<N->(i<50->i<N/\∃aB,aq h b (off+i*2+0)=some (b4 aB)/\(0<aB->i<N/\∃aY,aq (h.room 17) b (off+i*2+0)=some (b4 aY)/\∃bd,hp an 5 32 (b4 aY) (h.room 17)=ia.val (aC bd) (h.room 17)/\∃bj ak,call (.fn 9) [af p,aC bd] (h.room 17)=.ret (J bj) ak/\i<N/\∃bC,aq ak b (off+i*2+0)=some (b4 bC)/\∃bP,hp an 5 32 (b4 bC) ak=ia.val (aC bP) ak/\∃cd av,call (.fn 10) [af r,aC bP] ak=.ret (J cd) av/\aq (h.room 17) b (off+i*2+0)=some (b4 bC)/\hp an 5 32 (b4 bC) (h.room 17)=ia.val (aC bP) (h.room 17)/\(bj=cd->i<N/\∃cR,aq av b (off+i*2+0)=some (b4 cR)/\∃dD,hp an 5 32 (b4 cR) av=ia.val (aC dD) av/\∃aD,call (.fn 14) [af p,af r,aC dD] av=.ret (.bool true) aD/\∃dX,aq aD r 1=some (aC dX)/\∃a4,call (.fn 14) [af p,af r,aC dX] aD=.ret (.bool true) a4/\∃eE,hp an 3 32 (J i) a4=ia.val (aC eE) a4/\∃bk,call (.fn 14) [af p,af r,aC eE] a4=.ret (.bool true) bk/\i+1<9223372036854775808/\Q .nrm (aj [(0,.slice b off N cp),(5,af p),(6,af r),(7,J (i+1))] bk))/\(¬bj=cd->Q .ret (aj [(0,.slice b off N cp),(5,af p),(6,af r),(7,J i)] av)))/\(¬0<aB->i<N/\∃v1,aq h b (off+i*2+1)=some v1/\∃e9 cQ,call (.fn 12) [v1] h=.ret (af e9) cQ/\∃fw jo dO,call (.fn 11) [af p,af e9] cQ=.ret (.aR [aC fw,J jo]) dO/\i<N/\∃v2,aq dO b (off+i*2+1)=some v2/\∃kV dW,call (.fn 12) [v2] dO=.ret (af kV) dW/\∃CQ zO gJ,call (.fn 13) [af r,af kV] dW=.ret (.aR [aC CQ,J zO]) gJ/\fw=CQ/\(jo=zO->i<N/\∃CR,aq gJ b (off+i*2+0)=some (b4 CR)/\∃CS,hp an 5 32 (b4 CR) gJ=ia.val (aC CS) gJ/\∃iH,call (.fn 14) [af p,af r,aC CS] gJ=.ret (.bool true) iH/\∃TE,aq iH r 1=some (aC TE)/\∃r7,call (.fn 14) [af p,af r,aC TE] iH=.ret (.bool true) r7/\∃TF,hp an 3 32 (J i) r7=ia.val (aC TF) r7/\∃BV,call (.fn 14) [af p,af r,aC TF] r7=.ret (.bool true) BV/\i+1<9223372036854775808/\Q .nrm (aj [(0,.slice b off N cp),(5,af p),(6,af r),(7,J (i+1))] BV))/\(¬jo=zO->Q .ret (aj [(0,.slice b off N cp),(5,af p),(6,af r),(7,J i)] gJ))))/\(¬i<50->Q (.exit 0) (aj [(0,.slice b off N cp),(5,af p),(6,af r),(7,J i)] h)))/\(¬i<N->Q (.exit 0) (aj [(0,.slice b off N cp),(5,af p),(6,af r),(7,J i)] h))):
  bp an Tryz.f3 call [1,1,0,1,0,0] (aj [(0,.slice b off N cp),(5,af p),(6,af r),(7,J i)] h) Q:=
 c3 [(55,.a1 .o),(66,.a1 .o),(1075,.f),(87,.a1 (.is (.bool true))),(96,.a1 (.is (.bool true))),(104,.a1 (.is (.bool true))),(1090,.f),(1100,.f)] [0,5,6,7] [] H
theorem aiK(p r i:Nat)(v:ad)(h:ab)(H:∃aB,bV an h 22 v=some (J aB)/\¬i<aB/\Q (.exit 0) (aj [(0,v),(5,af p),(6,af r),(7,J i)] h)):
  bp an Tryz.f3 call [1,1,0,1,0,0] (aj [(0,v),(5,af p),(6,af r),(7,J i)] h) Q:=
 c3 [(1021,.f)] [0,5,6,7] [0] H
theorem Gd(n:Nat)(aH:n<256)(h:ab):hp an 5 32 (b4 n) h=.val (aC n) h:=Ev (ka:=.u8) (by kernel_rfl) (by kernel_rfl) (Eu n (by omega))
theorem aiL(n:Nat)(aH:n<256)(h:ab):hp an 3 32 (J n) h=.val (aC n) h:=Ev (ka:=.i64) (by kernel_rfl) (by kernel_rfl) (Eu n (by omega))
def Ge(B:Nat)(h:ab)(v:ad)(ls:List (UInt8×bb)):Prop:=(v=.aP/\ls=[])\/∃b off cp,v=.slice b off ls.length cp/\b<B/\∀i (hi:i<ls.length),aq h b (off+i*2+0)=some (b4 ls[i].1.toNat)/\∃w,aq h b (off+i*2+1)=some w/\pn B h w ls[i].2
theorem Fit.le{K zL:Nat}{s:bZ}(f:Fit K s)(h:K<=zL):Fit zL s:=⟨f.ok,f.nm,Nat.le_trans f.kB h,Nat.le_trans f.qa h,λe he=>Nat.le_trans (f.pins e he) h⟩
structure tH(p r i:Nat)(h y:ab)(s:bZ)(R L:Nat->Prop)(ck:ad)(M:List fN):Prop where
 st:gK (λd=>d<h.n\/R d) y p s
 ref:dU R L y r ck M s
 lo:∀d,R d->h.n<=d
 hW:Ext h.n h y
 up:h.n<=y.n
 oF:Fit (61*i) s
 nb:ju s.l
 vx:mE s
theorem tH.ext{p r i:Nat}{h y g:ab}{s:bZ}{R L:Nat->Prop}{ck:ad}{M:List fN}(aT:tH p r i h y s R L ck M)(x:Ext y.n y g):tH p r i h g s R L ck M:=
 ⟨aT.st.ext x,aT.ref.hW x,aT.lo,⟨by have:=aT.up;have:=x.n;omega,λd ai=>(x.get d (by have:=aT.up;omega)).trans (aT.hW.get d ai)⟩,by have:=aT.up;have:=x.n;omega,aT.oF,aT.nb,aT.vx⟩
theorem TG{p r i:Nat}{h y ak av:ab}{s s':bZ}{R L cC eF:Nat->Prop}{ck fT:ad}{M fx:List fN}(aT:tH p r i h y s R L ck M)(w:gK (λd=>d<h.n\/R d) ak p s')(k:cj (λd=>d<h.n\/R d) y ak)(a8:dU cC eF av r fT fx s')(a2:∀d,d<ak.n->¬R d->av.get d=ak.get d)(bX:∀d,cC d->R d\/ak.n<=d)(eG:ak.n<=av.n)(oF:Fit (61*(i+1)) s')(nb:ju s'.l)(vx:mE s'):tH p r (i+1) h av s' cC eF fT fx:=by
 have qY:=aT.up
 have ay:=k.n
 refine⟨w.move eG (λd ai hf _=>a2 d ai λao=>hf (.inr ao)) (λd ai hf=>?_),a8,λd ai=>?_,⟨by omega,λd ai=>?_⟩,by omega,oF,nb,vx⟩
 · rcases hf with hf|hf
   · exact .inl (.inl hf)
   · rcases bX d hf with aw|aw
     · exact .inl (.inr aw)
     · omega
 · rcases bX d ai with aw|aw
   · exact aT.lo d aw
   · omega
 · exact(a2 d (by omega) λao=>by have:=aT.lo d ao;omega).trans ((k.get d (by omega) (.inl ai)).trans (aT.hW.get d ai))
theorem aiM(m:Nat)(hm:200000<=m){h:ab}{v:ad}{z:Int}{ls:List (UInt8×bb)}(aI:Ge h.n h v ls):∃g,Y (m+9) (.fn 3) [v,.int .i64 z] h=.ret (.bool true) g:=by
 obtain⟨TH,p,c0,h3,nz⟩:=agA (m+7) (F:=λd=>d<h.n) (h:=h) z λb ag=>ag
 have rX:=nz.n
 obtain⟨ak,r,R,L,ck,M,aM,sk,bF,TI⟩:=ahX (m+7) (h:=TH) z
 have aB:=bF.n
 have f0:Fit (61*0) ⟨z.toNat,0,0,[]⟩:=⟨⟨.nil,λe he=>(by cases he),λe he=>(by cases he),λa aV=>(by cases aV),.nil⟩,λe he=>(by cases he),Nat.le_refl _,Nat.le_refl _,λe he=>(by cases he)⟩
 have aiN:tH p r 0 h ak ⟨z.toNat,0,0,[]⟩ R L ck M:=⟨h3.move aB (λd ai _ _=>bF.get d ai) (λd ai hf=>by
  rcases hf with hf|hf
  · exact .inl hf
  · have:=TI d hf;omega),sk,λd ai=>Nat.le_trans rX (TI d ai),⟨by omega,λd ai=>(bF.get d (by omega)).trans (nz.get d ai)⟩,by omega,f0,λe he=>(by cases he),λe he=>(by cases he)⟩
 refine aiI (m+8) v z h (R:=λx=>∃g,x=.ret (.bool true) g) ⟨p,TH,c0,r,ak,aM,?_⟩
 refine e8 (λk st=>∃i y s R L ck M Γ,st=aks Γ y/\bY [(0,v),(5,.ptr p 0),(6,.ptr r 0),(7,J i)] Γ/\50-i=k/\i<=50/\tH p r i h y s R L ck M) ?_ 50 _ (by omega) ⟨0,ak,_,R,L,ck,M,_,rfl,⟨rfl,rfl,rfl,rfl,trivial⟩,by omega,by omega,aiN⟩
 rintro k st ⟨i,y,s,R,L,ck,M,Γ,rfl,cn,ay,hi,aT⟩
 have qY:=aT.up
 rcases aI with⟨rfl,rfl⟩|⟨b,off,cp,rfl,ag,gf⟩
 · exact ei (aiK _ p r i .aP y ⟨0,rfl,by omega,y,_,rfl,rfl,trivial,true,y,KV _ y,y,rfl⟩) cn
 refine ei (aiJ _ b off _ p r i cp y ⟨λi1=>⟨λi2=>?_,λi2=>⟨y,_,rfl,rfl,trivial,true,y,KV _ y,y,rfl⟩⟩,λi1=>⟨y,_,rfl,rfl,trivial,true,y,KV _ y,y,rfl⟩⟩) cn
 obtain⟨rv,u,bt,bw⟩:=gf i i1
 have gF:=UInt8.toNat_lt ls[i].1
 obtain⟨n,aH⟩:∃n,n=ls[i].1.toNat:=⟨_,rfl⟩
 rw[<-aH] at rv gF
 have tail:∀(g:ab) (s':bZ) (cC eF:Nat->Prop) (fT:ad) (fx:List fN),tH p r (i+1) h g s' cC eF fT fx->∃cR,aq g b (off+i*2+0)=some (b4 cR)/\∃dD,hp an 5 32 (b4 cR) g=ia.val (aC dD) g/\
   ∃aD,Y (m+8) (.fn 14) [.ptr p 0,.ptr r 0,aC dD] g=.ret (.bool true) aD/\∃dX,aq aD r (0+1)=some (aC dX)/\
   ∃a4,Y (m+8) (.fn 14) [.ptr p 0,.ptr r 0,aC dX] aD=.ret (.bool true) a4/\∃eE,hp an 3 32 (J i) a4=ia.val (aC eE) a4/\
   ∃bk,Y (m+8) (.fn 14) [.ptr p 0,.ptr r 0,aC eE] a4=.ret (.bool true) bk/\i+1<9223372036854775808/\
   ∃j,j<k/\∃i2 jQ s2 fq jv hJ M2 Γ2,bL.mk [(0,.slice b off ls.length cp),(5,.ptr p 0),(6,.ptr r 0),(7,J (i+1))] [] .none bk=aks Γ2 jQ/\bY [(0,.slice b off ls.length cp),(5,.ptr p 0),(6,.ptr r 0),(7,J i2)] Γ2/\50-i2=j/\i2<=50/\tH p r i2 h jQ s2 fq jv hJ M2:=by
  intro g s' cC eF fT fx c4
  have dg:61*(i+1)<=10000:=by omega
  obtain⟨aD,d3,Fq⟩:=LF (m+7) (by omega) (id:=n) c4.st c4.ref c4.oF dg c4.nb c4.vx
  have qe:=c4.ext Fq
  obtain⟨a4,d4,E5⟩:=LF (m+7) (by omega) (id:=s'.given) qe.st qe.ref qe.oF dg qe.nb qe.vx
  have jt:=qe.ext E5
  obtain⟨bk,d5,w0⟩:=LF (m+7) (by omega) (id:=i) jt.st jt.ref jt.oF dg jt.nb jt.vx
  have aiO:=jt.ext w0
  exact⟨n,iD c4.hW ag rv,n,Gd n gF g,aD,d3,s'.given,aF qe.ref.st rfl,a4,d4,i,aiL i (by omega) a4,bk,d5,by omega,_,(by show _<k;omega),i+1,bk,s',cC,eF,fT,fx,_,rfl,⟨rfl,rfl,rfl,rfl,trivial⟩,rfl,by omega,aiO⟩
 refine⟨i1,n,iD aT.hW ag rv,λh0=>?_,λh0=>?_⟩
 ·
  have hI:Ext y.n y (y.room 17):=Ext.room _ _ _
  have IR:=aT.ext hI
  obtain⟨ak,aM,df,bG⟩:=agE (m+5) (id:=n) IR.st IR.oF (by omega)
  have akp:=bG.n
  have aiP:dU R L ak r ck M s:=IR.ref.ext bG.n λd ai=>bG.get d (IR.ref.up d ai) (.inr ai)
  obtain⟨av,cC,eF,fT,fx,bf,a8,a2,bX,eG⟩:=ahY (m+5) (id:=n) aiP IR.oF (by omega) IR.nb
  have c4:=TG IR df bG a8 a2 bX eG ((IR.oF.rel n).le (by omega)) (IR.nb.rel n) (ahT IR.oF.ok IR.vx)
  have eo:aq ak b (off+i*2+0)=some (b4 n):=iD ⟨by have:=IR.up;omega,λd ai=>(bG.get d (by have:=IR.up;omega) (.inl ai)).trans (IR.hW.get d ai)⟩ ag rv
  exact⟨i1,n,iD IR.hW ag rv,n,Gd n gF _,_,ak,aM,i1,n,eo,n,Gd n gF _,_,av,bf,iD IR.hW ag rv,Gd n gF _,λ_=>⟨i1,tail av _ cC eF fT fx c4⟩,λh=>absurd rfl h⟩
 ·
  have ah:=adi ls[i].2
  have TJ:∀g,Ext h.n h g->pn g.n g u ls[i].2:=λg x=>by
   rcases bw.ext x with o|⟨hP,p_,jE,dy,ed,tq,po⟩
   · exact .inl o
   · exact .inr ⟨hP,p_,jE,dy,by have:=x.n;omega,tq,po⟩
  obtain⟨r1,ak,aM,df,t1,bF⟩:=agG m hm (h:=h) (B:=0) (λb ag=>by
   rcases ag with ag|ag
   · show b<y.n;omega
   · exact aT.ref.up b ag) aT.st (TJ y aT.hW)
  have aB:=bF.n
  obtain⟨av,bf,db,b0⟩:=agD (m+7) (by omega) df aT.oF (by omega) (λb ag=>by
   rcases ag with(ag|ag)|ag
   · omega
   · have:=aT.ref.up b ag;omega
   · exact ag.2) t1 ah
  have aY:=b0.n
  have r8:cj (λd=>d<h.n\/R d) y av:=⟨by omega,λd ai hf=>(b0.get d (by omega) (.inl hf)).trans (bF.get d ai)⟩
  have aiQ:gK (λd=>d<h.n\/R d) av p (gl (B1 ls[i].2) s).2:=db.move (Nat.le_refl _) (λ_ _ _ _=>rfl) λd ai au=>.inl (.inl au)
  have vp:Ext h.n h av:=⟨by omega,λd ai=>(r8.get d (by omega) (.inl ai)).trans (aT.hW.get d ai)⟩
  have fq:dU R L av r ck M s:=aT.ref.ext r8.n λd ai=>r8.get d (aT.ref.up d ai) (.inr ai)
  obtain⟨r2,aD,ee,dh,t3⟩:=RP m hm (TJ av vp)
  have bd:=dh.n
  obtain⟨a4,cC,eF,fT,fx,fQ,a8,a2,bX,eG⟩:=ah2 (m+7) (G:=lL av.n aD.n) (by omega) (fq.hW dh) aT.oF (by omega) aT.nb (λd ai=>⟨ai.2,λao=>by have:=fq.up d ao;have:=ai.1;omega⟩) t3 ah
  have dF:cj (λd=>d<h.n\/R d) y aD:=r8.trans (cj.ext dh)
  have c4:=TG aT (aiQ.ext dh) dF a8 a2 bX eG (by rw[show 61*(i+1)=61*i+61 by omega];exact aT.oF.intern ah) (aT.nb.intern ah) (ahS aT.oF.ok ah aT.vx)
  exact⟨i1,u,iD aT.hW ag bt,r1,ak,aM,_,0,av,bf,i1,u,iD vp ag bt,r2,aD,ee,_,0,a4,fQ,rfl,λ_=>⟨i1,tail a4 _ cC eF fT fx c4⟩,λh=>absurd rfl h⟩
open Go bg Go.Proofs ir Go.Proofs.kh Go.ChangeShapes Go.WideShapes Go.ChangeAt Go.RowKit Go.ChangeMaps
def tI(x:(UInt8×bb)×ad):List ad:=[.int .u8 (Int.ofNat x.1.1.toNat),x.2]
theorem aiR:∃f0 f1:Field,an.underlying 29=some (.struct #[f0,f1])/\f0.type=5/\f1.type=27/\f0.offset=0/\f1.offset=1:=by
 obtain⟨b6,nT⟩:∃b6,an.underlying 29=some (.struct b6):=by
  have:(match an.underlying 29 with|some (.struct _)=>true|_=>false)=true:=by kernel_rfl
  revert this
  cases an.underlying 29 with
  |none=>intro h;cases h
  |some d=>cases d<;>intro h<;>first|exact⟨_,rfl⟩|cases h
 have k:(match an.underlying 29 with|some (.struct b6)=>b6.toList.map λf=>(f.type,f.offset)|_=>[])=[(5,0),(27,1)]:=by kernel_rfl
 rw[nT] at k
 simp only at k
 obtain⟨l⟩:=b6
 match l,k with
 |[f0,f1],k=>
  simp only[List.map_cons,List.map_nil,List.cons.injEq,Prod.mk.injEq] at k
  exact⟨f0,f1,nT,k.1.1,k.2.1.1,k.1.2,k.2.1.2⟩
theorem LL:an.underlying 22=some (.slice 29):=by kernel_rfl
theorem TK{H:Type}{enc:TypeId×Value->H}{W:World}{sp:Nat->Bool}{held:Bool}{a:Addr}:∀n,(∀i,i<n->∃cs fuel x,W.cells? 0 (a.add (i*2)) 2=some cs/\DataW.trod enc an W 0 sp held fuel 29 cs=some x)->
  ∃(l:List (UInt8×bb)) (rows:List (fO×List ad×Nat)),l.length=n/\(∀x∈rows,HI W x.1 x.2.1 x.2.2)/\∀B mC,∃ds:List ((UInt8×bb)×ad),ds.map (·.1)=l/\∀(μ:bI) (h:ab) i0,μ mC=some i0->mC<h.n->tz rows μ h B->∀i (hi:i<ds.length),pn h.n h ds[i].2 ds[i].1.2/\W.cell? ((a.add (i*2)).add 0)=some (.int .u8 (Int.ofNat ds[i].1.1.toNat))/\∃u,W.cell? ((a.add (i*2)).add 1)=some u/\bz μ ds[i].2 u
 |0,_=>⟨[],[],rfl,by simp,λB mC=>⟨[],rfl,λμ h i0 _ _ _ i hi=>by simp at hi⟩⟩
 |n+1,sC=>by
  obtain⟨l,rows,aA,ao,ag⟩:=TK n λi hi=>sC i (by omega)
  obtain⟨cs,fuel,x,gG,aa⟩:=sC n (by omega)
  have k:=World.cells?_some gG
  have aiS:an.underlying 5=some (.int .u8):=by kernel_rfl
  have uG:an.cellsOf 5=1:=by kernel_rfl
  have mK:an.cellsOf 27=1:=by kernel_rfl
  obtain⟨f0,f1,al,t0,t1,Ab,dy⟩:=aiR
  obtain⟨akq,jP,cO,_,_,jy,bG⟩:=trod_struct2 al aa
  obtain⟨c0,aM,rfl⟩:∃c0 aM,cs=[c0,aM]:=by
   match cs,k.1 with
   |[c0,aM],_=>exact⟨c0,aM,rfl⟩
  rw[t0,Ab,uG] at jy
  rw[t1,dy,mK] at bG
  obtain⟨rb,c6,_,vX⟩:=DataW.trod_int aiS jy
  have aiT:c0=.int .u8 rb:=by simpa using c6
  have RB:0<=rb/\rb<256:=by
   have As:IntKind.u8.min<=rb/\rb<=IntKind.u8.max:=by simpa[Lit.wf] using vX
   have a3:IntKind.u8.min=0:=by decide
   have b7:IntKind.u8.max=255:=by decide
   rw[a3,b7] at As
   omega
  have bH:Int.ofNat (UInt8.ofNat rb.toNat).toNat=rb:=by
   rw[UInt8.toNat_ofNat',show rb.toNat %2^8=rb.toNat by omega]
   have:=Int.toNat_of_nonneg RB.1;simpa using this
  obtain⟨y,r,Au,aZ⟩:=agN (c0:=aM) (by simpa using bG)
  refine⟨l++[(UInt8.ofNat rb.toNat,y)],rows++r,by simp[aA],λx aa=>?_,λB mC=>?_⟩
  · rcases List.mem_append.1 aa with aa|aa
    · exact ao x aa
    · exact Au x aa
  · obtain⟨ds,C3,ay⟩:=ag B mC
    obtain⟨z,a7⟩:=aZ (B+rows.length) mC
    have yQ:ds.length=n:=by rw[<-aA,<-C3,List.length_map]
    refine⟨ds++[((UInt8.ofNat rb.toNat,y),z)],by simp[C3],λμ h i0 gj nU zT i hi=>?_⟩
    obtain⟨dS,gb⟩:=SP zT
    rw[List.length_append,List.length_singleton] at hi
    by_cases gp:i<ds.length
    · rw[List.getElem_append_left gp]
      exact ay μ h i0 gj nU dS i gp
    · obtain rfl:i=n:=by omega
      rw[List.getElem_append_right (by omega)]
      simp only[yQ,Nat.sub_self,List.getElem_singleton]
      obtain⟨bF,cJ⟩:=a7 μ h i0 gj nU gb
      have qO:=k.2.2 0 (by omega)
      have a8:=k.2.2 1 (by omega)
      rw[bH]
      exact⟨bF,by rw[qO,aiT];rfl,aM,a8,cJ⟩
theorem aiU{H:Type}{enc:TypeId×Value->H}{W:World}{base:Nat}{sp:Nat->Bool}{held:Bool}{fuel:Nat}{v:Value}{x:DataW H×List MemPlace}(aI:Cell.okWide an W .any base 22 v)(h:DataW.trod enc an W 0 sp held fuel 22 [v]=some x):
  ∃(l:List (UInt8×bb)) (n:Nat) (rows:Nat->List (fO×List ad×Nat)),(∀B,(rows B).length=n)/\∀B,∃u,∀(μ:bI) (g:ab),tz (rows B) μ g B->(∀x∈rows B,FY μ W x.1 x.2.1 x.2.2)/\Ge g.n g u l/\bz μ u v:=by
 have sZ:an.cellsOf 29=2:=by kernel_rfl
 rcases DataW.trod_slice LL h with⟨h0,_⟩|⟨a,len,cap,elems,rest,n,_,h0,_,E2,aA,hm,hlen,sC,_,_⟩
 · cases h0
   exact⟨[],0,λ_=>[],λ_=>rfl,λB=>⟨.aP,λμ g _=>⟨by simp,.inl ⟨rfl,rfl⟩,rfl⟩⟩⟩
 cases h0
 by_cases h0:len=0
 · subst h0
   obtain⟨c,el,fz,ag⟩:=agI LL aI
   refine⟨[],1,λ_=>[(⟨a.block,0,c.size⟩,[],el)],λ_=>rfl,λB=>⟨.slice B 0 0 .dead,λμ g ao=>?_⟩⟩
   obtain⟨I,ae,ax⟩:=ao 0 _ rfl
   refine⟨λx aa=>?_,.inr ⟨B,0,.dead,rfl,ax,λi hi=>by simp at hi⟩,⟨_,I,rfl,a,cap,rfl⟩⟩
   obtain rfl:x=(⟨a.block,0,c.size⟩,[],el):=by simpa using aa
   exact⟨c,fz,ag,λj v aO=>by simp at aO,Nat.zero_add _⟩
 obtain⟨l,rows,IJ,ao,ay⟩:=TK (a:=a) len λi hi=>by
  have he:=sC i hi
  rw[List.getElem?_eq_getElem (by omega),sZ,Option.bind_eq_some_iff] at he
  obtain⟨cs,gG,aZ⟩:=he
  exact⟨cs,n,_,gG,aZ⟩
 obtain⟨c,el,fz,ag,CJ,MS⟩:∃c el fz,W.heap[a.block]? =some (.cells c el fz)/\a.spot=none/\a.off<=c.size:=by
  have he:=sC 0 (by omega)
  rw[List.getElem?_eq_getElem (by omega),sZ,Option.bind_eq_some_iff] at he
  obtain⟨cs,gG,aZ⟩:=he
  have k:=World.cells?_some gG
  obtain⟨c6,bG⟩:∃c6,W.cell? ((a.add (0*2)).add 0)=some c6:=by
   have:=k.2.2 0 (by omega)
   obtain⟨c6,aiV⟩:∃c6,cs[0]? =some c6:=⟨_,List.getElem?_eq_getElem (by have:=k.1;omega)⟩
   exact⟨c6,this.trans aiV⟩
  obtain⟨c,el,fz,ag,ng,al⟩:=FX bG
  exact⟨c,el,fz,ag,al (by omega) rfl,by have:=(Array.getElem?_eq_some_iff.1 ng).1;omega⟩
 have key:∀B,∃ds:List ((UInt8×bb)×ad),∀(μ:bI) (g:ab),tz ((⟨a.block,a.off,c.size-a.off⟩,dp tI ds,el)::rows) μ g B->(∀x∈(⟨a.block,a.off,c.size-a.off⟩,dp tI ds,el)::rows,FY μ W x.1 x.2.1 x.2.2)/\Ge g.n g (.slice B 0 len (.exact cap)) l/\bz μ (.slice B 0 len (.exact cap)) (.slice (some a) len cap):=λB=>by
  obtain⟨ds,C3,ay⟩:=ay (B+1) B
  refine⟨ds,λμ g zU=>?_⟩
  have yQ:ds.length=len:=by rw[<-IJ,<-C3,List.length_map]
  have h2:∀(i j:Nat) (hi:i<ds.length) (aO:j<2),(dp tI ds)[0+i*2+j]? =(tI ds[i])[j]? :=λi j hi aO=>by
   unfold dp
   rw[Ex (w:=2) (λ_=>rfl),if_pos (by omega),show(0+i*2+j)/2=i by omega,show(0+i*2+j) %2=j by omega,List.getElem?_eq_getElem hi]
   rfl
  obtain⟨I,ae,ax⟩:=zU 0 _ rfl
  simp only[Nat.add_zero] at I ae ax
  have aiW:tz rows μ g (B+1):=(SP (r1:=[(⟨a.block,a.off,c.size-a.off⟩,dp tI ds,el)]) (r2:=rows) (by rw[List.singleton_append];exact zU)).2
  have ay:=ay μ g _ I ax aiW
  refine⟨λx aa=>?_,.inr ⟨_,0,.exact cap,by rw[IJ],ax,λi hi=>?_⟩,⟨_,I,?_⟩⟩
  · rcases List.mem_cons.1 aa with rfl|aa
    · refine⟨c,fz,ag,λt v aI=>?_,by simp;omega⟩
      have Ff:(dp tI ds)[t]? =some v:=aI
      have Ls:t<ds.length*2:=by
       have:=(List.getElem?_eq_some_iff.1 Ff).1
       rwa [s4 (w:=2) (λ_=>rfl)] at this
      have ud:t/2<ds.length:=by omega
      have aiX:t %2<2:=Nat.mod_lt _ (by omega)
      have ar:=h2 (t/2) (t %2) ud aiX
      rw[show 0+t/2*2+t %2=t by omega,Ff] at ar
      obtain⟨_,qO,u,a8,a2⟩:=ay (t/2) ud
      rcases(by omega:t %2=0\/t %2=1) with e|e
      · rw[e] at ar
        have LM:v=.int .u8 (Int.ofNat ds[t/2].1.1.toNat):=by simpa[tI] using ar
        obtain⟨c',qv,SR,kK,aa,_⟩:=FX qO
        rw[ag] at kK
        cases kK
        rw[show a.off+t/2*2+0=a.off+t by omega] at aa
        exact⟨_,aa,by rw[LM];rfl⟩
      · rw[e] at ar
        have LM:v=ds[t/2].2:=by simpa[tI] using ar
        obtain⟨c',qv,SR,kK,aa,_⟩:=FX a8
        rw[ag] at kK
        cases kK
        rw[show a.off+t/2*2+1=a.off+t by omega] at aa
        exact⟨_,aa,by rw[LM];exact a2⟩
    · exact agK (ao x aa) _
  · have fi:i<ds.length:=by omega
    have qv:l[i]=ds[i].1:=by simp[<-C3]
    rw[qv]
    refine⟨lb ae ?_,ds[i].2,lb ae ?_,(ay i fi).1⟩
    · rw[h2 i 0 fi (by omega)];rfl
    · rw[h2 i 1 fi (by omega)];rfl
  · obtain⟨bx,off,spot⟩:=a
    simp only at CJ
    subst CJ
    rfl
 exact⟨l,rows.length+1,λB=>(⟨a.block,a.off,c.size-a.off⟩,dp tI (key B).choose,el)::rows,λ_=>rfl,λB=>⟨.slice B 0 len (.exact cap),(key B).choose_spec⟩⟩
theorem aiY{H:Type}{enc:TypeId×Value->H}{W:World}{base:Nat}{sp:Nat->Bool}{held:Bool}{fuel:Nat}{v:Value}{x:DataW H×List MemPlace}(kP:an.globals.size<=W.heap.size)(aI:Cell.okWide an W .any base 22 v)(h:DataW.trod enc an W 0 sp held fuel 22 [v]=some x):
  ∃(l:List (UInt8×bb)) (μ:bI) (g:ab) (u:ad),bK μ g W/\iA an μ/\A3 g/\Ge g.n g u l/\bz μ u v:=by
 obtain⟨l,n,rows,_,ao⟩:=aiU aI h
 obtain⟨u,hu⟩:=ao an.globals.size
 obtain⟨bG,b0,dF⟩:=hu _ _ agH
 obtain⟨s1,s2,b1⟩:=agJ (P:=an) kP _ bG
 exact⟨l,_,_,u,s1,s2,b1,b0,dF⟩
end Go.Proofs.kU
