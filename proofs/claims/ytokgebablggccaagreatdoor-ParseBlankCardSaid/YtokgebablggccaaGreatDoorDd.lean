/-
  PROVED HERE: contracts of functions (Dd). No condition beside each statement's own.
-/
import Derived.Test.YtokgebablggccaaGreatDoorDc
set_option linter.unusedVariables false
set_option linter.unusedSimpArgs false
set_option maxRecDepth 100000
set_option maxHeartbeats 1000000
namespace Go.Proofs.iI
open Go aJ Go.Proofs lp
variable {b r:Nat}{g h:I}
variable {Q:cl->bD->Prop} {R:a8->Prop}
theorem aez(m p a:Nat)(s:List UInt8)(w dj o:aa)(h:I)(aI:gH h dL=true)(aB:h.get p=some (fl s a w dj o))(ah:s.length<=80000)(a3:7<=p/\p<h.n){c:UInt8}{r:List UInt8}(aH:s.drop a=c::r)(ak:c.toNat=34)(f:Nat)(aM:(line r).length<=f):
  (∀t n,gB f r 1 []=.ok t n->∃ay,C (m+7) (.fn 79) [.ptr p 0] h=.ret (.str t) ay/\ay.get p=some (fl s (a+n) w dj o)/\bU p h.n h ay)/\
  (∀n,gB f r 1 []=.bad n->∃v ay,C (m+7) (.fn 79) [.ptr p 0] h=.aK v ay/\qA v (a+n) h ay/\bU p h.n h ay):=by
 have kK:a<s.length:=by
  rcases Nat.lt_or_ge a s.length with J|J
  · exact J
  · rw[List.drop_eq_nil_of_le J] at aH;cases aH
 have aaI:r.length=s.length-a-1:=by
  have:=congrArg List.length aH
  rw[List.length_drop,List.length_cons] at this;omega
 have Sw:(line r).length<=r.length:=(List.takeWhile_prefix (l:=r) qu).length_le
 obtain⟨J,fR⟩:∃J,J=h.push (aD [.au,.ao] 175):=⟨_,rfl⟩
 have bn:J.n=h.n+1:=by rw[fR];rfl
 have dt:J.get p=some (fl s a w dj o):=by rw[fR];exact gN a3.2 aB
 have bd:J.get h.n=some (aD [.au,.ao] 175):=by rw[fR];exact dx rfl
 obtain⟨g,a9,bb⟩:=Si m p a s w dj o J dt (by omega) (by omega)
 rw[aH,sD (by omega)] at a9
 have za:=bb.n
 obtain⟨dH,l1⟩:∃dH,dH=g.push (.fp (c::line r) 0):=⟨_,rfl⟩
 have k8:dH.n=g.n+1:=by rw[l1];rfl
 have c_:∀b,b<h.n->dH.get b=h.get b:=λb ag=>by
  rw[l1]
  exact gN (by omega) ((bb.get b (by omega)).trans (by rw[fR];exact gN ag rfl))
 have G3:dH.get p=some (fl s a w dj o):=(c_ p a3.2).trans aB
 have i0:dH.get g.n=some (.fp (c::line r) 0):=by rw[l1];exact dx rfl
 have bE:dH.get h.n=some (aD [.au,.ao] 175):=by rw[l1];exact gN (by omega) ((bb.get h.n (by omega)).trans bd)
 have kL:=w9 i0
 have sg:=(y_ (e:=c) (t:=line r)).1 (by omega)
 rw[sg] at kL
 obtain⟨cw,Be⟩:∃cw,cw=dH.set g.n (some (.fp ((c::line r).drop 1) (0+1))):=⟨_,rfl⟩
 rw[<-Be] at kL
 have hdr:r=s.drop (a+1):=by
  have:s.drop (a+1)=(s.drop a).drop 1:=by rw[List.drop_drop]
  rw[this,aH];rfl
 have aU:rE p h.n g.n (g.n+1) a 1 s [] w dj o cw:=by
  rw[Be]
  refine⟨cr (by omega) G3,?_,nT aI λb ag=>cr (by omega) (c_ b (by omega)),⟨.au,.ao,cr (by omega) bE,.inl rfl,.inl ⟨rfl,rfl⟩,by omega,by simp;omega,λ_=>rfl⟩,by simp;omega⟩
  rw[<-hdr];exact dz rfl
 have Ac:mL p h.n g.n (g.n+1) dH cw:=⟨by rw[Be];simp,λb _ _ _ ag=>by rw[Be];exact cr ag rfl⟩
 have j8:aC cw p (0+1)=some (ad a):=aN aU.dO rfl
 have st:=adA (C (m+6)) p h.n g.n 0 c.toNat (c::line r) dH cw _ _ kL j8 (nL (i:=a) (j:=0) (by omega)) (lO rfl)
 have ho:=aeq m p h.n g.n (g.n+1) a s (c::line r) w dj o ah a3.1 a3.2 (by omega) (by omega) f 1 cw [] (by rw[<-hdr];exact aM) (Nat.le_refl _) (by omega) (by rw[<-hdr,List.length_cons];omega) (Nat.zero_le _) aU
 rw[<-hdr] at ho
 have Hf:=rD.step st Ac ho
 have ext:∀{et},mL p h.n g.n (g.n+1) dH et->bU p h.n h et:=λ{et} dy=>⟨by have:=dy.n;omega,λb ag e9=>(dy.get b (by omega) e9 (by omega) (by omega)).trans (c_ b ag)⟩
 rw[fR] at a9
 have CR:∀{e:cl} {cv:bD},a0 an Tryz.f79 none (C (m+6)) [1,1,1,0,1,0] ⟨[(0,.ptr p 0),(3,.ptr h.n 0),(4,.str (c::line r)),(5,.bool false),(13,.ptr g.n 0)],[],.none,dH⟩ e cv->
   a0 an Tryz.f79 none (C (m+6)) [1,1,1,0,1,0] ⟨[(13,.ptr g.n 0),(5,.bool false),(4,.str (c::line r)),(3,.ptr h.n 0),(2,.str []),(0,.ptr p 0)],[],.none,g.push (.fp (c::line r) 0)⟩ e cv:=λaj=>by
  rw[<-l1];exact dU.pre aj ⟨rfl,rfl,rfl,rfl,rfl,trivial⟩ rfl rfl rfl
 refine⟨λt n aj=>?_,λn aj=>?_⟩
 · rw[aj] at Hf
   obtain⟨k,et,aO,aZ,bC,cX⟩:=Hf
   have gw:=CR (eP.run (p:=[1,1,1,0,1,0]) (by kernel_rfl) aZ (by omega))
   exact⟨et,eI (intr:=eD) (n:=m+6) (args:=[.ptr p 0]) Tryz.func79 (adH (C (m+6)) p _ t h g et a9 gw) (.inl rfl) (by kernel_rfl),bC,ext cX⟩
 · rw[aj] at Hf
   rcases Hf with⟨k,v,et,aO,aZ,bC,cX⟩|⟨k,e,et,aO,aZ,bC,cX,gi⟩
   · have gw:=CR (eP.run (p:=[1,1,1,0,1,0]) (by kernel_rfl) aZ (by omega))
     exact⟨v,et,ow (intr:=eD) (n:=m+6) (args:=[.ptr p 0]) Tryz.func79 (by kernel_rfl) rfl (by kernel_rfl) (adI (C (m+6)) p v _ [] h g et a9 gw),G9 (by omega) bC,ext cX⟩
   · have gw:=CR (eP.run (p:=[1,1,1,0,1,0]) (by kernel_rfl) aZ (by omega))
     have Sx:aC et p (0+1)=some (ad a):=aN cX rfl
     have DH:=(ext gi).n
     have Sy:∀a6,bU p h.n h (et.push (qz a6)):=λa6=>(ext gi).trans DH (bU.push (Nat.le_refl _) _)
     cases e with
     |true=>
      rw[if_pos rfl] at bC
      have ch:=AD (i:=a+(c::line r).length) (j:=1) (by rw[List.length_cons];omega) (by rw[List.length_cons];omega)
      rw[show a+(c::line r).length-1=a+n by omega] at ch
      exact⟨_,_,ow (intr:=eD) (n:=m+6) (args:=[.ptr p 0]) Tryz.func79 (by kernel_rfl) rfl (by kernel_rfl) (adJ (C (m+6)) p true _ [] h g et _ _ _ _ _ a9 gw rfl Sx (nL (i:=a) (j:=(c::line r).length) (by simp;omega)) ch (w_ (m+5) (a+n) et)),xa DH,Sy _⟩
     |false=>
      obtain rfl:n=0:=by simpa using bC
      exact⟨_,_,ow (intr:=eD) (n:=m+6) (args:=[.ptr p 0]) Tryz.func79 (by kernel_rfl) rfl (by kernel_rfl) (adK (C (m+6)) p false _ [] h g et _ _ _ a9 gw rfl Sx (w_ (m+5) a et)),xa DH,Sy _⟩
theorem aeA(t s:List UInt8):t.isPrefixOf s=if t.length<=s.length then gb (s.take t.length) t else false:=by
 by_cases h:t.length<=s.length
 · rw[if_pos h,o_,Bool.eq_iff_iff,List.isPrefixOf_iff_prefix,List.prefix_iff_eq_take,beq_iff_eq]
   exact eq_comm
 · rw[if_neg h]
   cases ab:t.isPrefixOf s with
   |false=>rfl
   |true=>exact absurd (List.isPrefixOf_iff_prefix.1 ab).length_le h
theorem aeB(m:Nat)(s t:List UInt8)(h:I):C (m+2) (.fn 82) [.str s,.str t] h=.ret (.bool (t.isPrefixOf s)) h:=by
 have key:C (m+1) (.fn 114) [.str s,.str t] h=.ret (.bool (t.isPrefixOf s)) h:=by
  rw[aeA]
  by_cases aA:t.length<=s.length
  · rw[if_pos aA]
    exact eI (intr:=eD) (n:=m) (args:=[.str s,.str t]) Tryz.func114 (adY (C m) s t h _ (mD aA) (R6 aA)) (.inl rfl) (by kernel_rfl)
  · rw[if_neg aA]
    exact eI (intr:=eD) (n:=m) (args:=[.str s,.str t]) Tryz.func114 (adZ (C m) s t h (l6 aA)) (.inl rfl) (by kernel_rfl)
 exact eI (intr:=eD) (n:=m+1) (args:=[.str s,.str t]) Tryz.func82 (adX (C (m+1)) s t h _ h key) (.inl rfl) (by kernel_rfl)
abbrev me(p:Nat):b5:=aD [.ptr p 0] 92
theorem aeC(m p q a:Nat)(s t:List UInt8)(w dj o:aa)(h:I)(bB:h.get q=some (me p))(aB:h.get p=some (fl s a w dj o))(a_:a<=s.length):C (m+3) (.fn 81) [.str t,.ptr q 0] h=.ret (.bool (t.isPrefixOf (s.drop a))) (h.room 12):=by
 have Jk:(h.room 12).get q=some (me p):=bB
 have ng:(h.room 12).get p=some (fl s a w dj o):=aB
 exact eI (intr:=eD) (n:=m+2) (args:=[.str t,.ptr q 0]) Tryz.func81 (ad0 (C (m+2)) q t h p 0 s a _ _ _ (aN Jk rfl) (aN ng rfl) (aN ng rfl) (A_ a_) (aeB m (s.drop a) t (h.room 12))) (.inl rfl) (by kernel_rfl)
theorem Sz(m p q a ch:Nat)(s:List UInt8)(w dj o:aa)(a_:a<=s.length):∀(k i:Nat) (h:I),17-i=k->i<=17->h.get q=some (me p)->h.get p=some (fl s a w dj o)->rv h ch->
  (∀g,(k7.drop i).find? (λg=>g.isPrefixOf (s.drop a))=some g->∃j ay,∃aL:j<k7.length,k7[j]=g/\eP an Tryz.f80 none (C (m+3)) [1,0,1,0] (k+1) ⟨[(0,.slice ch 0 17 (.exact 17)),(1,.fn 81 [] [.ptr q 0]),(7,ad 17),(8,ad i)],[],.none,h⟩ .ret ⟨[(4,ad j)],[],.none,ay⟩/\ay.n>=h.n/\∀b,ay.get b=h.get b)/\
  ((k7.drop i).find? (λg=>g.isPrefixOf (s.drop a))=none->∃ay,eP an Tryz.f80 none (C (m+3)) [1,0,1,0] (k+1) ⟨[(0,.slice ch 0 17 (.exact 17)),(1,.fn 81 [] [.ptr q 0]),(7,ad 17),(8,ad i)],[],.none,h⟩ (.exit 0) ⟨[],[],.none,ay⟩/\ay.n>=h.n/\∀b,ay.get b=h.get b)
 |0,i,h,ai,hi,bB,aB,ah=>by
  obtain rfl:i=17:=by omega
  refine⟨λg ab=>(by cases ab),λ_=>⟨h,.exit (dU.post (ad3 (C (m+3)) q ch 17 17 (.exact 17) h (iR (by omega))) trivial) (by simp),Nat.le_refl _,λ_=>rfl⟩⟩
 |k+1,i,h,ai,hi,bB,aB,ah=>by
  have uY:i<17:=by omega
  have L5:i<k7.length:=uY
  have r8:=ah
  obtain⟨el,d_,lo,up,wk⟩:=ah
  have j8:aC h ch (0+i*1)=some (.str k7[i]):=aN wk (by
   have e:0+i*1=i:=by omega
   rw[e,j0,List.getElem?_map,List.getElem?_eq_getElem L5];rfl)
  have a9:=aeC m p q a s k7[i] w dj o h bB aB a_
  rw[List.drop_eq_getElem_cons L5,List.find?_cons]
  cases ab:k7[i].isPrefixOf (s.drop a) with
  |true=>
   rw[ab] at a9
   refine⟨λg m5=>?_,λm5=>(by cases m5)⟩
   simp only[Option.some.injEq] at m5
   exact⟨i,_,L5,m5,.exit (dU.post (ad1 (C (m+3)) q ch 17 i (.exact 17) h _ true _ (ib uY) uY j8 a9 rfl) ⟨rfl,trivial⟩) (by simp),by simp,λ_=>rfl⟩
  |false=>
   rw[ab] at a9
   have st:=ad2 (C (m+3)) q ch 17 i (.exact 17) h _ false _ _ (ib uY) uY j8 a9 rfl (nL (i:=i) (j:=1) (by omega))
   obtain⟨i1,i2⟩:=Sz m p q a ch s w dj o a_ k (i+1) (h.room 12) (by omega) (by omega) bB aB r8
   refine⟨λg m5=>?_,λm5=>?_⟩
   · obtain⟨j,ay,aL,bt,b3,hj,gE⟩:=i1 g m5
     exact⟨j,ay,aL,bt,.step st b3,by simp at hj;omega,gE⟩
   · obtain⟨ay,b3,hj,gE⟩:=i2 m5
     exact⟨ay,.step st b3,by simp at hj;omega,gE⟩
theorem aeD(m p q a ch:Nat)(s:List UInt8)(w dj o:aa)(h:I)(a_:a<=s.length)(bB:h.get q=some (me p))(aB:h.get p=some (fl s a w dj o))(ah:rv h ch):
  (∀g,w3 (s.drop a)=some g->∃j ay,∃aL:j<k7.length,k7[j]=g/\C (m+4) (.fn 80) [.slice ch 0 17 (.exact 17),.fn 81 [] [.ptr q 0]] h=.ret (ad j) ay/\h.n<=ay.n/\∀b,ay.get b=h.get b)/\
  (w3 (s.drop a)=none->∃ay,C (m+4) (.fn 80) [.slice ch 0 17 (.exact 17),.fn 81 [] [.ptr q 0]] h=.ret (.int .i64 (-1)) ay/\h.n<=ay.n/\∀b,ay.get b=h.get b):=by
 obtain⟨i1,i2⟩:=Sz m p q a ch s w dj o a_ 17 0 h rfl (by omega) bB aB ah
 refine⟨λg ab=>?_,λab=>?_⟩
 · obtain⟨j,ay,aL,bt,b3,hj,gE⟩:=i1 g ab
   have ho:=eP.run (p:=[1,0,1,0]) (by kernel_rfl) b3 (by omega)
   exact⟨j,ay,aL,bt,eI (intr:=eD) (n:=m+3) (args:=[.slice ch 0 17 (.exact 17),.fn 81 [] [.ptr q 0]]) Tryz.func80 (ad4 (C (m+3)) q ch 17 (.exact 17) h ay j (dU.pre ho ⟨rfl,rfl,rfl,rfl,trivial⟩ rfl rfl rfl)) (.inl rfl) (by kernel_rfl),hj,gE⟩
 · obtain⟨ay,b3,hj,gE⟩:=i2 ab
   have ho:=eP.run (p:=[1,0,1,0]) (by kernel_rfl) b3 (by omega)
   exact⟨ay,eI (intr:=eD) (n:=m+3) (args:=[.slice ch 0 17 (.exact 17),.fn 81 [] [.ptr q 0]]) Tryz.func80 (ad5 (C (m+3)) q ch 17 (.exact 17) h ay (dU.pre ho ⟨rfl,rfl,rfl,rfl,trivial⟩ rfl rfl rfl)) (.inl rfl) (by kernel_rfl),hj,gE⟩
def fm(t:bP):List aa:=[ad t.k,.str t.t,ad t.v,ad t.at']
theorem aeE:qf an fm 4 76 65 where
 hu:=by kernel_rfl
 hF:=by kernel_rfl
 info:=by
  have hi:(an.info? 76).map (λi=>(i.size,Nat.ble i.bytes 1000))=some (4,true):=by kernel_rfl
  cases mK:an.info? 76 with
  |none=>rw[mK] at hi;cases hi
  |some i=>
   rw[mK] at hi
   simp only[Option.map_some,Option.some.injEq,Prod.mk.injEq] at hi
   exact⟨i,rfl,hi.1,Nat.le_of_ble_eq_true hi.2⟩
 zero:=⟨.agg [ad 0,.str [],ad 0,ad 0],by kernel_rfl,rfl⟩
 size:=by kernel_rfl
 len:=λ_=>rfl
 cell:=λ_=>rfl
 pos:=by decide
theorem lookW(s:List UInt8)(hw:uR g r):mY an g 93 (.map r) (.str s) false=some (.bool (sC s)):=by
 obtain⟨es,c,aB,ai⟩:=hw
 have hu:an.underlying 93=some (.map 9 4):=by kernel_rfl
 have jc:∀s:List UInt8,nC an 9 (.str s)=true:=λs=>by kernel_rfl
 have bm:xE an 4 false none=some (.bool false):=by kernel_rfl
 unfold mY
 rw[hu]
 simp only[jc,aB]
 rcases RP s es words 0 ai with⟨J,ae⟩|⟨⟨j,J⟩,ae⟩
 · rw[J];simp only[bm];unfold sC;rw[ae]
 · rw[J];unfold sC;rw[ae];rfl
theorem uR.of(hw:uR h r)(e:g.get r=h.get r):uR g r:=by
 obtain⟨es,c,aB,ai⟩:=hw
 exact⟨es,c,e.trans aB,ai⟩
theorem rv.of(hw:rv h r)(e:g.get r=h.get r):rv g r:=by
 obtain⟨a,b,c,d,aB⟩:=hw
 exact⟨a,b,c,d,e.trans aB⟩
structure uZ(p r ch:Nat)(s:List UInt8)(a:Nat)(out:List bP)(h:I):Prop where
 g:∃o,h.get p=some (fl s a (.map r) (.slice ch 0 17 (.exact 17)) o)/\iH fm 4 76 (p+1) h o out
 w:uR h r
 dj:rv h ch
 eW:gH h dL=true
 lt:7<=p/\r<p/\ch<p/\p<h.n
theorem aeF{t lo up:Nat}{k:ff}{d:bP}(aB:g.get b=some (.cells (fm d) t k lo up)):jr g 4 (.slice b 0 1 (.exact 1))=some ([d].length,eK fm [d]):=by
 have:aJ.loadCells g b 0 (1*4)=some (fm d):=rk aB rfl
 simp only[jr,this]
 simp[eK]
theorem SA{B:Nat}{G H:I}{o:aa}{out:List bP}{d:bP}(bg:iH fm 4 76 B G o out)(eU:B<=G.n)(nR:G.n<=b)(aT:b<H.n)(g1:∀c,c<G.n->H.get c=G.get c)(ag:H.get b=some (aD (fm d) 76))(aA:out.length+1<=1000000):
  ∃c n ay,fi an H 65 (some 65) o (.slice b 0 1 (.exact 1))=some (.slice c 0 n (.aX 4),ay)/\iH fm 4 76 B ay (.slice c 0 n (.aX 4)) (out++[d])/\Ext B H ay/\H.n<=ay.n/\∀x,x<H.n->(∀n cp,o≠ .slice x 0 n cp)->ay.get x=H.get x:=by
 have aeG:iH fm 4 76 B H o out:=bg.cx (by omega) λp _ a3=>g1 p a3
 obtain⟨v',ay,c8,c9,gf,wR,uL⟩:=Z9 aeE (es:=[d]) aeG (by omega) (aeF ag) (by simpa using aA)
 rcases c9 with⟨_,he⟩|⟨c,rfl,b2⟩
 · simp at he
 · exact⟨c,_,ay,c8,.inr ⟨c,rfl,b2⟩,gf,wR,uL⟩
theorem aeH(m p r ch a:Nat)(s:List UInt8)(out:List bP)(h:I)(hi:uZ p r ch s a out h)(ah:s.length<=80000)(a_:a<s.length)(td:out.length<=80000)(ag:ma s[a]=false)(rG:¬s[a].toNat=35):
  (∀k t v n,el (s.drop a)=.tok k t v n->∃ay,C (m+8) (.fn 37) [.ptr p 0] h=.ret (.aF []) ay/\uZ p r ch s (a+n) (out++[⟨k,t,v,a⟩]) ay/\bU p (p+1) h ay)/\
  (∀n,el (s.drop a)=.bad n->∃v ay,C (m+8) (.fn 37) [.ptr p 0] h=.aK v ay/\qA v (a+n) h ay/\bU p (p+1) h ay):=by
 obtain⟨⟨o,dO,bg⟩,hw,wk,Hg,Bf,L6,CQ,u0⟩:=hi
 obtain⟨aq,ni⟩:∃aq,aq=(((h.push (me p)).push (aD [ad 0,.str [],ad 0,ad 0] 76)).set (h.n+1) (some (aD [ad 0,.str [],ad 0,ad a] 76))):=⟨_,rfl⟩
 have dc:aq.n=h.n+2:=by rw[ni];rfl
 have DI:∀b,b<h.n->aq.get b=h.get b:=λb ag=>by rw[ni];exact cr (by omega) (gN (by simp;omega) (gN ag rfl))
 have bu:aq.get h.n=some (me p):=by rw[ni];exact cr (by omega) (gN (by simp) (dx rfl))
 have hj:aq.get (h.n+1)=some (aD [ad 0,.str [],ad 0,ad a] 76):=by rw[ni];exact dz rfl
 have gD:aq.get p=some (fl s a (.map r) (.slice ch 0 17 (.exact 17)) o):=(DI p u0).trans dO
 have dt:(h.push (me p)).get p=some (fl s a (.map r) (.slice ch 0 17 (.exact 17)) o):=gN u0 dO
 have t3:gH aq dL=true:=nT Hg λb ag=>DI b (by omega)
 have eH:uR aq r:=hw.of (DI r (by omega))
 have c4:rv aq ch:=wk.of (DI ch (by omega))
 have az:=adL (C (m+7)) p h
 have s1:a0 an Tryz.f37 none (C (m+7)) [1,0] ⟨[(1,.ptr h.n 0)],[],.none,h.push (me p)⟩ .nrm ⟨[(1,.ptr h.n 0),(2,.ptr (h.n+1) 0)],[],.none,aq⟩:=by
  rw[ni]
  exact LW (C (m+7)) h.n (h.push (me p)) p 0 a _ (aN (dx rfl) rfl) (aN dt rfl) (cy (dx rfl) rfl rfl)
 have aeI:(aq.room 10).get h.n=some (me p):=bu
 have SB:(aq.room 10).get p=some (fl s a (.map r) (.slice ch 0 17 (.exact 17)) o):=gD
 have s2:=LX (C (m+7)) h.n (h.n+1) aq p 0 s a _ (aN aeI rfl) (aN SB rfl) (aN SB rfl) (AB a_)
 obtain⟨K,ji⟩:∃K,K=aq.room 10:=⟨_,rfl⟩
 have alO:K.n=h.n+12:=by rw[ji];show aq.n+10=_;omega
 have zb:∀b,K.get b=aq.get b:=λb=>by rw[ji];rfl
 have L7:∀b,b<h.n->K.get b=h.get b:=λb ag=>(zb b).trans (DI b ag)
 have zc:K.get h.n=some (me p):=(zb _).trans bu
 have SC:K.get (h.n+1)=some (aD [ad 0,.str [],ad 0,ad a] 76):=(zb _).trans hj
 have u1:K.get p=some (fl s a (.map r) (.slice ch 0 17 (.exact 17)) o):=(zb _).trans gD
 have aeJ:gH K dL=true:=nT t3 λb _=>zb b
 have alP:uR K r:=eH.of (zb _)
 have L8:rv K ch:=c4.of (zb _)
 rw[<-ji] at s2
 have gU:=bg.ne dO (.inl (by simp))
 have DJ:∀{k v n:Nat} {t:List UInt8} {G:I},a0 an Tryz.f37 none (C (m+7)) [1,1,0,1] ⟨[(1,.ptr h.n 0),(2,.ptr (h.n+1) 0),(3,ax s[a].toNat)],[],.none,K⟩ .nrm ⟨[(1,.ptr h.n 0),(2,.ptr (h.n+1) 0)],[],.none,G⟩->
   K.n<=G.n->(∀b,b<h.n->b≠p->G.get b=h.get b)->G.get h.n=some (me p)->G.get (h.n+1)=some (aD (fm ⟨k,t,v,a⟩) 76)->G.get p=some (fl s (a+n) (.map r) (.slice ch 0 17 (.exact 17)) o)->
   ∃ay,C (m+8) (.fn 37) [.ptr p 0] h=.ret (.aF []) ay/\uZ p r ch s (a+n) (out++[⟨k,t,v,a⟩]) ay/\bU p (p+1) h ay:=by
  intro k v n t G dD aeK Hh nV rH Bg
  obtain⟨H,g1⟩:∃H,H=(G.room 11).set (G.n+6) (some (aD (fm ⟨k,t,v,a⟩) 76)):=⟨_,rfl⟩
  have G8:H.n=G.n+11:=by rw[g1];rfl
  have oL:∀c,c<G.n->H.get c=G.get c:=λc ak=>by rw[g1];exact cr (by omega) rfl
  have tT:iH fm 4 76 (p+1) G o out:=bg.cx (by omega) λx ab DH=>Hh x DH (λe=>gU _ _ (ab.trans (congrArg (λz=>aa.slice z 0 out.length (.aX 4)) e)))
  obtain⟨c,N,ay,c8,c9,gf,wR,uL⟩:=SA (d:=⟨k,t,v,a⟩) (b:=G.n+6) tT (by omega) (by omega) (by omega) oL (by rw[g1];exact dz rfl) (by omega)
  have L9:H.get p=some (fl s (a+n) (.map r) (.slice ch 0 17 (.exact 17)) o):=(oL p (by omega)).trans Bg
  have SD:ay.get p=some (fl s (a+n) (.map r) (.slice ch 0 17 (.exact 17)) o):=(gf.get p (by omega)).trans L9
  have aeL:∀N cp,o≠ .slice h.n 0 N cp:=λN cp e=>by
   rcases tT with⟨aE,_⟩|⟨x,aE,_,ab,_⟩
   · rw[aE] at e;cases e
   · rw[aE] at e;cases e;rw[nV] at ab;injection (Option.some.inj ab) with _ xN;exact absurd xN (by decide)
  have aeM:ay.get h.n=some (me p):=(uL h.n (by omega) aeL).trans ((oL h.n (by omega)).trans nV)
  rw[g1] at c8
  have aeN:(G.room 11).get h.n=some (me p):=nV
  have aeO:(G.room 11).get p=some (fl s (a+n) (.map r) (.slice ch 0 17 (.exact 17)) o):=Bg
  have aeP:(G.room 11).get (h.n+1)=some (aD (fm ⟨k,t,v,a⟩) 76):=rH
  have SE:=(oL h.n (by omega)).trans nV
  have SF:=(oL (h.n+1) (by omega)).trans rH
  rw[g1] at SE L9 SF
  have c0:=adT (C (m+7)) h.n (h.n+1) p c N k v a t o G ay _ (aN aeN rfl) (aN aeO rfl) (rk aeP rfl) c8 (cy SD rfl rfl) (aN aeM rfl) (aN SE rfl) tT.sound (aN L9 rfl) (rk SF rfl)
  have aj:=gG [] az (gG [1] s1 (gG [1,1] (gG [1,1,0] s2 dD) c0))
  have Hi:∀b,b<p+1->b≠p->(ay.set p (some (fl s (a+n) (.map r) (.slice ch 0 17 (.exact 17)) (.slice c 0 N (.aX 4))))).get b=h.get b:=λb ag e9=>cr e9 ((gf.get b ag).trans ((oL b (by omega)).trans (Hh b (by omega) e9)))
  refine⟨_,eI (intr:=eD) (n:=m+7) (args:=[.ptr p 0]) Tryz.func37 aj (.inr rfl) (by kernel_rfl),⟨⟨_,dz rfl,c9.Kg SD⟩,hw.of (Hi r (by omega) (by omega)),wk.of (Hi ch (by omega) (by omega)),nT Hg λb ag=>Hi b (by omega) (by omega),Bf,L6,CQ,by simp;omega⟩,⟨by simp;omega,Hi⟩⟩
 have DK:∀{v:aa} {n:Nat} {G:I},a0 an Tryz.f37 none (C (m+7)) [1,1,0,1] ⟨[(1,.ptr h.n 0),(2,.ptr (h.n+1) 0),(3,ax s[a].toNat)],[],.none,K⟩ (.aK v) ⟨[],[],.none,G⟩->
   K.n<=G.n->(∀b,b<h.n->b≠p->G.get b=h.get b)->qA v (a+n) K G->∃v ay,C (m+8) (.fn 37) [.ptr p 0] h=.aK v ay/\qA v (a+n) h ay/\bU p (p+1) h ay:=by
  intro v n G dD aeK Hh aW
  have aj:=gG [] az (gG [1] s1 (AK [1,1] (gG [1,1,0] s2 dD) (by simp)))
  exact⟨v,G,ow (intr:=eD) (n:=m+7) (args:=[.ptr p 0]) Tryz.func37 (by kernel_rfl) rfl (by kernel_rfl) aj,G9 (by omega) aW,⟨by omega,λb ag e9=>Hh b (by omega) e9⟩⟩
 have aH:=List.drop_eq_getElem_cons a_
 have tU:aC K h.n 0=some (.ptr p 0):=aN zc rfl
 have rI:=Sd (m+6) s[a] K
 have xd:=G5 (m+6) s[a] K
 have jC:el (s.drop a)=if ie s[a] then(if((s.drop a).takeWhile hM).length>24 then .bad 0 else .tok (if sC ((s.drop a).takeWhile hM) then 2 else 1) ((s.drop a).takeWhile hM) 0 ((s.drop a).takeWhile hM).length)
   else if eC s[a] then(match jI ((s.drop a).takeWhile eC) 0 with|none=>.bad 0|some v=>.tok 3 [] v ((s.drop a).takeWhile eC).length)
   else if s[a].toNat=34 then(match gB (s.drop a).length (s.drop (a+1)) 1 [] with|.ok t n=>.tok 4 t 0 n|.bad n=>.bad n)
   else(match w3 (s.drop a) with|none=>.bad 0|some g=>.tok 5 g 0 g.length):=by
  rw[aH]
  conv=>lhs;unfold el
  simp only[ag,Bool.false_eq_true,if_false,if_neg rG]
  rfl
 rw[jC]
 have dy:∀{G:I},bU p K.n K G->(∀b,b<h.n->b≠p->G.get b=h.get b)/\G.get h.n=some (me p)/\G.get (h.n+1)=some (aD [ad 0,.str [],ad 0,ad a] 76)/\K.n<=G.n:=λ{G} x=>
  ⟨λb ag e9=>(x.get b (by omega) e9).trans (L7 b ag),(x.get h.n (by omega) (by omega)).trans zc,(x.get (h.n+1) (by omega) (by omega)).trans SC,x.n⟩
 cases mM:ie s[a] with
 |true=>
  rw[mM] at rI
  rw[if_pos rfl]
  obtain⟨G,a9,al,bb⟩:=adu (m+4) p a s (.map r) (.slice ch 0 17 (.exact 17)) o K u1 (by omega) (by omega) (by omega)
  obtain⟨W,iv⟩:∃W,(s.drop a).takeWhile hM=W:=⟨_,rfl⟩
  rw[iv] at a9 al⊢
  obtain⟨j9,nV,rH,sE⟩:=dy bb
  obtain⟨hX,py⟩:∃hX,hX=(G.set (h.n+1) (some (aD [ad 1,.str [],ad 0,ad a] 76))).set (h.n+1) (some (aD (fm ⟨1,W,0,a⟩) 76)):=⟨_,rfl⟩
  have st1:aJ.storeCells G (h.n+1) (0+0) [ad 1]=some (G.set (h.n+1) (some (aD [ad 1,.str [],ad 0,ad a] 76))):=cy rH rfl rfl
  have fC:aJ.storeCells (G.set (h.n+1) (some (aD [ad 1,.str [],ad 0,ad a] 76))) (h.n+1) (0+1) [.str W]=some hX:=by rw[py];exact cy (dz rfl) rfl rfl
  have eh:∀b,b≠h.n+1->hX.get b=G.get b:=λb ag=>by rw[py];exact cr ag (cr ag rfl)
  have aU:(hX.room 7).get h.n=some (me p):=(eh h.n (by omega)).trans nV
  have dv:(hX.room 7).get p=some (fl s (a+W.length) (.map r) (.slice ch 0 17 (.exact 17)) o):=(eh p (by omega)).trans al
  have b3:(hX.room 7).get (h.n+1)=some (aD (fm ⟨1,W,0,a⟩) 76):=by
   show hX.get _=_
   rw[py];exact dz rfl
  have b9:uR (hX.room 7) r:=hw.of ((eh r (by omega)).trans (j9 r (by omega) (by omega)))
  have b6:K.n<=(hX.room 7).n:=by
   have:hX.n=G.n:=by rw[py];rfl
   simp;omega
  have Hj:∀b,b<h.n->b≠p->(hX.room 7).get b=h.get b:=λb ag e9=>(eh b (by omega)).trans (j9 b ag e9)
  have Bh:=lookW W b9
  have Hk:aC (hX.room 7) (h.n+1) (0+1)=some (.str W):=aN b3 rfl
  have u2:aC (hX.room 7) (h.n+1) (0+3)=some (ad a):=aN b3 rfl
  cases eF:sC W with
  |true=>
   rw[eF] at Bh
   obtain⟨u3,Hl⟩:∃u3,u3=(hX.room 7).set (h.n+1) (some (aD (fm ⟨2,W,0,a⟩) 76)):=⟨_,rfl⟩
   have xe:aJ.storeCells (hX.room 7) (h.n+1) (0+0) [ad 2]=some u3:=by rw[Hl];exact cy b3 rfl rfl
   have gE:u3.get (h.n+1)=some (aD (fm ⟨2,W,0,a⟩) 76):=by rw[Hl];exact dz rfl
   have g4:∀b,b≠h.n+1->u3.get b=(hX.room 7).get b:=λb ag=>by rw[Hl];exact cr ag rfl
   have ct:K.n<=u3.n:=by rw[Hl];exact b6
   by_cases hlen:W.length>24
   · rw[if_pos hlen]
     refine⟨λk t v n ab=>(by cases ab),λn ab=>?_⟩
     cases ab
     exact DK (n:=0) (dU.post (adM (C (m+7)) h.n (h.n+1) s[a].toNat K true K p 0 W _ _ hX p 0 r W true u3 W a _ _ rI rfl tU a9 st1 fC (aN aU rfl) (aN dv rfl) Hk Bh rfl xe (aN gE rfl) (ib hlen) (aN gE rfl) (w_ (m+6) a u3)) trivial) (by simp;omega) (λb ag e9=>gN (by omega) ((g4 b (by omega)).trans (Hj b ag e9))) (xa ct)
   · rw[if_neg hlen]
     refine⟨λk t v n ab=>?_,λn ab=>(by cases ab)⟩
     cases ab
     exact DJ (adN (C (m+7)) h.n (h.n+1) s[a].toNat K true K p 0 W _ _ hX p 0 r W true u3 W rI rfl tU a9 st1 fC (aN aU rfl) (aN dv rfl) Hk Bh rfl xe (aN gE rfl) (iR hlen)) ct (λb ag e9=>(g4 b (by omega)).trans (Hj b ag e9)) ((g4 h.n (by omega)).trans aU) gE ((g4 p (by omega)).trans dv)
  |false=>
   rw[eF] at Bh
   by_cases hlen:W.length>24
   · rw[if_pos hlen]
     refine⟨λk t v n ab=>(by cases ab),λn ab=>?_⟩
     cases ab
     exact DK (n:=0) (dU.post (adO (C (m+7)) h.n (h.n+1) s[a].toNat K true K p 0 W _ _ hX p 0 r W false a _ _ rI rfl tU a9 st1 fC (aN aU rfl) (aN dv rfl) Hk Bh rfl (ib hlen) u2 (w_ (m+6) a (hX.room 7))) trivial) (by simp;simp at b6;omega) (λb ag e9=>gN (by omega) (Hj b ag e9)) (xa b6)
   · rw[if_neg hlen]
     refine⟨λk t v n ab=>?_,λn ab=>(by cases ab)⟩
     cases ab
     exact DJ (adP (C (m+7)) h.n (h.n+1) s[a].toNat K true K p 0 W _ _ hX p 0 r W false rI rfl tU a9 st1 fC (aN aU rfl) (aN dv rfl) Hk Bh rfl (iR hlen)) b6 Hj aU b3 dv
 |false=>
  rw[mM] at rI
  rw[if_neg (by simp)]
  cases DL:eC s[a] with
  |true=>
   rw[DL] at xd
   rw[if_pos rfl]
   obtain⟨bn,b6⟩:=adx (m+3) p a s (.map r) (.slice ch 0 17 (.exact 17)) o K u1 (by omega) (by omega) (by omega)
   cases aW:jI ((s.drop a).takeWhile eC) 0 with
   |some v=>
    refine⟨λk t v' n ab=>?_,λn ab=>(by cases ab)⟩
    cases ab
    obtain⟨G,a9,al,bb⟩:=bn v aW
    obtain⟨j9,nV,rH,sE⟩:=dy bb
    obtain⟨hX,py⟩:∃hX,hX=(G.set (h.n+1) (some (aD [ad 3,.str [],ad 0,ad a] 76))).set (h.n+1) (some (aD (fm ⟨3,[],v,a⟩) 76)):=⟨_,rfl⟩
    have st1:aJ.storeCells G (h.n+1) (0+0) [ad 3]=some (G.set (h.n+1) (some (aD [ad 3,.str [],ad 0,ad a] 76))):=cy rH rfl rfl
    have fC:aJ.storeCells (G.set (h.n+1) (some (aD [ad 3,.str [],ad 0,ad a] 76))) (h.n+1) (0+2) [ad v]=some hX:=by rw[py];exact cy (dz rfl) rfl rfl
    have eh:∀b,b≠h.n+1->hX.get b=G.get b:=λb ag=>by rw[py];exact cr ag (cr ag rfl)
    exact DJ (adQ (C (m+7)) h.n (h.n+1) s[a].toNat K false K true K p 0 v G _ hX rI rfl xd rfl tU a9 st1 fC) (by rw[py];exact sE) (λb ag e9=>(eh b (by omega)).trans (j9 b ag e9)) ((eh h.n (by omega)).trans nV) (by rw[py];exact dz rfl) ((eh p (by omega)).trans al)
   |none=>
    refine⟨λk t v' n ab=>(by cases ab),λn ab=>?_⟩
    cases ab
    obtain⟨v,G,a9,al,bb⟩:=b6 aW
    obtain⟨j9,nV,rH,sE⟩:=dy bb
    exact DK (n:=0) (adU (C (m+7)) h.n (h.n+1) s[a].toNat 0 0 0 .dead v K K K G p 0 rI xd tU a9) sE j9 al
  |false=>
   rw[DL] at xd
   rw[if_neg (by simp)]
   by_cases rF:s[a].toNat=34
   · rw[if_pos rF]
     have Sw:(line (s.drop (a+1))).length<=(s.drop a).length:=by
      have bj:(line (s.drop (a+1))).length<=(s.drop (a+1)).length:=(List.takeWhile_prefix (l:=s.drop (a+1)) qu).length_le
      rw[List.length_drop] at bj⊢;omega
     obtain⟨bn,b6⟩:=aez m p a s (.map r) (.slice ch 0 17 (.exact 17)) o K aeJ u1 ah ⟨Bf,by omega⟩ aH rF (s.drop a).length Sw
     cases aW:gB (s.drop a).length (s.drop (a+1)) 1 [] with
     |ok t k8=>
      refine⟨λk t v' n ab=>?_,λn ab=>(by cases ab)⟩
      cases ab
      obtain⟨G,a9,al,bb⟩:=bn t k8 aW
      obtain⟨j9,nV,rH,sE⟩:=dy bb
      obtain⟨hX,py⟩:∃hX,hX=(G.set (h.n+1) (some (aD [ad 4,.str [],ad 0,ad a] 76))).set (h.n+1) (some (aD (fm ⟨4,t,0,a⟩) 76)):=⟨_,rfl⟩
      have st1:aJ.storeCells G (h.n+1) (0+0) [ad 4]=some (G.set (h.n+1) (some (aD [ad 4,.str [],ad 0,ad a] 76))):=cy rH rfl rfl
      have fC:aJ.storeCells (G.set (h.n+1) (some (aD [ad 4,.str [],ad 0,ad a] 76))) (h.n+1) (0+1) [.str t]=some hX:=by rw[py];exact cy (dz rfl) rfl rfl
      have eh:∀b,b≠h.n+1->hX.get b=G.get b:=λb ag=>by rw[py];exact cr ag (cr ag rfl)
      exact DJ (adR (C (m+7)) h.n (h.n+1) s[a].toNat K false K false K p 0 t G _ hX rI rfl xd rfl (lO rF) tU a9 st1 fC) (by rw[py];exact sE) (λb ag e9=>(eh b (by omega)).trans (j9 b ag e9)) ((eh h.n (by omega)).trans nV) (by rw[py];exact dz rfl) ((eh p (by omega)).trans al)
     |bad k8=>
      refine⟨λk t v' n ab=>(by cases ab),λn ab=>?_⟩
      cases ab
      obtain⟨v,G,a9,al,bb⟩:=b6 k8 aW
      obtain⟨j9,nV,rH,sE⟩:=dy bb
      exact DK (adV (C (m+7)) h.n (h.n+1) s[a].toNat 0 0 0 .dead v K K K G p 0 rI xd (lO rF) tU a9) sE j9 al
   · rw[if_neg rF]
     obtain⟨i1,i2⟩:=aeD (m+3) p h.n a ch s (.map r) (.slice ch 0 17 (.exact 17)) o K (by omega) zc u1 L8
     have SG:aC K p (0+3)=some (.slice ch 0 17 (.exact 17)):=aN u1 rfl
     cases aW:w3 (s.drop a) with
     |none=>
      refine⟨λk t v' n ab=>(by cases ab),λn ab=>?_⟩
      cases ab
      obtain⟨G,a9,sE,j9⟩:=i2 aW
      have nV:=(j9 h.n).trans zc
      have Bg:=(j9 p).trans u1
      exact DK (n:=0) (adW (C (m+7)) h.n (h.n+1) s[a].toNat p ch 17 (.exact 17) .c3 K K K G p 0 a _ _ rI xd (fU rF) tU SG a9 (aN nV rfl) (aN Bg rfl) (w_ (m+6) a G)) (by simp;omega) (λb ag e9=>gN (by omega) ((j9 b).trans (L7 b ag))) (xa sE)
     |some t=>
      refine⟨λk ft v' n ab=>?_,λn ab=>(by cases ab)⟩
      cases ab
      obtain⟨j,G,aL,aeQ,a9,sE,j9⟩:=i1 t aW
      have nV:(G.room 11).get h.n=some (me p):=(j9 h.n).trans zc
      have Bg:(G.room 11).get p=some (fl s a (.map r) (.slice ch 0 17 (.exact 17)) o):=(j9 p).trans u1
      have rH:(G.room 11).get (h.n+1)=some (aD [ad 0,.str [],ad 0,ad a] 76):=(j9 (h.n+1)).trans SC
      have aeR:rv (G.room 11) ch:=L8.of (j9 ch)
      have aeS:j<17:=aL
      have SH:∀X:I,rv X ch->aC X ch (0+j*1)=some (.str t):=λX bk=>by
       obtain⟨r_,d_,lo,up,bk⟩:=bk
       refine aN bk ?_
       have e:0+j*1=j:=by omega
       rw[e,j0,List.getElem?_map,List.getElem?_eq_getElem aL,aeQ];rfl
      obtain⟨pY,Hm⟩:∃pY,pY=(G.room 11).set (h.n+1) (some (aD [ad 5,.str [],ad 0,ad a] 76)):=⟨_,rfl⟩
      obtain⟨q8,Hn⟩:∃q8,q8=pY.set (h.n+1) (some (aD (fm ⟨5,t,0,a⟩) 76)):=⟨_,rfl⟩
      have st1:aJ.storeCells (G.room 11) (h.n+1) (0+0) [ad 5]=some pY:=by rw[Hm];exact cy rH rfl rfl
      have bt:pY.get (h.n+1)=some (aD [ad 5,.str [],ad 0,ad a] 76):=by rw[Hm];exact dz rfl
      have fC:aJ.storeCells pY (h.n+1) (0+1) [.str t]=some q8:=by rw[Hn];exact cy bt rfl rfl
      have e2:∀b,b≠h.n+1->pY.get b=G.get b:=λb ag=>by rw[Hm];exact cr ag rfl
      have eh:∀b,b≠h.n+1->q8.get b=G.get b:=λb ag=>by rw[Hn];exact cr ag (e2 b ag)
      have aV:pY.get h.n=some (me p):=(e2 h.n (by omega)).trans ((j9 h.n).trans zc)
      have aeT:pY.get p=some (fl s a (.map r) (.slice ch 0 17 (.exact 17)) o):=(e2 p (by omega)).trans ((j9 p).trans u1)
      have aeU:rv pY ch:=L8.of ((e2 ch (by omega)).trans (j9 ch))
      have aU:(q8.room 11).get h.n=some (me p):=(eh h.n (by omega)).trans ((j9 h.n).trans zc)
      have dv:(q8.room 11).get p=some (fl s a (.map r) (.slice ch 0 17 (.exact 17)) o):=(eh p (by omega)).trans ((j9 p).trans u1)
      have b3:(q8.room 11).get (h.n+1)=some (aD (fm ⟨5,t,0,a⟩) 76):=by
       show q8.get _=_
       rw[Hn];exact dz rfl
      have L_:t.length<=2:=by
       have:=(RI t (Le aW).1).2
       omega
      have m1:Nat.le (Nat.succ j) 17:=aeS
      have alQ:q8.n=G.n+11:=by rw[Hn,Hm];rfl
      exact DJ (adS (C (m+7)) h.n (h.n+1) s[a].toNat K false K false K p 0 ch 0 17 (.exact 17) j G p 0 ch 0 17 (.exact 17) t pY q8 p 0 a t _ _ rI rfl xd rfl (fU rF) tU SG a9 (aN nV rfl) (aN Bg rfl) m1 (SH _ aeR) st1 fC (aN aV rfl) (aN aeT rfl) (SH _ aeU) (aN aU rfl) (aN dv rfl) (aN b3 rfl) (nL (i:=a) (j:=t.length) (by omega)) (cy dv rfl rfl))
       (by simp;omega) (λb ag e9=>cr e9 ((eh b (by omega)).trans ((j9 b).trans (L7 b ag)))) (cr (by omega) aU) (cr (by omega) b3) (dz rfl)
theorem uZ.nH{p ch:Nat}{s:List UInt8}{a:Nat}{out:List bP}(hi:uZ p r ch s a out h):∃o,h.get p=some (fl s a (.map r) (.slice ch 0 17 (.exact 17)) o)/\∀n ay,ay.get p=some (fl s n (.map r) (.slice ch 0 17 (.exact 17)) o)->bU p h.n h ay->uZ p r ch s n out ay:=by
 obtain⟨⟨o,dO,bg⟩,hw,wk,Hg,Bf,L6,CQ,u0⟩:=hi
 have gU:=bg.ne dO (.inl (by simp))
 refine⟨o,dO,λn ay g x=>⟨⟨o,g,bg.cx x.n λq bB DM=>x.get q DM λe=>gU _ _ (bB.trans (congrArg (λz=>aa.slice z 0 out.length (.aX 4)) e))⟩,hw.of (x.get r (by omega) (by omega)),wk.of (x.get ch (by omega) (by omega)),nT Hg λb ag=>x.get b (by omega) (by omega),Bf,L6,CQ,by have:=x.n;omega⟩⟩
abbrev Bi(s:List UInt8)(aV aU p:Nat)(d:List cc)(h:I):bD:=⟨[(0,.str s),(2,.ptr aV 0),(3,.ptr aU 0),(4,.ptr p 0)],d,.none,h⟩
def zd(m p r ch aV aU:Nat)(s:List UInt8)(d:List cc)(f:Nat)(h:I):Except Nat (List bP)->Prop
 |.ok res=>∃k ay out,k<=f+1/\eP an Tryz.f18 none (C (m+8)) [1,1,1,0,0] k (Bi s aV aU p d h) (.exit 0) (Bi s aV aU p d ay)/\res=out++[⟨0,[],0,s.length⟩]/\out.length<=s.length/\uZ p r ch s s.length out ay/\bU p (p+1) h ay
 |.error e=>∃k v ay,k<=f+1/\eP an Tryz.f18 none (C (m+8)) [1,1,1,0,0] k (Bi s aV aU p d h) (.aK v) (Bi s aV aU p d ay)/\qA v e h ay/\bU p (p+1) h ay
theorem zd.step{m p ch aV aU:Nat}{s:List UInt8}{d:List cc}{f:Nat}(aj:a0 an Tryz.f18 none (C (m+8)) [1,1,1,0,0,0] (Bi s aV aU p d h) .nrm (Bi s aV aU p d g))(ab:bU p (p+1) h g):∀{x:Except Nat (List bP)},zd m p r ch aV aU s d f g x->zd m p r ch aV aU s d (f+1) h x
 |.ok res,⟨k,ay,out,J,ae,aq,aQ,bj,cW⟩=>⟨k+1,ay,out,by omega,.step aj ae,aq,aQ,bj,ab.trans (Nat.le_refl _) cW⟩
 |.error e,⟨k,v,ay,J,ae,aq,aQ⟩=>⟨k+1,v,ay,by omega,.step aj ae,G9 ab.n aq,ab.trans (Nat.le_refl _) aQ⟩
theorem aeV{c:UInt8}{r:List UInt8}(ag:ma c=false)(rG:¬c.toNat=35)(n:Nat):el (c::r)≠ .skip n:=by
 unfold el
 simp only[ag,Bool.false_eq_true,if_false,if_neg rG]
 intro h
 split at h
 · split at h<;>cases h
 split at h
 · split at h<;>cases h
 split at h
 · split at h<;>cases h
 split at h<;>cases h
theorem Ho(m p r ch aV aU:Nat)(s:List UInt8)(d:List cc)(ah:s.length<=80000):∀(f a:Nat) (out:List bP) (h:I),s.length-a<=f->a<=s.length->out.length<=a->uZ p r ch s a out h->zd m p r ch aV aU s d f h (ig f (s.drop a) a out)
 |0,a,out,h,aM,a_,td,hi=>by
  obtain rfl:a=s.length:=by omega
  obtain⟨o,dO,_⟩:=hi.nH
  exact⟨1,h,out,by omega,.exit (Sn (C (m+8)) s aV aU p d h s.length (aN dO rfl) (iR (by omega))) (by simp),rfl,td,hi,.refl _ _ _⟩
 |f+1,a,out,h,aM,a_,td,hi=>by
  obtain⟨o,dO,nH⟩:=hi.nH
  have u0:=hi.lt.2.2.2
  have Bf:=hi.lt.1
  have u4:aC h p (0+1)=some (ad a):=aN dO rfl
  rcases Nat.lt_or_ge a s.length with cf|tr
  · have aH:=List.drop_eq_getElem_cons cf
    have Bb:(s.drop a).length=s.length-a:=List.length_drop
    have jC:=Dx s[a] (s.drop (a+1))
    rw[<-aH,show(s.drop (a+1)).length+1=(s.drop a).length by rw[aH];rfl,Bb] at jC
    unfold ig
    rw[aH]
    simp only
    rw[<-aH]
    have i1:=ib cf
    have i2:eJ a s=some (ax s[a].toNat):=AB cf
    by_cases ag:ma s[a]=true
    · have he:el (s.drop a)=.skip 1:=by rw[aH];unfold el;simp only;rw[if_pos ag]
      rw[he]
      simp only
      rw[List.drop_drop]
      have rC:arith BinOp.add IntKind.i64 (Int.ofNat a) (Int.ofNat 1)=some (ad (a+1)):=nL (by omega)
      have uI:aJ.storeCells h p (0+1) [ad (a+1)]=some (h.set p (some (fl s (a+1) (.map r) (.slice ch 0 17 (.exact 17)) o))):=cy dO rfl rfl
      refine zd.step ?_ (bU.set _) (Ho m p r ch aV aU s d ah f (a+1) out _ (by omega) (by omega) (by omega) (nH (a+1) _ (dz rfl) (bU.set _)))
      by_cases aG:s[a].toNat=32
      · exact ad9 (C (m+8)) s aV aU p d h _ _ _ _ u4 i1 i2 (lO aG) rC uI
      by_cases aE:s[a].toNat=9
      · exact ad_ (C (m+8)) s aV aU p d h _ _ _ _ u4 i1 i2 (fU aG) (lO aE) rC uI
      by_cases br:s[a].toNat=10
      · exact aea (C (m+8)) s aV aU p d h _ _ _ _ u4 i1 i2 (fU aG) (fU aE) (lO br) rC uI
      have dw:s[a].toNat=13:=by
       simp[ma,aG,aE,br] at ag;exact ag
      exact aeb (C (m+8)) s aV aU p d h _ _ _ _ u4 i1 i2 (fU aG) (fU aE) (fU br) (lO dw) rC uI
    · have iZ:ma s[a]=false:=by simpa using ag
      have aG:¬s[a].toNat=32:=λe=>ag (by simp[ma,e])
      have aE:¬s[a].toNat=9:=λe=>ag (by simp[ma,e])
      have br:¬s[a].toNat=10:=λe=>ag (by simp[ma,e])
      have dw:¬s[a].toNat=13:=λe=>ag (by simp[ma,e])
      by_cases rG:s[a].toNat=35
      · obtain⟨bt,b3⟩:=aen (m+1) p a s (.map r) (.slice ch 0 17 (.exact 17)) o h hi.eW dO ah a_ ⟨Bf,u0⟩ (s.drop a).length (List.takeWhile_prefix (l:=s.drop a) qu).length_le
        have he:el (s.drop a)=(match jT (s.drop a).length (s.drop a) 0 with|(true,n)=>.skip n|(false,n)=>.bad n):=by
         rw[aH]
         conv=>lhs;unfold el
         simp only[iZ,Bool.false_eq_true,if_false,if_pos rG]
         rfl
        cases aj:jT (s.drop a).length (s.drop a) 0 with
        |mk iP n=>
         rw[aj] at bt b3 he
         cases iP with
         |true=>
          simp only at he
          rw[he] at jC⊢
          simp only
          obtain⟨g,a9,al,bb⟩:=bt rfl
          rw[List.drop_drop]
          exact zd.step (aec (C (m+8)) s aV aU p d h _ _ _ u4 i1 i2 (fU aG) (fU aE) (fU br) (fU dw) (lO rG) a9) (bb.le (by omega)) (Ho m p r ch aV aU s d ah f (a+n) out _ (by have:=jC.1;omega) (by have:=jC.2;omega) (by omega) (nH (a+n) _ al bb))
         |false=>
          simp only at he
          rw[he]
          obtain⟨v,g,a9,v1,bb⟩:=b3 rfl
          exact⟨1,v,g,by omega,.exit (aee (C (m+8)) s aV aU p v d h g _ _ u4 i1 i2 (fU aG) (fU aE) (fU br) (fU dw) (lO rG) a9) (by simp),v1,bb.le (by omega)⟩
      · obtain⟨t1,t2⟩:=aeH m p r ch a s out h hi ah cf (by omega) iZ rG
        cases he:el (s.drop a) with
        |skip n=>rw[aH] at he;exact absurd he (aeV iZ rG n)
        |tok k t v n=>
         rw[he] at jC
         simp only
         obtain⟨g,a9,i3,bb⟩:=t1 k t v n he
         rw[List.drop_drop]
         exact zd.step (aed (C (m+8)) s aV aU p d h _ _ _ u4 i1 i2 (fU aG) (fU aE) (fU br) (fU dw) (fU rG) a9) bb (Ho m p r ch aV aU s d ah f (a+n) _ _ (by have:=jC.1;omega) (by have:=jC.2;omega) (by have:=jC.1;simp;omega) i3)
        |bad n=>
         obtain⟨v,g,a9,v1,bb⟩:=t2 n he
         exact⟨1,v,g,by omega,.exit (aef (C (m+8)) s aV aU p v d h g _ _ u4 i1 i2 (fU aG) (fU aE) (fU br) (fU dw) (fU rG) a9) (by simp),v1,bb⟩
  · obtain rfl:a=s.length:=by omega
    unfold ig
    rw[List.drop_length]
    exact⟨1,h,out,by omega,.exit (Sn (C (m+8)) s aV aU p d h s.length u4 (iR (by omega))) (by simp),rfl,td,hi,.refl _ _ _⟩
theorem SI{av:Env}{y:I}{a:Nat}{v w:aa}(u2:aC y a 0=some v)(ze:aC y b 0=some w)(ae:gk 2 av=some (.ptr a 0):=by kernel_rfl)(aq:gk 3 av=some (.ptr b 0):=by kernel_rfl):iw an (e1 Tryz.f18) Tryz.f18 av y=some (.aF [v,w]):=by
 have e:(Tryz.f18).results.toList=[.cell 2 65,.cell 3 26]:=by kernel_rfl
 have b2:Nat.testBit (e1 Tryz.f18) 2=true:=by kernel_rfl
 have dd:Nat.testBit (e1 Tryz.f18) 3=true:=by kernel_rfl
 have aw:oh an 65=some false:=by kernel_rfl
 have a1:oh an 26=some false:=by kernel_rfl
 have ea:eg an 65=some 1:=by kernel_rfl
 have dE:eg an 26=some 1:=by kernel_rfl
 unfold iw
 rw[e]
 simp only[o6,rj,b2,dd,ae,aq,aw,a1,ea,dE,u2,ze]
abbrev sF:b5:=aD [.ao] 65
abbrev sG:b5:=aD [.c3] 26
theorem SJ(m:Nat)(s:List UInt8)(h:I)(aI:gH h dL=true)(aT:7<=h.n)(ah:s.length<=80000):
  (∀out,px s=.ok out->∃v ay,C (m+9) (.fn 18) [.str s] h=.ret (.aF [v,.c3]) ay/\iH fm 4 76 h.n ay v out/\Ext h.n h ay)/\
  (∀a,px s=.error a->∃e ay,C (m+9) (.fn 18) [.str s] h=.ret (.aF [.ao,.iface 68 (.ptr e 0)]) ay/\ay.get e=some (qz a)/\h.n<=e/\e<ay.n/\Ext h.n h ay):=by
 have az:=ad6 (C (m+8)) s h
 obtain⟨ae,wq⟩:∃ae,ae=(h.push sF).push sG:=⟨_,rfl⟩
 have b6:ae.n=h.n+2:=by rw[wq];rfl
 have eh:∀b,b<h.n->ae.get b=h.get b:=λb ag=>by rw[wq];exact gN (by simp;omega) (gN ag rfl)
 have c9:ae.get h.n=some sF:=by rw[wq];exact gN (by simp) (dx rfl)
 have b2:ae.get (h.n+1)=some sG:=by rw[wq];exact dx rfl
 have t2:gH ae dL=true:=nT aI λb ag=>eh b (by omega)
 obtain⟨r,g,a9,b_,bb,alR,sa⟩:=abj (m+7) ae t2
 have alS:=bb.n
 have t3:gH g dL=true:=nT t2 λb ag=>bb.get b (by omega)
 obtain⟨ch,al,cI,b9,cw,hb,hH⟩:=abm (m+7) g t3
 have alT:=cw.n
 obtain⟨aq,ni⟩:∃aq,aq=al.push (fl s 0 (.map r) (.slice ch 0 17 (.exact 17)) .ao):=⟨_,rfl⟩
 have dc:aq.n=al.n+1:=by rw[ni];rfl
 have g4:∀b,b<al.n->aq.get b=al.get b:=λb ag=>by rw[ni];exact gN ag rfl
 have zf:∀b,b<ae.n->aq.get b=ae.get b:=λb ag=>(g4 b (by omega)).trans ((cw.get b (by omega)).trans (bb.get b ag))
 have gf:aq.get h.n=some sF:=(zf _ (by omega)).trans c9
 have dd:aq.get (h.n+1)=some sG:=(zf _ (by omega)).trans b2
 have hi:uZ al.n r ch s 0 [] aq:=⟨⟨.ao,by rw[ni];exact dx rfl,.inl ⟨rfl,rfl⟩⟩,b_.of ((g4 r (by omega)).trans (cw.get r sa)),b9.of (g4 ch hH),nT t2 λb ag=>zf b (by omega),by omega,by omega,hH,by omega⟩
 have s1:=ad7 (C (m+8)) s h.n (h.n+1) r ch 17 (.exact 17) ae g al a9 cI
 have s2:=ad8 (C (m+8)) s h.n (h.n+1) al.n aq
 rw[wq] at s1
 rw[ni] at s2
 have ho:=Ho m al.n r ch h.n (h.n+1) s [.call 35 [.ptr h.n 0,.ptr (h.n+1) 0]] ah s.length 0 [] aq (by omega) (by omega) (by simp) hi
 rw[List.drop_zero] at ho
 have SK:∀{x},bU al.n (al.n+1) aq x->Ext h.n h x:=λ{x} e=>⟨by have:=e.n;omega,λb ag=>(e.get b (by omega) (by omega)).trans ((zf b (by omega)).trans (eh b ag))⟩
 refine⟨λout bg=>?_,λa bg=>?_⟩
 · rw[show ig s.length s 0 []=.ok out from bg] at ho
   obtain⟨k,x,qD,aO,aZ,rfl,bC,cX,gi⟩:=ho
   have fw:=eP.run (p:=[1,1,1,0,0]) (by kernel_rfl) aZ (by omega)
   have gw:=a0.block (p:=[1,1,1,0]) (id:=0) (by kernel_rfl) fw
   obtain⟨⟨o,dO,cJ⟩,_,_,_,_,_,_,_⟩:=cX
   have zg:=gi.n
   have zh:x.get h.n=some sF:=(gi.get h.n (by omega) (by omega)).trans gf
   have fG:x.get (h.n+1)=some sG:=(gi.get (h.n+1) (by omega) (by omega)).trans dd
   obtain⟨H,g1⟩:∃H,H=(x.room 13).set (x.n+9) (some (aD (fm ⟨0,[],0,s.length⟩) 76)):=⟨_,rfl⟩
   have G8:H.n=x.n+13:=by rw[g1];rfl
   have oL:∀c,c<x.n->H.get c=x.get c:=λc ak=>by rw[g1];exact cr (by omega) rfl
   obtain⟨c,N,ay,dt,dv,gD,kE,oy⟩:=SA (d:=⟨0,[],0,s.length⟩) (b:=x.n+9) cJ (by omega) (by omega) (by omega) oL (by rw[g1];exact dz rfl) (by omega)
   have DD:(x.room 13).get al.n=some (fl s s.length (.map r) (.slice ch 0 17 (.exact 17)) o):=dO
   have Ma:=(oL al.n (by omega)).trans dO
   have uB:ay.get h.n=some sF:=(gD.get h.n (by omega)).trans ((oL _ (by omega)).trans zh)
   have iZ:ay.get (h.n+1)=some sG:=(gD.get (h.n+1) (by omega)).trans ((oL _ (by omega)).trans fG)
   rw[g1] at dt Ma
   obtain⟨y,bH⟩:∃y,y=(ay.set h.n (some (aD [.slice c 0 N (.aX 4)] 65))).set (h.n+1) (some sG):=⟨_,rfl⟩
   have st1:aJ.storeCells ay h.n 0 [.slice c 0 N (.aX 4)]=some (ay.set h.n (some (aD [.slice c 0 N (.aX 4)] 65))):=cy uB rfl rfl
   have en:(ay.set h.n (some (aD [.slice c 0 N (.aX 4)] 65))).get (h.n+1)=some sG:=cr (by omega) iZ
   have fC:aJ.storeCells (ay.set h.n (some (aD [.slice c 0 N (.aX 4)] 65))) (h.n+1) 0 [.c3]=some y:=by rw[bH];exact cy en rfl rfl
   have c4:=aeg (C (m+8)) s h.n (h.n+1) al.n c N s.length o [.call 35 [.ptr h.n 0,.ptr (h.n+1) 0]] x ay _ y (aN DD rfl) (aN DD rfl) dt st1 fC cJ.sound (aN Ma rfl) (aN Ma rfl)
   have aj:=gG [] az (gG [1] s1 (gG [1,1] s2 (gG [1,1,1] (ni▸gw) c4)))
   have c0:=aei (C (m+8)) h.n (h.n+1) y
   have Mb:y.get h.n=some (aD [.slice c 0 N (.aX 4)] 65):=by rw[bH];exact cr (by omega) (dz rfl)
   have Mc:y.get (h.n+1)=some sG:=by rw[bH];exact dz rfl
   have u2:aC y h.n 0=some (.slice c 0 N (.aX 4)):=aN Mb rfl
   have ze:aC y (h.n+1) 0=some .c3:=aN Mc rfl
   refine⟨.slice c 0 N (.aX 4),y,C4 (intr:=eD) (n:=m+8) (args:=[.str s]) (gargs:=[.ptr h.n 0,.ptr (h.n+1) 0]) Tryz.func18 (by kernel_rfl) rfl (by kernel_rfl) aj (.inl rfl) Tryz.func35 (by kernel_rfl) (by kernel_rfl) c0 (.inr rfl) (w:=.aF []) (by kernel_rfl) rfl (SI u2 ze),?_,?_⟩
   · rw[bH]
     have aV:=dv.Kg (o:=some (aD [.slice c 0 N (.aX 4)] 65)) uB
     have aU:=aV.Kg (o:=some sG) en
     exact aU.le (by omega)
   · rw[bH]
     refine Ext.ix (by omega) (Ext.ix (Nat.le_refl _) ⟨by omega,λb ag=>(gD.get b (by omega)).trans ((oL b (by omega)).trans ((SK gi).get b ag))⟩)
 · rw[show ig s.length s 0 []=.error a from bg] at ho
   obtain⟨k,v,x,aO,aZ,⟨e,rfl,v1,v2,dP⟩,gi⟩:=ho
   have fw:=eP.run (p:=[1,1,1,0,0]) (by kernel_rfl) aZ (by omega)
   have gw:=a0.qc (p:=[1,1,1,0]) (id:=0) (by kernel_rfl) fw (by simp)
   have zg:=gi.n
   have zh:(x.room 5).get h.n=some sF:=(gi.get h.n (by omega) (by omega)).trans gf
   have fG:(x.room 5).get (h.n+1)=some sG:=(gi.get (h.n+1) (by omega) (by omega)).trans dd
   have aj:=gG [] az (gG [1] s1 (gG [1,1] s2 (AK [1,1,1] (ni▸gw) (by simp))))
   obtain⟨y,bH⟩:∃y,y=((x.room 5).set h.n (some sF)).set (h.n+1) (some (aD [.iface 68 (.ptr e 0)] 26)):=⟨_,rfl⟩
   have st1:aJ.storeCells (x.room 5) h.n 0 [.ao]=some ((x.room 5).set h.n (some sF)):=cy zh rfl rfl
   have en:((x.room 5).set h.n (some sF)).get (h.n+1)=some sG:=cr (by omega) fG
   have fC:aJ.storeCells ((x.room 5).set h.n (some sF)) (h.n+1) 0 [.iface 68 (.ptr e 0)]=some y:=by rw[bH];exact cy en rfl rfl
   have c0:=aeh (C (m+8)) h.n (h.n+1) e x _ y st1 fC
   have Mb:y.get h.n=some sF:=by rw[bH];exact cr (by omega) (dz rfl)
   have Mc:y.get (h.n+1)=some (aD [.iface 68 (.ptr e 0)] 26):=by rw[bH];exact dz rfl
   have u2:aC y h.n 0=some .ao:=aN Mb rfl
   have ze:aC y (h.n+1) 0=some (.iface 68 (.ptr e 0)):=aN Mc rfl
   refine⟨e,y,C4 (intr:=eD) (n:=m+8) (args:=[.str s]) (gargs:=[.ptr h.n 0,.ptr (h.n+1) 0]) Tryz.func18 (by kernel_rfl) rfl (by kernel_rfl) aj (.inr (.inr ⟨_,rfl⟩)) Tryz.func35 (by kernel_rfl) (by kernel_rfl) c0 (.inr rfl) (w:=.aF []) (by kernel_rfl) rfl (SI u2 ze),?_,by omega,by rw[bH];simp;omega,?_⟩
   · rw[bH];exact cr (by omega) (cr (by omega) v1)
   · rw[bH]
     exact Ext.ix (by omega) (Ext.ix (Nat.le_refl _) ⟨by simp;omega,λb ag=>(SK gi).get b ag⟩)
end Go.Proofs.iI
