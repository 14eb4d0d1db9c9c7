/-
  PROVED HERE: contracts of functions (Df). No condition beside each statement's own.
-/
import Derived.Test.YtlelojncabdnoaaDoorDd
import Derived.Test.YtlelojncabdnoaaDoorDe
import Derived.Test.YtlelojncabdnoaaDoorDb
set_option linter.unusedVariables false
set_option linter.unusedSimpArgs false
set_option maxRecDepth 100000
set_option maxHeartbeats 1000000
namespace Go.Proofs.hD
open Go aS Go.Proofs
variable {Q:aU->aB->Prop} {R:bM->Prop}
theorem TD(m:Nat)(a z:Int)(p q s:List UInt8)(h:J)(H:∃s1,aO (J.room (J.push h (ay [.int .i64 a,.str p,.str q,.str s,.int .i64 z] 30)) 11) h.n 3=some (.str s1)/\∃s2 g1,Y m (.fn 7) [.str s1] (J.room (J.push h (ay [.int .i64 a,.str p,.str q,.str s,.int .i64 z] 30)) 11)=.ret (.str s2) g1/\∃bS:Int,aO g1 h.n 4=some (.int .i64 bS)/\∃z2:Int,gX jZ (.int .i64 bS) [ai 4800]=some (.int .i64 z2)/\∃aE,gX mV (ai 0) [.int .i64 z2]=some (ai aE)/\∃dO:b8,ob al 56 (ai aE) (ai aE) (J.n (J.push h (ay [.int .i64 a,.str p,.str q,.str s,.int .i64 z] 30))+7)=some (.slice (J.n (J.push h (ay [.int .i64 a,.str p,.str q,.str s,.int .i64 z] 30))+7) 0 aE (.exact aE),dO)/\∃bz,iB al 56 9 (.slice (J.n (J.push h (ay [.int .i64 a,.str p,.str q,.str s,.int .i64 z] 30))+7) 0 aE (.exact aE)) (J.set g1 (J.n (J.push h (ay [.int .i64 a,.str p,.str q,.str s,.int .i64 z] 30))+7) (some dO))=iT.val (.str bz) (J.set g1 (J.n (J.push h (ay [.int .i64 a,.str p,.str q,.str s,.int .i64 z] 30))+7) (some dO))/\List.length s2+List.length bz<=1000000000000/\I.sound (.int .i64 bS)=true/\aO (J.set g1 (J.n (J.push h (ay [.int .i64 a,.str p,.str q,.str s,.int .i64 z] 30))+7) (some dO)) h.n 4=some (.int .i64 bS)/\aO (J.room (J.push h (ay [.int .i64 a,.str p,.str q,.str s,.int .i64 z] 30)) 11) h.n 4=some (.int .i64 bS)/\I.sound (.int .i64 z2)=true/\gX jZ (.int .i64 bS) [ai 4800]=some (.int .i64 z2)/\gX jZ (.int .i64 bS) [ai 4800]=some (.int .i64 z2)/\gX mV (ai 0) [.int .i64 z2]=some (ai aE)/\gX mV (ai 0) [.int .i64 z2]=some (ai aE)/\∃ef:b8,ob al 56 (ai aE) (ai aE) (J.n (J.push h (ay [.int .i64 a,.str p,.str q,.str s,.int .i64 z] 30))+7)=some (.slice (J.n (J.push h (ay [.int .i64 a,.str p,.str q,.str s,.int .i64 z] 30))+7) 0 aE (.exact aE),ef)/\iB al 56 9 (.slice (J.n (J.push h (ay [.int .i64 a,.str p,.str q,.str s,.int .i64 z] 30))+7) 0 aE (.exact aE)) (J.set (J.room (J.push h (ay [.int .i64 a,.str p,.str q,.str s,.int .i64 z] 30)) 11) (J.n (J.push h (ay [.int .i64 a,.str p,.str q,.str s,.int .i64 z] 30))+7) (some ef))=iT.val (.str bz) (J.set (J.room (J.push h (ay [.int .i64 a,.str p,.str q,.str s,.int .i64 z] 30)) 11) (J.n (J.push h (ay [.int .i64 a,.str p,.str q,.str s,.int .i64 z] 30))+7) (some ef))/\R (.ret (.str (s2++bz)) (J.set g1 (J.n (J.push h (ay [.int .i64 a,.str p,.str q,.str s,.int .i64 z] 30))+7) (some dO)))):
  R (Y (m+1) (.fn 10) [.agg [.int .i64 a,.str p,.str q,.str s,.int .i64 z]] h):=
 HJ [(5,.aY .st),(7,.aY (.z .i64)),(8,.aY (.z .i64)),(9,.aY (.n .i64)),(10,.aY .nq),(11,.aY .st)] [(0,.c6 [.v (.int .i64 a),.v (.str p),.v (.str q),.v (.str s),.v (.int .i64 z)])] Tryd.func10 H
theorem TE(m k:Nat)(h:J)(H:R (.ret (.fn 42 [] [aq h.n]) (J.push h (ay [.map k] 57)))):
  R (Y (m+1) (.fn 23) [.map k] h):=
 fv [] [] Tryd.func23 H
theorem JQ(a b:Int):gX jZ (.int .i64 a) [.int .i64 b]=some (.int .i64 (min a b)):=by
 have key:(if eC b a=true then b else a)=min a b:=by
  rw[nQ]
  by_cases h:b<a
  · rw[if_pos (decide_eq_true h)];omega
  · rw[if_neg (by simpa using h)];omega
 simp only[gX,jZ,if_true,key]
theorem TF(a b:Int):gX mV (.int .i64 a) [.int .i64 b]=some (.int .i64 (max a b)):=by
 have key:(if eC a b=true then b else a)=max a b:=by
  rw[nQ]
  by_cases h:a<b
  · rw[if_pos (decide_eq_true h)];omega
  · rw[if_neg (by simpa using h)];omega
 simp only[gX,mV,if_true,key]
theorem DE(m:Nat)(s:bf)(h:J):Y (m+1) (.fn 7) [.str s] h=.ret (.str (s.take 200)) h:=by
 have e:min (Int.ofNat s.length) (Int.ofNat 200)=Int.ofNat (min s.length 200):=by simp only[Int.ofNat_eq_natCast];omega
 have au:s.take (min s.length 200)=s.take 200:=by
  rcases Nat.le_total s.length 200 with h|h
  · rw[Nat.min_eq_left h,List.take_of_length_le (Nat.le_refl _),List.take_of_length_le h]
  · rw[Nat.min_eq_right h]
 refine RO m s h (R:=λx=>x=.ret (.str (s.take 200)) h) ⟨min s.length 200,by rw[JQ,e],s.take 200,?_,rfl⟩
 rw[GX zP (by omega),au]
def jF(z:Int):Nat:=(max 0 (min z 4800)).toNat
def uG(s:bf)(z:Int):bf:=s.take 200++List.replicate (jF z) 0
theorem TG(s:bf)(z:Int):(uG s z).length<=5000:=by
 unfold uG jF
 rw[List.length_append,List.length_take,List.length_replicate]
 omega
theorem TH:∃i,al.info? 5=some i/\i.size=1/\i.bytes=1:=Dx
theorem JR(m:Nat)(a z:Int)(p q s:bf)(h:J):∃g,Y (m+2) (.fn 10) [.agg [.int .i64 a,.str p,.str q,.str s,.int .i64 z]] h=.ret (.str (uG s z)) g/\Ext h.n h g:=by
 obtain⟨H,hH⟩:∃H,H=h.push (ay [.int .i64 a,.str p,.str q,.str s,.int .i64 z] 30):=⟨_,rfl⟩
 have uD:H.n=h.n+1:=by rw[hH];rfl
 have gW:Ext h.n h H:=by rw[hH];exact Ext.push (Nat.le_refl _) _
 have qT:(H.room 11).get h.n=some (ay [.int .i64 a,.str p,.str q,.str s,.int .i64 z] 30):=by rw[hH];exact c8 rfl
 obtain⟨o,aQ⟩:∃o,o=b8.cells (cU (List.replicate (jF z) 0)) 5 .own 0 0:=⟨_,rfl⟩
 obtain⟨i,uC,o5,TI⟩:=TH
 have vj:jF z<=1000000:=by unfold jF;omega
 have av:Int.ofNat (jF z)=max 0 (min z 4800):=by
  unfold jF
  exact Int.toNat_of_nonneg (by omega)
 have ms:=ON (P:=al) (t:=56) (e:=5) (n:=jF z) (b:=H.n+7) (i:=i) (by kernel_rfl) uC o5 TI (by kernel_rfl) vj
 rw[<-aQ] at ms
 have eF:al.underlying 56=some (.slice 5):=by kernel_rfl
 have fG:al.underlying 9=some .string:=by kernel_rfl
 have jT:al.underlying 5=some (.int .u8):=by kernel_rfl
 have p4:∀g:J,iB al 56 9 (.slice (H.n+7) 0 (jF z) (.exact (jF z))) (g.set (H.n+7) (some o))=.val (.str (List.replicate (jF z) 0)) (g.set (H.n+7) (some o)):=λg=>by
  have pb:∀l:List UInt8,(cU l).length=l.length:=λl=>by
   induction l with
   |nil=>rfl
   |cons x l bc=>simp[cU,bc]
  have ld:aS.loadCells (g.set (H.n+7) (some o)) (H.n+7) 0 (jF z)=some (cU (List.replicate (jF z) 0)):=by
   refine ih (e8 rfl|>.trans (by rw[aQ])) ?_
   have:=Cg (cU (List.replicate (jF z) 0)) [] (jF z) (by rw[pb,List.length_replicate])
   rw[List.append_nil] at this
   exact this
  simp only[iB,eF,fG,jT,ld,Ce]
 have DF:gX mV (.int .i64 (Int.ofNat 0)) [.int .i64 (min z 4800)]=some (.int .i64 (Int.ofNat (jF z))):=by rw[TF,av];rfl
 have k7:gX jZ (.int .i64 z) [.int .i64 (Int.ofNat 4800)]=some (.int .i64 (min z 4800)):=JQ z 4800
 have XU:=List.length_replicate (n:=jF z) (a:=(0:UInt8))
 have lt:(s.take 200).length<=200:=by rw[List.length_take];omega
 refine TD (m+1) a z p q s h (R:=λx=>∃g,x=.ret (.str (uG s z)) g/\Ext h.n h g) ?_
 rw[<-hH]
 have gs:((H.room 11).set (H.n+7) (some o)).get h.n=some (ay [.int .i64 a,.str p,.str q,.str s,.int .i64 z] 30):=c9 (by omega) qT
 exact⟨s,ld1 qT rfl,s.take 200,H.room 11,DE m s _,z,ld1 qT rfl,_,k7,jF z,DF,o,ms,_,p4 _,by omega,rfl,ld1 gs rfl,ld1 qT rfl,rfl,k7,k7,DF,DF,o,ms,p4 _,_,rfl,Ext.l3 (by omega) (gW.trans gW.n (Ext.room _ _ _))⟩
def sZ(h:J)(v:I)(ds:List bV):Prop:=(v=.bn/\ds=[])\/∃p,v=.slice p 0 ds.length (.aH 3)/\p<h.n/\h.get p=some (.cells (cc cW ds) 40 .aH 0 0)
theorem sZ.len{h:J}{v:I}{ds:List bV}(o:sZ h v ds)(g:J):fO al g 32 v=some (ai ds.length):=by
 rcases o with⟨rfl,rfl⟩|⟨p,rfl,_⟩<;>rfl
theorem JS:∀{l:List Nat},l.Nodup->pn l=true
 |[],_=>rfl
 |a::l,h=>by
  obtain⟨h1,aa⟩:=List.nodup_cons.1 h
  have:(l.any λx=>Nat.beq a x)=false:=by
   rw[List.any_eq_false]
   intro x U e
   exact h1 (by rw[Nat.eq_of_beq_eq_true e];exact U)
  unfold pn
  rw[this]
  exact JS aa
theorem JT:∀{l:List bf},l.Nodup->qL l=true
 |[],_=>rfl
 |a::l,h=>by
  obtain⟨h1,aa⟩:=List.nodup_cons.1 h
  have:(l.any λx=>cr a x)=false:=by
   rw[List.any_eq_false]
   intro x U e
   rw[ha,beq_iff_eq] at e
   exact h1 (by rw[e];exact U)
  unfold qL
  rw[this]
  exact JT aa
def mR(x:dz bV):e0:=⟨x.k,x.v,x.born⟩
theorem DG:∀A:List (dz bV),ur (A.map (fw po))=some (A.map mR)
 |[]=>rfl
 |x::A=>by
  have bc:=DG A
  simp only[List.map_cons,ur,bc]
  rfl
theorem TJ(m:Nat){F:Nat->Prop}{h:J}{p:Nat}{q:cT}{s:cj}(w:dL F h p q s)(ok:ir s):∃g v,∃L:List e0,Y (m+2) (.fn 8) [.ptr p 0] h=.ret v g/\sZ g v (mb L)/\L.map (·.f)=s.ax/\(L.map (·.f.p)).Nodup/\Ext h.n h g/\∀b o n c,v=.slice b o n c->h.n<=b:=by
 obtain⟨m1,m2,c1,c2,dF,A,T,w,_,_,nr,_,_⟩:=w
 obtain⟨eF,fG,jT⟩:=w.up
 have hY:(A.map mR).map (·.f)=s.ax:=by rw[nr,List.map_map];rfl
 have iW:((A.map mR).map (·.f.p)).Nodup:=by
  have:=ok.dG
  rw[<-hY,List.map_map] at this
  exact this
 obtain⟨H,hH⟩:∃H,H=h.push (ay [.map m1] 57):=⟨_,rfl⟩
 have uD:H.n=h.n+1:=by rw[hH];rfl
 have gW:Ext h.n h H:=by rw[hH];exact Ext.push (Nat.le_refl _) _
 have av:aO H h.n 0=some (.map m1):=by rw[hH];exact ld1 (c8 rfl) rfl
 have au:H.get m1=some (.map (A.map (fw po)) c1):=(gW.get m1 fG).trans w.f1
 have hlen:(A.map mR).length<=64:=by
  have:=ok.wX.2
  rw[<-hY,List.length_map] at this
  exact this
 have cN:(pn ((A.map mR).map (·.born))&&(qL ((A.map mR).map (·.f.p))&&(((A.map mR).all λd=>Nat.blt d.born c1)&&(Nat.ble (A.map mR).length 100000&&(Nat.blt h.n H.n&&Nat.blt m1 H.n)))))=true:=by
  have ck:pn ((A.map mR).map (·.born))=true:=JS (by rw[List.map_map];exact w.sO.2)
  have cn:((A.map mR).all λd=>Nat.blt d.born c1)=true:=by
   rw[List.all_eq_true]
   intro d ak
   obtain⟨x,U,rfl⟩:=List.mem_map.1 ak
   rw[Nat.blt_eq]
   exact w.sO.1 x U
  have fT:Nat.ble (A.map mR).length 100000=true:=by rw[Nat.ble_eq];omega
  have kg:Nat.blt h.n H.n=true:=by rw[Nat.blt_eq];omega
  have pf:Nat.blt m1 H.n=true:=by rw[Nat.blt_eq];omega
  rw[ck,JT iW,cn,fT,kg,pf];rfl
 have iG:Y (m+1) (.fn 23) [.map m1] h=.ret (.fn 42 [] [.ptr h.n 0]) H:=TE m m1 h (R:=λx=>x=.ret (.fn 42 [] [.ptr h.n 0]) H) (by rw[hH])
 have ae:Nat.beq 22 22=true:=rfl
 have ev:(Nat.beq 42 42&&Nat.beq 24 24)=true:=rfl
 have told:∀{v g},sM 22 [.fn 42 [] [.ptr h.n 0],.fn 24 [] []] H=some (v,g)->Y (m+1) (.fn 22) [.fn 42 [] [.ptr h.n 0],.fn 24 [] []] H=.ret v g:=λ{v g} e=>by
  have:fl 22 [.fn 42 [] [.ptr h.n 0],.fn 24 [] []] H=some (v,g):=by
   rw[<-e];rfl
  show cF al fl (m+1) _ _ _=_
  simp only[cF,this]
 have go:∀{v g},sM 22 [.fn 42 [] [.ptr h.n 0],.fn 24 [] []] H=some (v,g)->Y (m+2) (.fn 8) [.ptr p 0] h=.ret v g:=λ{v g} e=>
  Rj (m+1) p m1 h (R:=λx=>x=.ret v g) ⟨ld1 w.st rfl,_,H,iG,v,g,told e,rfl⟩
 cases ff:A.map mR with
 |nil=>
  rw[ff] at cN hY iW
  refine⟨H,.bn,[],go ?_,.inl ⟨rfl,rfl⟩,hY,iW,gW,λb o n c e=>(by cases e)⟩
  have bm:=DG A
  rw[ff] at bm
  unfold sM
  simp only[ae,ev,av,au,bm,cN]
 |cons d l=>
  rw[ff] at cN hY iW
  refine⟨H.push (.cells (cc cW (mb (d::l))) 40 .aH 0 0),.slice H.n 0 (d::l).length (.aH 3),d::l,go ?_,.inr ⟨H.n,by rw[Q6],by simp,c8 rfl⟩,hY,iW,gW.trans gW.n (Ext.push (Nat.le_refl _) _),λb o n c e=>(by cases e;omega)⟩
  have bm:=DG A
  rw[ff] at bm
  unfold sM
  simp only[ae,ev,av,au,bm,cN]
def JU(a b c:Bool):Option Bool:=match some a with
 |some true=>(match some b with
  |some true=>(match some c with
   |some true=>some true
   |r=>r)
  |r=>r)
 |r=>r
theorem TK(h:J)(f g:bV)(x y:Operand):ec al h .eql 40 x y (.agg (cW f)) (.agg (cW g))=some (.bool (cr f.p g.p&&(cr f.x g.x&&dP (Int.ofNat f.n) (Int.ofNat g.n)))):=by
 have e:ec al h .eql 40 x y (.agg (cW f)) (.agg (cW g))=(match JU (cr f.p g.p) (cr f.x g.x) (dP (Int.ofNat f.n) (Int.ofNat g.n)) with|some b=>some (.bool b)|none=>none):=by kernel_rfl
 rw[e]
 cases cr f.p g.p<;>cases cr f.x g.x<;>cases dP (Int.ofNat f.n) (Int.ofNat g.n)<;>rfl
theorem TL(f g:bV):(cr f.p g.p&&(cr f.x g.x&&dP (Int.ofNat f.n) (Int.ofNat g.n)))=true<->f=g:=by
 obtain⟨a,b,c⟩:=f
 obtain⟨b_,ku,c'⟩:=g
 rw[ha,ha,sS]
 simp
theorem s0{h:J}{p i:Nat}{ds:List bV}(an:h.get p=some (.cells (cc cW ds) 40 .aH 0 0))(ag:i<ds.length):aS.loadCells h p (0+i*3) 3=some (cW ds[i]):=by
 have TM:h.get p=some (.cells (cc cW ds++[]) 40 .aH 0 0):=by rw[List.append_nil];exact an
 exact G8 (w:=3) (λ_=>rfl) TM ag (by omega)
theorem DH{h:J}{p i:Nat}{ds:List bV}(an:h.get p=some (.cells (cc cW ds) 40 .aH 0 0))(ag:i<ds.length):aO h p (0+i*3+0)=some (.str ds[i].p):=by
 refine ld1 an ?_
 rw[ks,cc,o9 (w:=3) (λ_=>rfl),if_pos (by omega),show(0+i*3+0)/3=i by omega,show(0+i*3+0) %3=0 by omega,List.getElem?_eq_getElem ag]
 rfl
structure h4(i:Nat)(s:cj):Prop where
 ok:ir s
 fs:s.e1<=Int.ofNat (5000*i)
 bF:∀c,cE s.ts c<=i
theorem h4.up{i:Nat}{s:cj}(h:h4 i s):h4 (i+1) s:=⟨h.ok,by have:=h.fs;simp only[Int.ofNat_eq_natCast] at this⊢;omega,λc=>Nat.le_succ_of_le (h.bF c)⟩
theorem h4.put{i:Nat}{s:cj}(h:h4 i s){p x:bf}(aj:iq p x s=true)(U:x.length<=5000):h4 (i+1) (fg p x s).2:=by
 refine⟨(Iy h.ok aj).1,?_,λc=>?_⟩
 · show s.e1+(Int.ofNat x.length-Int.ofNat (dE s.ax p))<=_
   have:=h.fs
   simp only[Int.ofNat_eq_natCast] at this⊢
   omega
 · show cE (e9 s.ts p (cE s.ts p+1)) c<=i+1
   rw[uv]
   have h1:=h.bF c
   have aa:=h.bF p
   split<;>omega
theorem h4.take{i:Nat}{s:cj}(h:h4 i s)(p:bf):h4 (i+1) (d_ p s):=by
 refine⟨(zE h.ok p).1,?_,λc=>Nat.le_succ_of_le (h.bF c)⟩
 show s.e1-Int.ofNat (dE s.ax p)<=_
 have:=h.fs
 simp only[Int.ofNat_eq_natCast] at this⊢
 omega
theorem h4.move{i:Nat}{s:cj}(h:h4 i s){p q:bf}{f:bV}(hf:cM s.ax p=some f)(bj:cM s.ax q=none):h4 (i+1) (fg q f.x (d_ p s)).2:=by
 have ar:dE s.ax p=f.x.length:=by unfold dE;rw[hf]
 refine⟨(Iz h.ok hf bj).1,?_,λc=>?_⟩
 · show(s.e1-Int.ofNat (dE s.ax p))+(Int.ofNat f.x.length-Int.ofNat (dE (d_ p s).ax q))<=_
   have:=h.fs
   rw[ar]
   simp only[Int.ofNat_eq_natCast] at this⊢
   omega
 · show cE (e9 s.ts q (cE s.ts q+1)) c<=i+1
   rw[uv]
   have h1:=h.bF c
   have aa:=h.bF q
   split<;>omega
theorem TN{cl:bf->Option bf}{i:Nat}{s:cj}{iO:List (bf×Nat)}(h:h4 i s)(ad:nO iO s)(p:bf){x:bf}(U:x.length<=5000):
  h4 (i+1) (gL cl p x s).2.2/\(¬(gL cl p x s).2.1=0->(gL cl p x s).2.2=s)/\
  ((gL cl p x s).2.1=0->∃f,eR cl p (gL cl p x s).2.2=(f,0)/\f.x=x/\f.n=(gL cl p x s).1/\¬(gL cl p x s).1<=cE iO f.p/\nO (e9 iO f.p (gL cl p x s).1) (gL cl p x s).2.2/\mP s.ax (gL cl p x s).2.2.ax [f.p]/\mP (gL cl p x s).2.2.ax s.ax [f.p]):=by
 unfold gL
 cases ab:cl p with
 |none=>exact⟨h.up,λ_=>rfl,λe=>by simp at e⟩
 |some c=>
  simp only
  by_cases ar:x.length<=4096
  · rw[if_pos ar]
    by_cases aj:iq c x s=true
    · rw[if_pos aj]
      obtain⟨bt,bA,eU,fe⟩:=Iy h.ok aj
      obtain⟨h9,lM⟩:=IA ad c x
      refine⟨h.put aj U,λe=>absurd rfl e,λ_=>⟨⟨c,x,(fg c x s).1⟩,?_,rfl,rfl,Nat.not_le.2 h9,lM,bA,eU⟩⟩
      simp only[eR,ab,fe]
    · rw[if_neg aj]
      exact⟨h.up,λ_=>rfl,λe=>by simp at e⟩
  · rw[if_neg ar]
    exact⟨h.up,λ_=>rfl,λe=>by simp at e⟩
theorem AX{cl:bf->Option bf}{i:Nat}{s:cj}{iO:List (bf×Nat)}(h:h4 i s)(ad:nO iO s)(p:bf):
  h4 (i+1) (iQ cl p s).2/\nO iO (iQ cl p s).2/\(¬(iQ cl p s).1=0->(iQ cl p s).2=s)/\
  ((iQ cl p s).1=0->(eR cl p (iQ cl p s).2).2=5/\mP s.ax (iQ cl p s).2.ax [(eR cl p s).1.p]/\mP (iQ cl p s).2.ax s.ax [(eR cl p s).1.p]):=by
 unfold iQ
 cases ab:cl p with
 |none=>exact⟨h.up,ad,λ_=>rfl,λe=>by simp at e⟩
 |some c=>
  simp only
  cases hf:cM s.ax c with
  |none=>exact⟨h.up,ad,λ_=>rfl,λe=>by simp at e⟩
  |some f=>
   obtain⟨bt,bA,eU,fe⟩:=zE h.ok c
   have av:(eR cl p s).1.p=c:=by simp only[eR,ab,hf];exact(lx hf).2
   rw[av]
   refine⟨h.take c,IB ad c,λe=>absurd rfl e,λ_=>⟨?_,bA,eU⟩⟩
   simp only[eR,ab,fe]
theorem TO{cl:bf->Option bf}{i:Nat}{s:cj}{iO:List (bf×Nat)}(h:h4 i s)(ad:nO iO s)(p q:bf):
  h4 (i+1) (gk cl p q s).2.2/\(¬(gk cl p q s).2.1=0->(gk cl p q s).2.2=s)/\
  ((gk cl p q s).2.1=0->∃f,eR cl q (gk cl p q s).2.2=(f,0)/\(eR cl p (gk cl p q s).2.2).2=5/\f.x=(eR cl p s).1.x/\f.n=(gk cl p q s).1/\¬(gk cl p q s).1<=cE iO f.p/\nO (e9 iO f.p (gk cl p q s).1) (gk cl p q s).2.2/\
    mP s.ax (gk cl p q s).2.2.ax [(eR cl p s).1.p,f.p]/\mP (gk cl p q s).2.2.ax s.ax [(eR cl p s).1.p,f.p]):=by
 unfold gk
 cases ab:cl p with
 |none=>exact⟨h.up,λ_=>rfl,λe=>by simp at e⟩
 |some c=>
  simp only
  cases ak:cl q with
  |none=>exact⟨h.up,λ_=>rfl,λe=>by simp at e⟩
  |some d=>
   simp only
   cases hf:cM s.ax c with
   |none=>exact⟨h.up,λ_=>rfl,λe=>by simp at e⟩
   |some f=>
    simp only
    cases an:cM s.ax d with
    |some g=>exact⟨h.up,λ_=>rfl,λe=>by simp at e⟩
    |none=>
     rw[if_neg (by simp)]
     obtain⟨bt,bA,eU,fe,ny⟩:=Iz h.ok hf an
     obtain⟨h9,lM⟩:=IA (IB ad c) d f.x
     have av:(eR cl p s).1=f:=by simp only[eR,ab,hf]
     have au:f.p=c:=(lx hf).2
     rw[av,au]
     refine⟨h.move hf an,λe=>absurd rfl e,λ_=>⟨⟨d,f.x,(fg d f.x (d_ c s)).1⟩,?_,?_,rfl,rfl,Nat.not_le.2 h9,lM,bA,eU⟩⟩
     · simp only[eR,ak,fe]
     · simp only[eR,ab,ny]
end Go.Proofs.hD
