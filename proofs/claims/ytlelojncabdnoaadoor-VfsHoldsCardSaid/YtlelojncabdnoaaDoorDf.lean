/-
  PROVED HERE: contracts of functions (Df). No condition beside each statement's own.
-/
import Derived.Test.YtlelojncabdnoaaDoorDd
import Derived.Test.YtlelojncabdnoaaDoorDe
import Derived.Test.YtlelojncabdnoaaDoorDb
set_option linter.unusedVariables false
set_option linter.unusedSimpArgs false
set_option maxRecDepth 100000
set_option maxHeartbeats 1000000
namespace Go.Proofs.h3
open Go aU Go.Proofs
variable {Q:bh->aQ->Prop} {R:bL->Prop} (call:cJ)
theorem Sc(m:Nat)(a z:Int)(p q s:List UInt8)(h:J)(H:∃s1,aO (J.room (J.push h (av [.int .i64 a,.str p,.str q,.str s,.int .i64 z] 30)) 11) h.n 3=some (.str s1)/\∃s2 g1,Y m (.fn 7) [.str s1] (J.room (J.push h (av [.int .i64 a,.str p,.str q,.str s,.int .i64 z] 30)) 11)=.ret (.str s2) g1/\∃b5:Int,aO g1 h.n 4=some (.int .i64 b5)/\∃z2:Int,fA ji (.int .i64 b5) [ak 4800]=some (.int .i64 z2)/\∃aY,fA jK (ak 0) [.int .i64 z2]=some (ak aY)/\∃dp:b2,ng an 56 (ak aY) (ak aY) (J.n (J.push h (av [.int .i64 a,.str p,.str q,.str s,.int .i64 z] 30))+7)=some (.slice (J.n (J.push h (av [.int .i64 a,.str p,.str q,.str s,.int .i64 z] 30))+7) 0 aY (.exact aY),dp)/\∃bw,hQ an 56 9 (.slice (J.n (J.push h (av [.int .i64 a,.str p,.str q,.str s,.int .i64 z] 30))+7) 0 aY (.exact aY)) (J.set g1 (J.n (J.push h (av [.int .i64 a,.str p,.str q,.str s,.int .i64 z] 30))+7) (some dp))=h9.val (.str bw) (J.set g1 (J.n (J.push h (av [.int .i64 a,.str p,.str q,.str s,.int .i64 z] 30))+7) (some dp))/\List.length s2+List.length bw<=1000000000000/\I.sound (.int .i64 b5)=true/\aO (J.set g1 (J.n (J.push h (av [.int .i64 a,.str p,.str q,.str s,.int .i64 z] 30))+7) (some dp)) h.n 4=some (.int .i64 b5)/\aO (J.room (J.push h (av [.int .i64 a,.str p,.str q,.str s,.int .i64 z] 30)) 11) h.n 4=some (.int .i64 b5)/\I.sound (.int .i64 z2)=true/\fA ji (.int .i64 b5) [ak 4800]=some (.int .i64 z2)/\fA ji (.int .i64 b5) [ak 4800]=some (.int .i64 z2)/\fA jK (ak 0) [.int .i64 z2]=some (ak aY)/\fA jK (ak 0) [.int .i64 z2]=some (ak aY)/\∃dD:b2,ng an 56 (ak aY) (ak aY) (J.n (J.push h (av [.int .i64 a,.str p,.str q,.str s,.int .i64 z] 30))+7)=some (.slice (J.n (J.push h (av [.int .i64 a,.str p,.str q,.str s,.int .i64 z] 30))+7) 0 aY (.exact aY),dD)/\hQ an 56 9 (.slice (J.n (J.push h (av [.int .i64 a,.str p,.str q,.str s,.int .i64 z] 30))+7) 0 aY (.exact aY)) (J.set (J.room (J.push h (av [.int .i64 a,.str p,.str q,.str s,.int .i64 z] 30)) 11) (J.n (J.push h (av [.int .i64 a,.str p,.str q,.str s,.int .i64 z] 30))+7) (some dD))=h9.val (.str bw) (J.set (J.room (J.push h (av [.int .i64 a,.str p,.str q,.str s,.int .i64 z] 30)) 11) (J.n (J.push h (av [.int .i64 a,.str p,.str q,.str s,.int .i64 z] 30))+7) (some dD))/\R (.ret (.str (s2++bw)) (J.set g1 (J.n (J.push h (av [.int .i64 a,.str p,.str q,.str s,.int .i64 z] 30))+7) (some dp)))):
  R (Y (m+1) (.fn 10) [.agg [.int .i64 a,.str p,.str q,.str s,.int .i64 z]] h):=
 BV [(5,.bJ .st),(7,.bJ (.z .i64)),(8,.bJ (.z .i64)),(9,.bJ (.n .i64)),(10,.bJ .jO),(11,.bJ .st)] [(0,.dz [.v (.int .i64 a),.v (.str p),.v (.str q),.v (.str s),.v (.int .i64 z)])] Tryd.func10 H
theorem Sd(m:Nat)(a b c:I)(h:J)(H:cc an Tryd.f14 (Y m) [1,0,1,0] (bb [(0,a),(1,b),(2,c),(7,ak 0)] h) (λfj fk=>∃g1 dx,fj=.exit 0/\fk=bb dx g1/\eu [] dx/\R (.ret (.bool true) g1))):
  R (Y (m+1) (.fn 14) [a,b,c] h):=
 hq [(4000,.gR [0,1,2,7] [(.exit 0,[])])] [0,1,2] Tryd.func14 H
theorem Se(i:Nat)(a b c:I)(h:J)(H:∃aY,gX an h 32 a=some (ak aY)/\¬i<aY/\Q (.exit 0) (bb [(0,a),(1,b),(2,c),(7,ak i)] h)):
  cc an Tryd.f14 call [1,0,1,0,0] (bb [(0,a),(1,b),(2,c),(7,ak i)] h) Q:=
 fy [(1014,.f)] [0,1,2,7] [0,1,2] H
theorem Sf(a N i:Nat)(b c:I)(h:J)(H:(i<N->cc an Tryd.f14 call [1,0,1,0,0,1,0,0,1,0,1,0] (bb [(0,.slice a 0 N (.aE 3)),(1,b),(2,c),(7,ak i),(8,.bool false),(9,ak 0)] h) (λfj fk=>((∃g1 dx,fj=.exit 2/\fk=bb dx g1/\eu [(0,.slice a 0 N (.aE 3)),(1,b),(2,c),(7,ak i),(8,.bool true)] dx/\cc an Tryd.f14 call [1,0,1,0,0,1,0,0,1,1,0,1,0] (bb [(0,.slice a 0 N (.aE 3)),(1,b),(2,c),(7,ak i),(8,.bool true),(10,ak 0)] g1) (λfj fk=>∃g2 l2,fj=.exit 4/\fk=bb l2 g2/\eu [(0,.slice a 0 N (.aE 3)),(1,b),(2,c),(7,ak i),(8,.bool true)] l2/\(0<i->i<N/\∃s1,aO (g2.room 20) a (0+i*3+0)=some (.str s1)/\(1<=i/\i<9223372036854775808)/\i-1<N/\∃s2,aO (g2.room 20) a (0+(i-1)*3+0)=some (.str s2)/\(!dA s2 s1)=false/\i+1<9223372036854775808/\Q .nrm (bb [(0,.slice a 0 N (.aE 3)),(1,b),(2,c),(7,ak (i+1))] (g2.room 20)))/\(¬0<i->i+1<9223372036854775808/\Q .nrm (bb [(0,.slice a 0 N (.aE 3)),(1,b),(2,c),(7,ak (i+1))] (g2.room 20)))))\/(∃g3 pj,fj=.exit 2/\fk=bb pj g3/\eu [(0,.slice a 0 N (.aE 3)),(1,b),(2,c),(7,ak i),(8,.bool false)] pj/\cc an Tryd.f14 call [1,0,1,0,0,1,0,0,1,1,0,1,0] (bb [(0,.slice a 0 N (.aE 3)),(1,b),(2,c),(7,ak i),(8,.bool false),(10,ak 0)] g3) (λfj fk=>∃g4 v8,fj=.exit 4/\fk=bb v8 g4/\eu [(0,.slice a 0 N (.aE 3)),(1,b),(2,c),(7,ak i),(8,.bool true)] v8/\(0<i->i<N/\∃bw,aO (g4.room 20) a (0+i*3+0)=some (.str bw)/\(1<=i/\i<9223372036854775808)/\i-1<N/\∃bG,aO (g4.room 20) a (0+(i-1)*3+0)=some (.str bG)/\(!dA bG bw)=false/\i+1<9223372036854775808/\Q .nrm (bb [(0,.slice a 0 N (.aE 3)),(1,b),(2,c),(7,ak (i+1))] (g4.room 20)))/\(¬0<i->i+1<9223372036854775808/\Q .nrm (bb [(0,.slice a 0 N (.aE 3)),(1,b),(2,c),(7,ak (i+1))] (g4.room 20))))))))/\(¬i<N->Q (.exit 0) (bb [(0,.slice a 0 N (.aE 3)),(1,b),(2,c),(7,ak i)] h))):
  cc an Tryd.f14 call [1,0,1,0,0] (bb [(0,.slice a 0 N (.aE 3)),(1,b),(2,c),(7,ak i)] h) Q:=
 fy [(4002,.gR [0,1,2,7,8,9] [(.exit 2,[(0,.is (.slice a 0 N (.aE 3))),(1,.io b),(2,.io c),(7,.is (ak i)),(8,.is (.bool true))]),(.exit 2,[(0,.is (.slice a 0 N (.aE 3))),(1,.io b),(2,.io c),(7,.is (ak i)),(8,.is (.bool false))])]),(4004,.gR [0,1,2,7,8,10] [(.exit 4,[(0,.is (.slice a 0 N (.aE 3))),(1,.io b),(2,.io c),(7,.is (ak i)),(8,.is (.bool true))])]),(1073,.f)] [0,1,2,7] [1,2] H
theorem Sg(a N i j cF off j8:Nat)(cp:cy)(b:I)(h:J)(H:(j<j8->(true=true->j+1<9223372036854775808/\Q .nrm (bb [(0,.slice a 0 N (.aE 3)),(1,b),(2,.slice cF off j8 cp),(7,ak i),(8,.bool true),(9,ak (j+1))] (h.room 14)))/\(true=false->j<j8/\∃s1,aO (h.room 14) cF (off+j*1)=some (.str s1)/\i<N/\∃s2,aO (h.room 14) a (0+i*3+0)=some (.str s2)/\j+1<9223372036854775808/\Q .nrm (bb [(0,.slice a 0 N (.aE 3)),(1,b),(2,.slice cF off j8 cp),(7,ak i),(8,.bool (cW s1 s2)),(9,ak (j+1))] (h.room 14))))/\(¬j<j8->Q (.exit 2) (bb [(0,.slice a 0 N (.aE 3)),(1,b),(2,.slice cF off j8 cp),(7,ak i),(8,.bool true),(9,ak j)] h))):
  cc an Tryd.f14 call [1,0,1,0,0,1,0,0,1,0,1,0,0] (bb [(0,.slice a 0 N (.aE 3)),(1,b),(2,.slice cF off j8 cp),(7,ak i),(8,.bool true),(9,ak j)] h) Q:=
 fy [] [0,1,2,7,8,9] [1] H
theorem Sh(a N i j er fJ:Nat)(c:I)(h:J)(H:(j<fJ->(true=true->j+1<9223372036854775808/\Q .nrm (bb [(0,.slice a 0 N (.aE 3)),(1,.slice er 0 fJ (.aE 3)),(2,c),(7,ak i),(8,.bool true),(10,ak (j+1))] (h.room 13)))/\(true=false->i<N/\∃s1 s2 aY,aU.loadCells (h.room 13) a (0+i*3) 3=some [.str s1,.str s2,a6 aY]/\j<fJ/\∃bw bG bQ,aU.loadCells (h.room 13) er (0+j*3) 3=some [.str bw,.str bG,a6 bQ]/\∃cC,eo an (h.room 13) .eql 40 (.tmp 47) (.tmp 51) (.agg [.str s1,.str s2,a6 aY]) (.agg [.str bw,.str bG,a6 bQ])=some (.bool cC)/\j+1<9223372036854775808/\Q .nrm (bb [(0,.slice a 0 N (.aE 3)),(1,.slice er 0 fJ (.aE 3)),(2,c),(7,ak i),(8,.bool cC),(10,ak (j+1))] (h.room 13))))/\(¬j<fJ->Q (.exit 4) (bb [(0,.slice a 0 N (.aE 3)),(1,.slice er 0 fJ (.aE 3)),(2,c),(7,ak i),(8,.bool true),(10,ak j)] h))):
  cc an Tryd.f14 call [1,0,1,0,0,1,0,0,1,1,0,1,0,0] (bb [(0,.slice a 0 N (.aE 3)),(1,.slice er 0 fJ (.aE 3)),(2,c),(7,ak i),(8,.bool true),(10,ak j)] h) Q:=
 fy [] [0,1,2,7,8,10] [2] H
theorem Si(a N i j:Nat)(b c:I)(h:J)(H:∃aY,gX an h 35 c=some (ak aY)/\¬j<aY/\Q (.exit 2) (bb [(0,.slice a 0 N (.aE 3)),(1,b),(2,c),(7,ak i),(8,.bool true),(9,ak j)] h)):
  cc an Tryd.f14 call [1,0,1,0,0,1,0,0,1,0,1,0,0] (bb [(0,.slice a 0 N (.aE 3)),(1,b),(2,c),(7,ak i),(8,.bool true),(9,ak j)] h) Q:=
 fy [(1020,.f)] [0,1,2,7,8,9] [1,2] H
theorem Sj(a N i j cF off j8:Nat)(cp:cy)(b:I)(h:J)(H:(j<j8->(false=true->j+1<9223372036854775808/\Q .nrm (bb [(0,.slice a 0 N (.aE 3)),(1,b),(2,.slice cF off j8 cp),(7,ak i),(8,.bool true),(9,ak (j+1))] (h.room 14)))/\(false=false->j<j8/\∃s1,aO (h.room 14) cF (off+j*1)=some (.str s1)/\i<N/\∃s2,aO (h.room 14) a (0+i*3+0)=some (.str s2)/\j+1<9223372036854775808/\Q .nrm (bb [(0,.slice a 0 N (.aE 3)),(1,b),(2,.slice cF off j8 cp),(7,ak i),(8,.bool (cW s1 s2)),(9,ak (j+1))] (h.room 14))))/\(¬j<j8->Q (.exit 2) (bb [(0,.slice a 0 N (.aE 3)),(1,b),(2,.slice cF off j8 cp),(7,ak i),(8,.bool false),(9,ak j)] h))):
  cc an Tryd.f14 call [1,0,1,0,0,1,0,0,1,0,1,0,0] (bb [(0,.slice a 0 N (.aE 3)),(1,b),(2,.slice cF off j8 cp),(7,ak i),(8,.bool false),(9,ak j)] h) Q:=
 fy [] [0,1,2,7,8,9] [1] H
theorem Sk(a N i j er fJ:Nat)(c:I)(h:J)(H:(j<fJ->(false=true->j+1<9223372036854775808/\Q .nrm (bb [(0,.slice a 0 N (.aE 3)),(1,.slice er 0 fJ (.aE 3)),(2,c),(7,ak i),(8,.bool true),(10,ak (j+1))] (h.room 13)))/\(false=false->i<N/\∃s1 s2 aY,aU.loadCells (h.room 13) a (0+i*3) 3=some [.str s1,.str s2,a6 aY]/\j<fJ/\∃bw bG bQ,aU.loadCells (h.room 13) er (0+j*3) 3=some [.str bw,.str bG,a6 bQ]/\∃cC,eo an (h.room 13) .eql 40 (.tmp 47) (.tmp 51) (.agg [.str s1,.str s2,a6 aY]) (.agg [.str bw,.str bG,a6 bQ])=some (.bool cC)/\j+1<9223372036854775808/\Q .nrm (bb [(0,.slice a 0 N (.aE 3)),(1,.slice er 0 fJ (.aE 3)),(2,c),(7,ak i),(8,.bool cC),(10,ak (j+1))] (h.room 13))))/\(¬j<fJ->Q (.exit 4) (bb [(0,.slice a 0 N (.aE 3)),(1,.slice er 0 fJ (.aE 3)),(2,c),(7,ak i),(8,.bool false),(10,ak j)] h))):
  cc an Tryd.f14 call [1,0,1,0,0,1,0,0,1,1,0,1,0,0] (bb [(0,.slice a 0 N (.aE 3)),(1,.slice er 0 fJ (.aE 3)),(2,c),(7,ak i),(8,.bool false),(10,ak j)] h) Q:=
 fy [] [0,1,2,7,8,10] [2] H
theorem Sl(a N i j:Nat)(b c:I)(h:J)(H:∃aY,gX an h 35 c=some (ak aY)/\¬j<aY/\Q (.exit 2) (bb [(0,.slice a 0 N (.aE 3)),(1,b),(2,c),(7,ak i),(8,.bool false),(9,ak j)] h)):
  cc an Tryd.f14 call [1,0,1,0,0,1,0,0,1,0,1,0,0] (bb [(0,.slice a 0 N (.aE 3)),(1,b),(2,c),(7,ak i),(8,.bool false),(9,ak j)] h) Q:=
 fy [(1020,.f)] [0,1,2,7,8,9] [1,2] H
theorem Sm(a N i j:Nat)(b c:I)(h:J)(H:∃aY,gX an h 32 b=some (ak aY)/\¬j<aY/\Q (.exit 4) (bb [(0,.slice a 0 N (.aE 3)),(1,b),(2,c),(7,ak i),(8,.bool true),(10,ak j)] h)):
  cc an Tryd.f14 call [1,0,1,0,0,1,0,0,1,1,0,1,0,0] (bb [(0,.slice a 0 N (.aE 3)),(1,b),(2,c),(7,ak i),(8,.bool true),(10,ak j)] h) Q:=
 fy [(1039,.f)] [0,1,2,7,8,10] [1,2] H
theorem Sn(m k:Nat)(h:J)(H:R (.ret (.fn 42 [] [aA h.n]) (J.push h (av [.map k] 57)))):
  R (Y (m+1) (.fn 23) [.map k] h):=
 hq [] [] Tryd.func23 H
theorem IG(a b:Int):fA ji (.int .i64 a) [.int .i64 b]=some (.int .i64 (min a b)):=by
 have key:(if eW b a=true then b else a)=min a b:=by
  rw[rQ]
  by_cases h:b<a
  · rw[if_pos (decide_eq_true h)];omega
  · rw[if_neg (by simpa using h)];omega
 simp only[fA,ji,if_true,key]
theorem IH(a b:Int):fA jK (.int .i64 a) [.int .i64 b]=some (.int .i64 (max a b)):=by
 have key:(if eW a b=true then b else a)=max a b:=by
  rw[rQ]
  by_cases h:a<b
  · rw[if_pos (decide_eq_true h)];omega
  · rw[if_neg (by simpa using h)];omega
 simp only[fA,jK,if_true,key]
theorem CM(m:Nat)(s:a1)(h:J):Y (m+1) (.fn 7) [.str s] h=.ret (.str (s.take 200)) h:=by
 have e:min (Int.ofNat s.length) (Int.ofNat 200)=Int.ofNat (min s.length 200):=by simp only[Int.ofNat_eq_natCast];omega
 have ar:s.take (min s.length 200)=s.take 200:=by
  rcases Nat.le_total s.length 200 with h|h
  · rw[Nat.min_eq_left h,List.take_of_length_le (Nat.le_refl _),List.take_of_length_le h]
  · rw[Nat.min_eq_right h]
 refine Qi m s h (R:=λx=>x=.ret (.str (s.take 200)) h) ⟨min s.length 200,by rw[IG,e],s.take 200,?_,rfl⟩
 rw[FO Cy (by omega),ar]
def iU(z:Int):Nat:=(max 0 (min z 4800)).toNat
def p0(s:a1)(z:Int):a1:=s.take 200++List.replicate (iU z) 0
theorem Sp(s:a1)(z:Int):(p0 s z).length<=5000:=by
 unfold p0 iU
 rw[List.length_append,List.length_take,List.length_replicate]
 omega
theorem Sq:∃i,an.info? 5=some i/\i.size=1/\i.bytes=1:=CD
theorem II(m:Nat)(a z:Int)(p q s:a1)(h:J):∃g,Y (m+2) (.fn 10) [.agg [.int .i64 a,.str p,.str q,.str s,.int .i64 z]] h=.ret (.str (p0 s z)) g/\Ext h.n h g:=by
 obtain⟨H,hH⟩:∃H,H=h.push (av [.int .i64 a,.str p,.str q,.str s,.int .i64 z] 30):=⟨_,rfl⟩
 have wa:H.n=h.n+1:=by rw[hH];rfl
 have hb:Ext h.n h H:=by rw[hH];exact Ext.push (Nat.le_refl _) _
 have pZ:(H.room 11).get h.n=some (av [.int .i64 a,.str p,.str q,.str s,.int .i64 z] 30):=by rw[hH];exact cT rfl
 obtain⟨o,aN⟩:∃o,o=b2.cells (cI (List.replicate (iU z) 0)) 5 .own 0 0:=⟨_,rfl⟩
 obtain⟨i,tu,n4,Sr⟩:=Sq
 have uj:iU z<=1000000:=by unfold iU;omega
 have aw:Int.ofNat (iU z)=max 0 (min z 4800):=by
  unfold iU
  exact Int.toNat_of_nonneg (by omega)
 have ms:=Nd (P:=an) (t:=56) (e:=5) (n:=iU z) (b:=H.n+7) (i:=i) (by kernel_rfl) tu n4 Sr (by kernel_rfl) uj
 rw[<-aN] at ms
 have fh:an.underlying 56=some (.slice 5):=by kernel_rfl
 have gg:an.underlying 9=some .string:=by kernel_rfl
 have j3:an.underlying 5=some (.int .u8):=by kernel_rfl
 have oY:∀g:J,hQ an 56 9 (.slice (H.n+7) 0 (iU z) (.exact (iU z))) (g.set (H.n+7) (some o))=.val (.str (List.replicate (iU z) 0)) (g.set (H.n+7) (some o)):=λg=>by
  have vk:∀l:List UInt8,(cI l).length=l.length:=λl=>by
   induction l with
   |nil=>rfl
   |cons x l a7=>simp[cI,a7]
  have ld:aU.loadCells (g.set (H.n+7) (some o)) (H.n+7) 0 (iU z)=some (cI (List.replicate (iU z) 0)):=by
   refine mJ (fw rfl|>.trans (by rw[aN])) ?_
   have:=ye (cI (List.replicate (iU z) 0)) [] (iU z) (by rw[vk,List.length_replicate])
   rw[List.append_nil] at this
   exact this
  simp only[hQ,fh,gg,j3,ld,Bf]
 have CN:fA jK (.int .i64 (Int.ofNat 0)) [.int .i64 (min z 4800)]=some (.int .i64 (Int.ofNat (iU z))):=by rw[IH,aw];rfl
 have kj:fA ji (.int .i64 z) [.int .i64 (Int.ofNat 4800)]=some (.int .i64 (min z 4800)):=IG z 4800
 have Uu:=List.length_replicate (n:=iU z) (a:=(0:UInt8))
 have lt:(s.take 200).length<=200:=by rw[List.length_take];omega
 refine Sc (m+1) a z p q s h (R:=λx=>∃g,x=.ret (.str (p0 s z)) g/\Ext h.n h g) ?_
 rw[<-hH]
 have gs:((H.room 11).set (H.n+7) (some o)).get h.n=some (av [.int .i64 a,.str p,.str q,.str s,.int .i64 z] 30):=dt (by omega) pZ
 exact⟨s,ld1 pZ rfl,s.take 200,H.room 11,CM m s _,z,ld1 pZ rfl,_,kj,iU z,CN,o,ms,_,oY _,by omega,rfl,ld1 gs rfl,ld1 pZ rfl,rfl,kj,kj,CN,CN,o,ms,oY _,_,rfl,Ext.nn (by omega) (hb.trans hb.n (Ext.room _ _ _))⟩
def ln(h:J)(v:I)(ds:List b7):Prop:=(v=.bK/\ds=[])\/∃p,v=.slice p 0 ds.length (.aE 3)/\p<h.n/\h.get p=some (.cells (cw c_ ds) 40 .aE 0 0)
theorem ln.ext{h g:J}{v:I}{ds:List b7}(o:ln h v ds)(x:Ext h.n h g):ln g v ds:=by
 rcases o with o|⟨p,dp,dD,l5⟩
 · exact .inl o
 · exact .inr ⟨p,dp,by have:=x.n;omega,(x.get p dD).trans l5⟩
theorem ln.sound{h:J}{v:I}{ds:List b7}(o:ln h v ds):v.sound=true:=by
 rcases o with⟨rfl,_⟩|⟨p,rfl,_⟩<;>rfl
theorem ln.len{h:J}{v:I}{ds:List b7}(o:ln h v ds)(g:J):gX an g 32 v=some (ak ds.length):=by
 rcases o with⟨rfl,rfl⟩|⟨p,rfl,_⟩<;>rfl
theorem IJ:∀{l:List Nat},l.Nodup->oj l=true
 |[],_=>rfl
 |a::l,h=>by
  obtain⟨h1,aa⟩:=List.nodup_cons.1 h
  have:(l.any λx=>Nat.beq a x)=false:=by
   rw[List.any_eq_false]
   intro x U e
   exact h1 (by rw[Nat.eq_of_beq_eq_true e];exact U)
  unfold oj
  rw[this]
  exact IJ aa
theorem IK:∀{l:List a1},l.Nodup->pP l=true
 |[],_=>rfl
 |a::l,h=>by
  obtain⟨h1,aa⟩:=List.nodup_cons.1 h
  have:(l.any λx=>cW a x)=false:=by
   rw[List.any_eq_false]
   intro x U e
   rw[hA,beq_iff_eq] at e
   exact h1 (by rw[e];exact U)
  unfold pP
  rw[this]
  exact IK aa
def l8(x:dh b7):eE:=⟨x.k,x.v,x.born⟩
theorem CO:∀A:List (dh b7),tf (A.map (fa pU))=some (A.map l8)
 |[]=>rfl
 |x::A=>by
  have a7:=CO A
  simp only[List.map_cons,tf,a7]
  rfl
theorem IL(m:Nat){F:Nat->Prop}{h:J}{p:Nat}{q:fb}{s:dd}(w:dP F h p q s)(ok:kA s):∃g v,∃L:List eE,Y (m+2) (.fn 8) [.ptr p 0] h=.ret v g/\ln g v (jg L)/\L.map (·.f)=s.aP/\(L.map (·.f.p)).Nodup/\Ext h.n h g/\∀b o n c,v=.slice b o n c->h.n<=b:=by
 obtain⟨m1,m2,c1,c2,dK,A,T,w,_,_,mw,_,_⟩:=w
 obtain⟨fh,gg,j3⟩:=w.up
 have hr:(A.map l8).map (·.f)=s.aP:=by rw[mw,List.map_map];rfl
 have hl:((A.map l8).map (·.f.p)).Nodup:=by
  have:=ok.du
  rw[<-hr,List.map_map] at this
  exact this
 obtain⟨H,hH⟩:∃H,H=h.push (av [.map m1] 57):=⟨_,rfl⟩
 have wa:H.n=h.n+1:=by rw[hH];rfl
 have hb:Ext h.n h H:=by rw[hH];exact Ext.push (Nat.le_refl _) _
 have aw:aO H h.n 0=some (.map m1):=by rw[hH];exact ld1 (cT rfl) rfl
 have ar:H.get m1=some (.map (A.map (fa pU)) c1):=(hb.get m1 gg).trans w.f1
 have hlen:(A.map l8).length<=64:=by
  have:=ok.pS.2
  rw[<-hr,List.length_map] at this
  exact this
 have cR:(oj ((A.map l8).map (·.born))&&(pP ((A.map l8).map (·.f.p))&&(((A.map l8).all λd=>Nat.blt d.born c1)&&(Nat.ble (A.map l8).length 100000&&(Nat.blt h.n H.n&&Nat.blt m1 H.n)))))=true:=by
  have cC:oj ((A.map l8).map (·.born))=true:=IJ (by rw[List.map_map];exact w.tl.2)
  have cE:((A.map l8).all λd=>Nat.blt d.born c1)=true:=by
   rw[List.all_eq_true]
   intro d al
   obtain⟨x,U,rfl⟩:=List.mem_map.1 al
   rw[Nat.blt_eq]
   exact w.tl.1 x U
  have gr:Nat.ble (A.map l8).length 100000=true:=by rw[Nat.ble_eq];omega
  have l1:Nat.blt h.n H.n=true:=by rw[Nat.blt_eq];omega
  have ku:Nat.blt m1 H.n=true:=by rw[Nat.blt_eq];omega
  rw[cC,IK hl,cE,gr,l1,ku];rfl
 have hT:Y (m+1) (.fn 23) [.map m1] h=.ret (.fn 42 [] [.ptr h.n 0]) H:=Sn m m1 h (R:=λx=>x=.ret (.fn 42 [] [.ptr h.n 0]) H) (by rw[hH])
 have ad:Nat.beq 22 22=true:=rfl
 have eI:(Nat.beq 42 42&&Nat.beq 24 24)=true:=rfl
 have told:∀{v g},rK 22 [.fn 42 [] [.ptr h.n 0],.fn 24 [] []] H=some (v,g)->Y (m+1) (.fn 22) [.fn 42 [] [.ptr h.n 0],.fn 24 [] []] H=.ret v g:=λ{v g} e=>by
  have:fK 22 [.fn 42 [] [.ptr h.n 0],.fn 24 [] []] H=some (v,g):=by
   rw[<-e];rfl
  show cu an fK (m+1) _ _ _=_
  simp only[cu,this]
 have go:∀{v g},rK 22 [.fn 42 [] [.ptr h.n 0],.fn 24 [] []] H=some (v,g)->Y (m+2) (.fn 8) [.ptr p 0] h=.ret v g:=λ{v g} e=>
  PT (m+1) p m1 h (R:=λx=>x=.ret v g) ⟨ld1 w.st rfl,_,H,hT,v,g,told e,rfl⟩
 cases eM:A.map l8 with
 |nil=>
  rw[eM] at cR hr hl
  refine⟨H,.bK,[],go ?_,.inl ⟨rfl,rfl⟩,hr,hl,hb,λb o n c e=>(by cases e)⟩
  have bn:=CO A
  rw[eM] at bn
  unfold rK
  simp only[ad,eI,aw,ar,bn,cR]
 |cons d l=>
  rw[eM] at cR hr hl
  refine⟨H.push (.cells (cw c_ (jg (d::l))) 40 .aE 0 0),.slice H.n 0 (d::l).length (.aE 3),d::l,go ?_,.inr ⟨H.n,by rw[Cj],by simp,cT rfl⟩,hr,hl,hb.trans hb.n (Ext.push (Nat.le_refl _) _),λb o n c e=>(by cases e;omega)⟩
  have bn:=CO A
  rw[eM] at bn
  unfold rK
  simp only[ad,eI,aw,ar,bn,cR]
def Ss(a b c:Bool):Option Bool:=match some a with
 |some true=>(match some b with
  |some true=>(match some c with
   |some true=>some true
   |r=>r)
  |r=>r)
 |r=>r
theorem St(h:J)(f g:b7)(x y:Operand):eo an h .eql 40 x y (.agg (c_ f)) (.agg (c_ g))=some (.bool (cW f.p g.p&&(cW f.x g.x&&dQ (Int.ofNat f.n) (Int.ofNat g.n)))):=by
 have e:eo an h .eql 40 x y (.agg (c_ f)) (.agg (c_ g))=(match Ss (cW f.p g.p) (cW f.x g.x) (dQ (Int.ofNat f.n) (Int.ofNat g.n)) with|some b=>some (.bool b)|none=>none):=by kernel_rfl
 rw[e]
 cases cW f.p g.p<;>cases cW f.x g.x<;>cases dQ (Int.ofNat f.n) (Int.ofNat g.n)<;>rfl
theorem Su(f g:b7):(cW f.p g.p&&(cW f.x g.x&&dQ (Int.ofNat f.n) (Int.ofNat g.n)))=true<->f=g:=by
 obtain⟨a,b,c⟩:=f
 obtain⟨b1,ib,c'⟩:=g
 rw[hA,hA,QQ]
 simp
theorem CP{h:J}{p i:Nat}{ds:List b7}(aj:h.get p=some (.cells (cw c_ ds) 40 .aE 0 0))(ag:i<ds.length):aU.loadCells h p (0+i*3) 3=some (c_ ds[i]):=by
 have Sv:h.get p=some (.cells (cw c_ ds++[]) 40 .aE 0 0):=by rw[List.append_nil];exact aj
 exact FY (w:=3) (λ_=>rfl) Sv ag (by omega)
theorem CQ{h:J}{p i:Nat}{ds:List b7}(aj:h.get p=some (.cells (cw c_ ds) 40 .aE 0 0))(ag:i<ds.length):aO h p (0+i*3+0)=some (.str ds[i].p):=by
 refine ld1 aj ?_
 rw[lE,cw,sS (w:=3) (λ_=>rfl),if_pos (by omega),show(0+i*3+0)/3=i by omega,show(0+i*3+0) %3=0 by omega,List.getElem?_eq_getElem ag]
 rfl
def mT(h:J)(v:I)(cm:List a1):Prop:=(v=.bK/\cm=[])\/∃b off cp,v=.slice b off cm.length cp/\b<h.n/\∀i (ag:i<cm.length),aO h b (off+i*1)=some (.str cm[i])
theorem mT.ext{h g:J}{v:I}{cm:List a1}(o:mT h v cm)(x:Ext h.n h g):mT g v cm:=by
 rcases o with o|⟨b,off,cp,dp,dD,l5⟩
 · exact .inl o
 · exact .inr ⟨b,off,cp,dp,by have:=x.n;omega,λi ag=>aU.Bh x dD (l5 i ag)⟩
theorem mT.sound{h:J}{v:I}{cm:List a1}(o:mT h v cm):v.sound=true:=by
 rcases o with⟨rfl,_⟩|⟨b,off,cp,rfl,_⟩<;>rfl
theorem Sw(call:cJ){h:J}{ef N i:Nat}{p:a1}{eV hM:I}{cm:List a1}(i1:i<N)(aZ:∀g,Ext h.n h g->aO g ef (0+i*3+0)=some (.str p))(ab:mT h hM cm)(lc:cm.length<=1000){Q:bh->aQ->Prop}
  (gQ:∀g l b,(b=true<->p∈cm)->eu [(0,.slice ef 0 N (.aE 3)),(1,eV),(2,hM),(7,ak i),(8,.bool b)] l->Ext h.n h g->Q (.exit 2) (bb l g)){z:J}(aL:Ext h.n h z):
  cc an Tryd.f14 call [1,0,1,0,0,1,0,0,1,0,1,0] (bb [(0,.slice ef 0 N (.aE 3)),(1,eV),(2,hM),(7,ak i),(8,.bool false),(9,ak 0)] z) Q:=by
 refine q9 (λk st=>∃j z b Γ,st=lg Γ z/\eu [(0,.slice ef 0 N (.aE 3)),(1,eV),(2,hM),(7,ak i),(8,.bool b),(9,ak j)] Γ/\cm.length-j=k/\j<=cm.length/\Ext h.n h z/\(b=true<->p∈cm.take j)) ?_ cm.length _ (by omega) ⟨0,z,false,_,rfl,⟨rfl,rfl,rfl,rfl,rfl,rfl,trivial⟩,by omega,by omega,aL,by simp⟩
 rintro k st ⟨j,z,b,Γ,rfl,gA,hk,aG,aL,ad⟩
 have ek:Ext h.n h (z.room 14):=aL.trans aL.n (Ext.room _ _ _)
 have fin:¬j<cm.length->(b=true<->p∈cm):=λaB=>by rw[ad,List.take_of_length_le (by omega)]
 have wm:∀(dj:j<cm.length) (ib:Bool),(ib=true<->(b=true\/cm[j]=p))->(ib=true<->p∈cm.take (j+1)):=λdj ib e=>by
  rw[e,ad,List.take_succ_eq_append_getElem dj,List.mem_append,List.mem_singleton]
  exact⟨λh=>h.imp_right λe=>e.symm,λh=>h.imp_right λe=>e.symm⟩
 rcases ab with⟨rfl,rfl⟩|⟨cF,off,cp,rfl,iH,jX⟩
 · cases b with
   |true=>exact iN (Si call ef N i j eV .bK z ⟨0,rfl,by omega,gQ z _ true (fin (by simp)) ⟨rfl,rfl,rfl,rfl,rfl,trivial⟩ aL⟩) gA
   |false=>exact iN (Sl call ef N i j eV .bK z ⟨0,rfl,by omega,gQ z _ false (fin (by simp)) ⟨rfl,rfl,rfl,rfl,rfl,trivial⟩ aL⟩) gA
 · cases b with
   |true=>
    refine iN (Sg call ef N i j cF off cm.length cp eV z ⟨λdj=>⟨λ_=>⟨by omega,_,(by show _<k;omega),j+1,z.room 14,true,_,rfl,⟨rfl,rfl,rfl,rfl,rfl,rfl,trivial⟩,rfl,by omega,ek,wm dj true (by simp)⟩,λh=>(by cases h)⟩,λdj=>gQ z _ true (fin dj) ⟨rfl,rfl,rfl,rfl,rfl,trivial⟩ aL⟩) gA
   |false=>
    refine iN (Sj call ef N i j cF off cm.length cp eV z ⟨λdj=>⟨λh=>(by cases h),λ_=>⟨dj,cm[j],aU.Bh ek iH (jX j dj),i1,p,aZ _ ek,by omega,_,(by show _<k;omega),j+1,z.room 14,cW cm[j] p,_,rfl,⟨rfl,rfl,rfl,rfl,rfl,rfl,trivial⟩,rfl,by omega,ek,wm dj _ (by rw[hA];simp)⟩⟩,λdj=>gQ z _ false (fin dj) ⟨rfl,rfl,rfl,rfl,rfl,trivial⟩ aL⟩) gA
theorem IM(call:cJ){h:J}{ef N i:Nat}{f:b7}{eV hM:I}{B:List b7}(i1:i<N)(aZ:∀g,Ext h.n h g->aU.loadCells g ef (0+i*3) 3=some (c_ f))(aN:ln h eV B)(my:B.length<=1000){bW:Bool}(hf:bW=true\/f∈B){Q:bh->aQ->Prop}
  (gQ:∀g l,eu [(0,.slice ef 0 N (.aE 3)),(1,eV),(2,hM),(7,ak i),(8,.bool true)] l->Ext h.n h g->Q (.exit 4) (bb l g)){z:J}(aL:Ext h.n h z):
  cc an Tryd.f14 call [1,0,1,0,0,1,0,0,1,1,0,1,0] (bb [(0,.slice ef 0 N (.aE 3)),(1,eV),(2,hM),(7,ak i),(8,.bool bW),(10,ak 0)] z) Q:=by
 refine q9 (λk st=>∃j z b Γ,st=lg Γ z/\eu [(0,.slice ef 0 N (.aE 3)),(1,eV),(2,hM),(7,ak i),(8,.bool b),(10,ak j)] Γ/\B.length-j=k/\j<=B.length/\Ext h.n h z/\(b=true<->bW=true\/f∈B.take j)) ?_ B.length _ (by omega) ⟨0,z,bW,_,rfl,⟨rfl,rfl,rfl,rfl,rfl,rfl,trivial⟩,by omega,by omega,aL,by simp⟩
 rintro k st ⟨j,z,b,Γ,rfl,gA,hk,aG,aL,ad⟩
 have ek:Ext h.n h (z.room 13):=aL.trans aL.n (Ext.room _ _ _)
 have fin:¬j<B.length->b=true:=λaB=>by rw[ad,List.take_of_length_le (by omega)];exact hf
 have wm:∀(dj:j<B.length) (ib:Bool),(ib=true<->(b=true\/f=B[j]))->(ib=true<->bW=true\/f∈B.take (j+1)):=λdj ib e=>by
  rw[e,ad,List.take_succ_eq_append_getElem dj,List.mem_append,List.mem_singleton,or_assoc]
 rcases aN with⟨rfl,rfl⟩|⟨nE,rfl,Sx,aj⟩
 · obtain rfl:=fin (by simp)
   exact iN (Sm call ef N i j .bK hM z ⟨0,rfl,by omega,gQ z _ ⟨rfl,rfl,rfl,rfl,rfl,trivial⟩ aL⟩) gA
 · cases b with
   |true=>
    refine iN (Sh call ef N i j nE B.length hM z ⟨λdj=>⟨λ_=>⟨by omega,_,(by show _<k;omega),j+1,z.room 13,true,_,rfl,⟨rfl,rfl,rfl,rfl,rfl,rfl,trivial⟩,rfl,by omega,ek,wm dj true (by simp)⟩,λh=>(by cases h)⟩,λdj=>gQ z _ ⟨rfl,rfl,rfl,rfl,rfl,trivial⟩ aL⟩) gA
   |false=>
    have Sy:(z.room 13).get nE=some (.cells (cw c_ B) 40 .aE 0 0):=(ek.get nE Sx).trans aj
    refine iN (Sk call ef N i j nE B.length hM z ⟨λdj=>⟨λh=>(by cases h),λ_=>⟨i1,f.p,f.x,f.n,aZ _ ek,dj,B[j].p,B[j].x,B[j].n,CP Sy dj,_,St _ f B[j] _ _,by omega,_,(by show _<k;omega),j+1,z.room 13,_,_,rfl,⟨rfl,rfl,rfl,rfl,rfl,rfl,trivial⟩,rfl,by omega,ek,wm dj _ (by rw[Su];simp)⟩⟩,λdj=>absurd (fin dj) (by simp)⟩) gA
theorem IN(m:Nat){h:J}{y7 eV hM:I}{A B:List b7}{cm:List a1}(aH:ln h y7 A)(ad:ln h eV B)(ab:mT h hM cm)(jo:A.length<=1000)(my:B.length<=1000)(lc:cm.length<=1000)(aN:Hs A B cm):∃g,Y (m+1) (.fn 14) [y7,eV,hM] h=.ret (.bool true) g/\Ext h.n h g:=by
 refine Sd m y7 eV hM h (R:=λx=>∃g,x=.ret (.bool true) g/\Ext h.n h g) ?_
 refine q9 (λk st=>∃i y Γ,st=lg Γ y/\eu [(0,y7),(1,eV),(2,hM),(7,ak i)] Γ/\A.length-i=k/\i<=A.length/\Ext h.n h y) ?_ A.length _ (by omega) ⟨0,h,_,rfl,⟨rfl,rfl,rfl,rfl,trivial⟩,by omega,by omega,Ext.refl _ _⟩
 rintro k st ⟨i,y,Γ,rfl,gA,hk,ag,bc⟩
 rcases aH with⟨rfl,rfl⟩|⟨ef,rfl,Sz,pz⟩
 · exact iN (Se _ i .bK eV hM y ⟨0,rfl,by omega,y,_,rfl,rfl,trivial,y,rfl,bc⟩) gA
 refine iN (Sf _ ef A.length i eV hM y ⟨λi1=>?_,λi1=>⟨y,_,rfl,rfl,trivial,y,rfl,bc⟩⟩) gA
 have sR:∀g,Ext h.n h g->g.get ef=some (.cells (cw c_ A) 40 .aE 0 0):=λg x=>(x.get ef Sz).trans pz
 have gR:∀{g2:J} {l2:Env} {Q:bh->aQ->Prop},Ext h.n h g2->(∀g,Ext h.n h g->Q .nrm (bb [(0,.slice ef 0 A.length (.aE 3)),(1,eV),(2,hM),(7,ak (i+1))] g))->
   (0<i->i<A.length/\∃s1,aO (g2.room 20) ef (0+i*3+0)=some (.str s1)/\(1<=i/\i<9223372036854775808)/\i-1<A.length/\∃s2,aO (g2.room 20) ef (0+(i-1)*3+0)=some (.str s2)/\(!dA s2 s1)=false/\i+1<9223372036854775808/\Q .nrm (bb [(0,.slice ef 0 A.length (.aE 3)),(1,eV),(2,hM),(7,ak (i+1))] (g2.room 20)))/\
   (¬0<i->i+1<9223372036854775808/\Q .nrm (bb [(0,.slice ef 0 A.length (.aE 3)),(1,eV),(2,hM),(7,ak (i+1))] (g2.room 20))):=λ{g2} {l2} {Q} x bj=>by
  have ek:Ext h.n h (g2.room 20):=x.trans x.n (Ext.room _ _ _)
  refine⟨λay=>⟨i1,A[i].p,CQ (sR _ ek) i1,⟨ay,by omega⟩,by omega,A[i-1].p,CQ (sR _ ek) (by omega),?_,by omega,bj _ ek⟩,λ_=>⟨by omega,bj _ ek⟩⟩
  have:=List.pairwise_iff_getElem.1 aN.2 (i-1) i (by omega) i1 (by omega)
  rw[this];rfl
 refine Sw _ (p:=A[i].p) i1 (λg x=>CQ (sR g x) i1) ab lc (λg1 dx b ju rE dq=>?_) bc
 cases b with
 |true=>
  refine .inl ⟨g1,dx,rfl,rfl,rE,IM _ (f:=A[i]) i1 (λg x=>CP (sR g x) i1) ad my (.inl rfl) (λg2 l2 kk cd=>⟨g2,l2,rfl,rfl,kk,gR (l2:=l2) cd λg x=>⟨_,(by show _<k;omega),i+1,g,_,rfl,⟨rfl,rfl,rfl,rfl,trivial⟩,rfl,by omega,x⟩⟩) dq⟩
 |false=>
  have dU:A[i]∈B:=(aN.1 A[i] (List.getElem_mem i1)).resolve_left λaf=>by have:=ju.2 af;cases this
  refine .inr ⟨g1,dx,rfl,rfl,rE,IM _ (f:=A[i]) i1 (λg x=>CP (sR g x) i1) ad my (.inr dU) (λg2 l2 kk cd=>⟨g2,l2,rfl,rfl,kk,gR (l2:=l2) cd λg x=>⟨_,(by show _<k;omega),i+1,g,_,rfl,⟨rfl,rfl,rfl,rfl,trivial⟩,rfl,by omega,x⟩⟩) dq⟩
structure hN(i:Nat)(s:dd):Prop where
 ok:kA s
 lT:s.ej<=Int.ofNat (5000*i)
 bC:∀c,de s.ts c<=i
theorem hN.up{i:Nat}{s:dd}(h:hN i s):hN (i+1) s:=⟨h.ok,by have:=h.lT;simp only[Int.ofNat_eq_natCast] at this⊢;omega,λc=>Nat.le_succ_of_le (h.bC c)⟩
theorem hN.put{i:Nat}{s:dd}(h:hN i s){p x:a1}(ah:kz p x s=true)(U:x.length<=5000):hN (i+1) (fq p x s).2:=by
 refine⟨(Hl h.ok ah).1,?_,λc=>?_⟩
 · show s.ej+(Int.ofNat x.length-Int.ofNat (dJ s.aP p))<=_
   have:=h.lT
   simp only[Int.ofNat_eq_natCast] at this⊢
   omega
 · show de (gu s.ts p (de s.ts p+1)) c<=i+1
   rw[yO]
   have h1:=h.bC c
   have aa:=h.bC p
   split<;>omega
theorem hN.take{i:Nat}{s:dd}(h:hN i s)(p:a1):hN (i+1) (dT p s):=by
 refine⟨(yP h.ok p).1,?_,λc=>Nat.le_succ_of_le (h.bC c)⟩
 show s.ej-Int.ofNat (dJ s.aP p)<=_
 have:=h.lT
 simp only[Int.ofNat_eq_natCast] at this⊢
 omega
theorem hN.move{i:Nat}{s:dd}(h:hN i s){p q:a1}{f:b7}(hf:da s.aP p=some f)(bj:da s.aP q=none):hN (i+1) (fq q f.x (dT p s)).2:=by
 have aq:dJ s.aP p=f.x.length:=by unfold dJ;rw[hf]
 refine⟨(Hm h.ok hf bj).1,?_,λc=>?_⟩
 · show(s.ej-Int.ofNat (dJ s.aP p))+(Int.ofNat f.x.length-Int.ofNat (dJ (dT p s).aP q))<=_
   have:=h.lT
   rw[aq]
   simp only[Int.ofNat_eq_natCast] at this⊢
   omega
 · show de (gu s.ts q (de s.ts q+1)) c<=i+1
   rw[yO]
   have h1:=h.bC c
   have aa:=h.bC q
   split<;>omega
theorem SA{cl:a1->Option a1}{i:Nat}{s:dd}{cx:List (a1×Nat)}(h:hN i s)(ae:ll cx s)(p:a1){x:a1}(U:x.length<=5000):
  hN (i+1) (gD cl p x s).2.2/\(¬(gD cl p x s).2.1=0->(gD cl p x s).2.2=s)/\
  ((gD cl p x s).2.1=0->∃f,fN cl p (gD cl p x s).2.2=(f,0)/\f.x=x/\f.n=(gD cl p x s).1/\¬(gD cl p x s).1<=de cx f.p/\ll (gu cx f.p (gD cl p x s).1) (gD cl p x s).2.2/\ha s.aP (gD cl p x s).2.2.aP [f.p]/\ha (gD cl p x s).2.2.aP s.aP [f.p]):=by
 unfold gD
 cases ab:cl p with
 |none=>exact⟨h.up,λ_=>rfl,λe=>by simp at e⟩
 |some c=>
  simp only
  by_cases aq:x.length<=4096
  · rw[if_pos aq]
    by_cases ah:kz c x s=true
    · rw[if_pos ah]
      obtain⟨bz,bZ,eO,ho⟩:=Hl h.ok ah
      obtain⟨dj,hB⟩:=Hn ae c x
      refine⟨h.put ah U,λe=>absurd rfl e,λ_=>⟨⟨c,x,(fq c x s).1⟩,?_,rfl,rfl,Nat.not_le.2 dj,hB,bZ,eO⟩⟩
      simp only[fN,ab,ho]
    · rw[if_neg ah]
      exact⟨h.up,λ_=>rfl,λe=>by simp at e⟩
  · rw[if_neg aq]
    exact⟨h.up,λ_=>rfl,λe=>by simp at e⟩
theorem zN{cl:a1->Option a1}{i:Nat}{s:dd}{cx:List (a1×Nat)}(h:hN i s)(ae:ll cx s)(p:a1):
  hN (i+1) (iR cl p s).2/\ll cx (iR cl p s).2/\(¬(iR cl p s).1=0->(iR cl p s).2=s)/\
  ((iR cl p s).1=0->(fN cl p (iR cl p s).2).2=5/\ha s.aP (iR cl p s).2.aP [(fN cl p s).1.p]/\ha (iR cl p s).2.aP s.aP [(fN cl p s).1.p]):=by
 unfold iR
 cases ab:cl p with
 |none=>exact⟨h.up,ae,λ_=>rfl,λe=>by simp at e⟩
 |some c=>
  simp only
  cases hf:da s.aP c with
  |none=>exact⟨h.up,ae,λ_=>rfl,λe=>by simp at e⟩
  |some f=>
   obtain⟨bz,bZ,eO,ho⟩:=yP h.ok c
   have aw:(fN cl p s).1.p=c:=by simp only[fN,ab,hf];exact(nz hf).2
   rw[aw]
   refine⟨h.take c,Ho ae c,λe=>absurd rfl e,λ_=>⟨?_,bZ,eO⟩⟩
   simp only[fN,ab,ho]
theorem SB{cl:a1->Option a1}{i:Nat}{s:dd}{cx:List (a1×Nat)}(h:hN i s)(ae:ll cx s)(p q:a1):
  hN (i+1) (gm cl p q s).2.2/\(¬(gm cl p q s).2.1=0->(gm cl p q s).2.2=s)/\
  ((gm cl p q s).2.1=0->∃f,fN cl q (gm cl p q s).2.2=(f,0)/\(fN cl p (gm cl p q s).2.2).2=5/\f.x=(fN cl p s).1.x/\f.n=(gm cl p q s).1/\¬(gm cl p q s).1<=de cx f.p/\ll (gu cx f.p (gm cl p q s).1) (gm cl p q s).2.2/\
    ha s.aP (gm cl p q s).2.2.aP [(fN cl p s).1.p,f.p]/\ha (gm cl p q s).2.2.aP s.aP [(fN cl p s).1.p,f.p]):=by
 unfold gm
 cases ab:cl p with
 |none=>exact⟨h.up,λ_=>rfl,λe=>by simp at e⟩
 |some c=>
  simp only
  cases al:cl q with
  |none=>exact⟨h.up,λ_=>rfl,λe=>by simp at e⟩
  |some d=>
   simp only
   cases hf:da s.aP c with
   |none=>exact⟨h.up,λ_=>rfl,λe=>by simp at e⟩
   |some f=>
    simp only
    cases aj:da s.aP d with
    |some g=>exact⟨h.up,λ_=>rfl,λe=>by simp at e⟩
    |none=>
     rw[if_neg (by simp)]
     obtain⟨bz,bZ,eO,ho,jr⟩:=Hm h.ok hf aj
     obtain⟨dj,hB⟩:=Hn (Ho ae c) d f.x
     have aw:(fN cl p s).1=f:=by simp only[fN,ab,hf]
     have ar:f.p=c:=(nz hf).2
     rw[aw,ar]
     refine⟨h.move hf aj,λe=>absurd rfl e,λ_=>⟨⟨d,f.x,(fq d f.x (dT c s)).1⟩,?_,?_,rfl,rfl,Nat.not_le.2 dj,hB,bZ,eO⟩⟩
     · simp only[fN,al,ho]
     · simp only[fN,ab,jr]
def lo(h:J)(m:Nat)(cx:List (a1×Nat)):Prop:=∃c,∃T:List (dh Nat),h.get m=some (.map (T.map (fa tj)) c)/\(T.map (·.k)).Nodup/\((∀x∈T,x.born<c)/\(T.map (·.born)).Nodup)/\cx=T.map λx=>(x.k,x.v)
theorem lo.fm{h g:J}{m:Nat}{cx:List (a1×Nat)}(o:lo h m cx)(e:g.get m=h.get m):lo g m cx:=by
 obtain⟨c,T,dp,dD⟩:=o
 exact⟨c,T,e.trans dp,dD⟩
theorem lo.look{h:J}{m:Nat}{cx:List (a1×Nat)}(o:lo h m cx)(k:a1):gq an h 28 (.map m) (.str k) false=some (a6 (de cx k)):=by
 obtain⟨c,T,dp,dD,l5,rfl⟩:=o
 by_cases U:∃x∈T,x.k=k
 · obtain⟨x,U,rfl⟩:=U
   rw[HC dD U]
   exact th rO dp dD U false
 · have aB:∀x∈T,x.k≠k:=λx h1 aa=>U ⟨x,h1,aa⟩
   rw[HD aB]
   exact yN rO Hv dp aB false
theorem lo.eJ{h:J}{m:Nat}{cx:List (a1×Nat)}(o:lo h m cx)(k:a1)(n:Nat):∃g,jj an h 28 (.map m) (.str k) (a6 n)=some g/\lo g m (gu cx k n)/\g.n=h.n/\∀d,d≠m->g.get d=h.get d:=by
 obtain⟨c,T,dp,dD,l5,rfl⟩:=o
 obtain⟨M,c',di,dC,gf,gK,jB,_,_⟩:=Cl rO dp dD l5 k n
 refine⟨_,di,⟨c',M,fw rfl,gf,⟨gK,jB⟩,?_⟩,rfl,λd al=>dt al rfl⟩
 rw[<-HB T c k n,dC]
 rfl
theorem IP{h:J}{c:Nat}{xs:List a1}(ab:h.get c=some (av [] 9))(aB:c<h.n)(ay:0<xs.length)(aq:xs.length<=100):
  eA an (h.push (av (xs.map .str) 9)) 35 (some 35) (.slice c 0 0 (.exact 0)) (.slice h.n 0 xs.length (.exact xs.length))=some (.slice (h.n+1) 0 xs.length (.aE 1),(h.push (av (xs.map .str) 9)).push (.cells (xs.map .str) 9 .aE 0 0)):=by
 obtain⟨H,hH⟩:∃H,H=h.push (av (xs.map .str) 9):=⟨_,rfl⟩
 have wa:H.n=h.n+1:=by rw[hH];rfl
 have g1:H.get h.n=some (av (xs.map .str) 9):=by rw[hH];exact cT rfl
 have g2:H.get c=some (av [] 9):=by rw[hH];exact b8 aB ab
 rw[<-hH,<-wa]
 have ag:(an.info? 9).map (λi=>(i.size,i.bytes))=some (1,16):=by kernel_rfl
 cases j6:an.info? 9 with
 |none=>rw[j6] at ag;cases ag
 |some i=>
  rw[j6] at ag
  simp only[Option.map_some,Option.some.injEq,Prod.mk.injEq] at ag
  have hu:an.underlying 35=some (.slice 9):=by kernel_rfl
  have fs:l_ an (some 35)=true:=by kernel_rfl
  have aL:dV an 9=some (.str []):=by kernel_rfl
  have wj:(xs.map I.str).length=xs.length:=by simp
  have ld:aU.loadCells H h.n 0 xs.length=some (xs.map .str):=by
   refine mJ g1 ?_
   have:=ye (xs.map I.str) [] xs.length wj
   rw[List.append_nil] at this
   exact this
  have oa:hz H 1 (.slice h.n 0 xs.length (.exact xs.length))=some (xs.length,xs.map .str):=by
   simp only[hz,Nat.mul_one,ld]
  have fY:aU.loadCells H c 0 0=some []:=mJ g2 rfl
  have lM:iD xs.length i.bytes=true:=by
   rw[ag.2]
   have:(4*xs.length+2048)*(16+1)<=281474976710656:=by omega
   simpa[iD] using this
  have aj:=q1 (h:=H) (e:=9) (size:=1) (fz:=0) (z:=.str []) lM (by rfl) (cs:=xs.map .str) (Im xs)
  have ad:Nat.ble (0+xs.length) 0=false:=by
   cases U:Nat.ble (0+xs.length) 0 with
   |false=>rfl
   |true=>have:=Nat.le_of_ble_eq_true U;omega
  rw[Nat.zero_add] at ad
  simp only[eA,hu,fs,j6,aL,ag.1,oa,fY,Nat.zero_mul,List.nil_append,Nat.zero_add,ad]
  exact aj
end Go.Proofs.h3
